/-
  What represents an abstract heap in a world; loads, stores and new objects keep it.
-/
import Derived.Test.YtcboaonbfgjmgaaAm2
import Derived.Laws.Sem
import Derived.Laws.Cells
namespace Go.Am

def wrOf : AObj → Bool
  | .cells _ wr _ => wr
  | .map _ _ => true
def lenOfO : AObj → Nat
  | .cells cs _ _ => cs.length
  | .map _ _ => 0

/-- A map's entries, one by one. -/
def relE (ρ : LMap) : List (AV × AV × Nat) → List MapEntry → Prop
  | [], l => l = []
  | (k, v, n) :: es, l => ∃ e r, l = e :: r ∧ rel ρ k e.key ∧ rel ρ v e.val ∧ e.born = n ∧ relE ρ es r

def objOk (ρ : LMap) (w : World) (l : Loc) : AObj → Prop
  | .cells cs wr _ => ∃ arr el lo hi, w.heap[l.blk]? = some (.cells arr el (lo, hi)) ∧ arr.size = l.n ∧ l.d + cs.length ≤ l.n ∧
      relL ρ cs ((arr.toList.drop l.d).take cs.length) ∧ (wr = true → lo = hi ∨ l.n ≤ lo)
  | .map es clock => ∃ mes, w.heap[l.blk]? = some (.map mes clock) ∧ relE ρ es mes.toList

structure Rep (E : Env) (w0 : World) (H : AHeap) (w : World) (ρ : LMap) : Prop where
  size : w0.heap.size ≤ w.heap.size
  old : ∀ b, b < w0.heap.size → w.heap[b]? = w0.heap[b]?
  env : ∀ b cs, E b = some cs → b < w0.heap.size ∧ ∃ arr el fr, w0.heap[b]? = some (.cells arr el fr) ∧ relL (fun _ => none) cs arr.toList
  side : w.os = w0.os ∧ w.output = w0.output
  objs : ∀ k o, H.get k = some o → ∃ l, ρ k = some l ∧ w0.heap.size ≤ l.blk ∧ objOk ρ w l o
  apart : ∀ k k' o o' l l', H.get k = some o → H.get k' = some o' → ρ k = some l → ρ k' = some l' → k ≠ k' → l.blk = l'.blk → k ∈ preOf o' ∨ k' ∈ preOf o
  pres : ∀ k o, H.get k = some o → ∀ p ∈ preOf o, p ≠ k ∧ (ρ p).isSome
  kin : ∀ k p o op l lp, H.get k = some o → p ∈ preOf o → H.get p = some op → ρ k = some l → ρ p = some lp → wrOf op = false ∧ (lp.blk = l.blk → lp.d + lenOfO op ≤ l.d + lenOfO o)

def putBlock (w : World) (b : Nat) (o : Obj) : World := { w with heap := w.heap.setIfInBounds b o }

section
variable {E : Env} {w0 : World} {H : AHeap} {w : World} {ρ ρ' : LMap}

theorem relE_ext (h : Ext ρ ρ') : ∀ {es : List (AV × AV × Nat)} {l : List MapEntry}, relE ρ es l → relE ρ' es l
  | [], _, r => r
  | (_, _, _) :: _, _, ⟨e, r, h1, h2, h3, h4, h5⟩ => ⟨e, r, h1, rel_ext h _ _ h2, rel_ext h _ _ h3, h4, relE_ext h h5⟩

theorem objOk_ext (h : Ext ρ ρ') {l : Loc} {o : AObj} {w : World} (r : objOk ρ w l o) : objOk ρ' w l o := by
  cases o with
  | cells cs wr pre => obtain ⟨arr, el, lo, hi, h1, h2, h3, h4, h5⟩ := r; exact ⟨arr, el, lo, hi, h1, h2, h3, relL_ext h _ _ h4, h5⟩
  | map es clock => obtain ⟨mes, h1, h2⟩ := r; exact ⟨mes, h1, relE_ext h h2⟩

theorem objOk_heap {l : Loc} {o : AObj} {w w' : World} (r : objOk ρ w l o) (e : w'.heap[l.blk]? = w.heap[l.blk]?) : objOk ρ w' l o := by
  cases o <;> simp only [objOk] at r ⊢ <;> rw [e] <;> exact r

theorem objOk_lt {l : Loc} {o : AObj} {w : World} (r : objOk ρ w l o) : l.blk < w.heap.size := by
  cases o with
  | cells cs wr pre => obtain ⟨arr, el, lo, hi, h1, _⟩ := r; exact (Array.getElem?_eq_some_iff.1 h1).1
  | map es clock => obtain ⟨mes, h1, _⟩ := r; exact (Array.getElem?_eq_some_iff.1 h1).1

/-- The cells of an object lie in a block. -/
theorem Rep.cells (R : Rep E w0 H w ρ) {o : Id} {cs : List AV} (h : cellsOf E H o = some cs) :
    ∃ b d arr el fr, baseOf ρ o = some (b, d) ∧ w.heap[b]? = some (.cells arr el fr) ∧ d + cs.length ≤ arr.size ∧ relL ρ cs ((arr.toList.drop d).take cs.length) := by
  cases o with
  | old b =>
    obtain ⟨hb, arr, el, fr, h1, h2⟩ := R.env b cs h
    have hl := relL_length h2
    refine ⟨b, 0, arr, el, fr, rfl, by rw [R.old b hb, h1], by simp [hl], ?_⟩
    simp only [List.drop_zero]
    rw [List.take_of_length_le (by omega)]
    exact relL_ext (fun _ _ e => by cases e) _ _ h2
  | new k =>
    simp only [cellsOf] at h
    split at h
    · rename_i cs' wr pre hk
      cases h
      obtain ⟨l, hl, _, arr, el, lo, hi, h1, h2, h3, h4, _⟩ := R.objs k _ hk
      exact ⟨l.blk, l.d, arr, el, (lo, hi), by simp [baseOf, hl], h1, by omega, h4⟩
    · cases h

theorem Addr.add_plain (b o n : Nat) : (⟨b, o, none⟩ : Addr).add n = ⟨b, o + n, none⟩ := by unfold Addr.add; split <;> simp_all

theorem cell?_block {b i : Nat} {arr : Array Value} {el : TypeId} {fr : Nat × Nat} (h : w.heap[b]? = some (.cells arr el fr)) :
    w.cell? ⟨b, i, none⟩ = arr[i]? := by simp [World.cell?, h]
theorem frozen?_block {b i : Nat} {arr : Array Value} {el : TypeId} {lo hi : Nat} (h : w.heap[b]? = some (.cells arr el (lo, hi))) :
    w.frozen? ⟨b, i, none⟩ = (decide (lo ≤ i) && decide (i < hi)) := by simp [World.frozen?, h]
theorem setCell_block {b i : Nat} {v : Value} {arr : Array Value} {el : TypeId} {fr : Nat × Nat} (h : w.heap[b]? = some (.cells arr el fr)) :
    w.setCell ⟨b, i, none⟩ v = putBlock w b (.cells (arr.setIfInBounds i v) el fr) := by
  obtain ⟨hb, hv⟩ := Array.getElem?_eq_some_iff.1 h
  cases w with
  | mk heap tape drawn os output =>
    simp only [World.setCell, putBlock, World.mk.injEq, and_true]
    apply Array.ext_getElem?
    intro j
    simp only [Array.getElem?_modify, Array.getElem?_setIfInBounds]
    split
    · rename_i e; subst e
      simp only at hb h
      rw [h]; rfl
    · rfl
theorem heap_putBlock (b j : Nat) (o : Obj) (hb : b < w.heap.size) : (putBlock w b o).heap[j]? = if b = j then some o else w.heap[j]? := by
  simp only [putBlock, Array.getElem?_setIfInBounds, hb, if_true]
theorem size_putBlock (b : Nat) (o : Obj) : (putBlock w b o).heap.size = w.heap.size := by simp [putBlock]
theorem putBlock_putBlock (b : Nat) (o o' : Obj) : putBlock (putBlock w b o) b o' = putBlock w b o' := by
  cases w; simp [putBlock]

theorem take_get {α : Type} (l : List α) (d i n : Nat) (h : i < n) : ((l.drop d).take n)[i]? = l[d + i]? := by
  rw [List.getElem?_take, if_pos h, List.getElem?_drop]

/-- A load. -/
theorem Rep.load (R : Rep E w0 H w ρ) {o : Id} {i : Nat} {a : AV} (h : loadCell E H o i = some a) :
    ∃ b d v, baseOf ρ o = some (b, d) ∧ w.cell? ⟨b, d + i, none⟩ = some v ∧ rel ρ a v := by
  unfold loadCell at h
  split at h
  · rename_i cs hc
    obtain ⟨b, d, arr, el, fr, h1, h2, h3, h4⟩ := R.cells hc
    obtain ⟨v, hv, hr⟩ := relL_get h4 i h
    have hi : i < cs.length := (List.getElem?_eq_some_iff.1 h).1
    rw [take_get _ _ _ _ hi] at hv
    exact ⟨b, d, v, h1, by rw [cell?_block h2]; simpa using hv, hr⟩
  · cases h

theorem Rep.loads (R : Rep E w0 H w ρ) {P : Program} {o : Id} {i n : Nat} {as : List AV} (h : loadRange E H o i n = some as) :
    ∃ b d vs, baseOf ρ o = some (b, d) ∧ (∀ w', w'.heap = w.heap → (loadCells ⟨b, d + i, none⟩ n).run P w' = .ok ⟨vs⟩ w') ∧ relL ρ as vs ∧ as.length = n := by
  unfold loadRange at h
  split at h
  · rename_i cs hc
    split at h
    · rename_i hn
      cases h
      obtain ⟨b, d, arr, el, fr, h1, h2, h3, h4⟩ := R.cells hc
      have hl := relL_length h4
      refine ⟨b, d, (arr.toList.drop (d + i)).take n, h1, fun w' hw => ?_, ?_, by simp; omega⟩
      · have h2 : w'.heap[b]? = some (.cells arr el fr) := by rw [hw]; exact h2
        have hlen : ((arr.toList.drop (d + i)).take n).length = n := by simp; omega
        have := run_loadCells_list (P := P) w' ⟨b, d + i, none⟩ ((arr.toList.drop (d + i)).take n) (fun j v hj => by
          have hjn : j < n := by have := (List.getElem?_eq_some_iff.1 hj).1; omega
          rw [Addr.add_plain, cell?_block h2]
          rw [take_get _ _ _ _ hjn] at hj
          simpa using hj)
        rw [hlen] at this
        rw [this]
      · have := relL_take (relL_drop h4 i) n
        rw [List.drop_take, List.drop_drop, List.take_take, Nat.min_eq_left (by omega)] at this
        exact this
    · cases h
  · cases h

def setManyV : Array Value → Nat → List Value → Array Value
  | a, _, [] => a
  | a, i, v :: vs => setManyV (a.setIfInBounds i v) (i + 1) vs
theorem size_setManyV : ∀ (vs : List Value) (a : Array Value) (i : Nat), (setManyV a i vs).size = a.size
  | [], _, _ => rfl
  | v :: vs, a, i => by rw [setManyV, size_setManyV vs]; simp
theorem length_setMany : ∀ (vs cs : List AV) (i : Nat), (setMany cs i vs).length = cs.length
  | [], _, _ => rfl
  | v :: vs, cs, i => by rw [setMany, length_setMany vs]; simp

theorem scalar_oneCell {a : AV} {v : Value} (h : rel ρ a v) (hs : scalar a = true) : v.oneCell' = true := by
  have := scalar_rel h hs
  cases v <;> simp_all [Value.oneCell']

theorem run_storeCells_block {P : Program} (b off : Nat) (el : TypeId) (lo hi : Nat) : ∀ (vs : List Value) (i : Nat) (w : World) (arr : Array Value),
    w.heap[b]? = some (.cells arr el (lo, hi)) → off + i + vs.length ≤ arr.size → (lo = hi ∨ arr.size ≤ lo) → (∀ v ∈ vs, v.oneCell' = true) →
    (storeCells ⟨b, off, none⟩ vs i).run P w = .ok () (putBlock w b (.cells (setManyV arr (off + i) vs) el (lo, hi)))
  | [], i, w, arr, h, _, _, _ => by
    simp only [storeCells, Sem.run_pure, setManyV]
    congr 1
    obtain ⟨hb, hv⟩ := Array.getElem?_eq_some_iff.1 h
    cases w with
    | mk heap tape drawn os output =>
      simp only [putBlock, World.mk.injEq, and_true]
      apply Array.ext_getElem?
      intro j
      simp only [Array.getElem?_setIfInBounds]
      split
      · rename_i e; subst e
        simp only at hb h
        rw [h]
      · rfl
  | v :: vs, i, w, arr, h, hn, hf, hv => by
    have hb := (Array.getElem?_eq_some_iff.1 h).1
    simp only [List.length_cons] at hn
    have hc : w.cell? ⟨b, off + i, none⟩ = some (arr[off + i]'(by omega)) := by rw [cell?_block h]; simp
    have hfz : w.frozen? ⟨b, off + i, none⟩ = false := by
      rw [frozen?_block h]
      rcases hf with e | e
      · subst e; simp only [Bool.and_eq_false_iff, decide_eq_false_iff_not]; omega
      · simp only [Bool.and_eq_false_iff, decide_eq_false_iff_not]; omega
    have hst : (store ((⟨b, off, none⟩ : Addr).add i) v).run P w = .ok () (putBlock w b (.cells (arr.setIfInBounds (off + i) v) el (lo, hi))) := by
      rw [Addr.add_plain, run_store P w _ v _ (hv v (by simp)), hc]
      simp only [hfz, setCell_block h]
      rfl
    rw [storeCells]
    simp only [Sem.run_bind, hst, Result.andThen_ok]
    rw [run_storeCells_block b off el lo hi vs (i + 1) _ (arr.setIfInBounds (off + i) v) (by rw [heap_putBlock _ _ _ hb]; simp) (by simp; omega) (by simpa using hf) (fun u hu => hv u (by simp [hu])), putBlock_putBlock]
    rfl

theorem relL_setMany : ∀ {as : List AV} {vs : List Value} {cs : List AV} {arr : Array Value} {d : Nat} (i : Nat), relL ρ as vs → i + as.length ≤ cs.length →
    relL ρ cs ((arr.toList.drop d).take cs.length) → relL ρ (setMany cs i as) (((setManyV arr (d + i) vs).toList.drop d).take cs.length)
  | [], vs, cs, arr, d, i, h, _, hc => by rw [relL_nil] at h; subst h; exact hc
  | a :: as, [], _, _, _, _, h, _, _ => (relL_not_cons h).elim
  | a :: as, v :: vs, cs, arr, d, i, h, hn, hc => by
    rw [relL_cons] at h
    simp only [List.length_cons] at hn
    have h1 : relL ρ (cs.set i a) (((arr.setIfInBounds (d + i) v).toList.drop d).take (cs.set i a).length) := by
      have := relL_set hc i h.1
      rw [List.length_set, Array.toList_setIfInBounds, List.drop_set, if_neg (by omega), List.take_set, show d + i - d = i by omega]
      exact this
    have := relL_setMany (d := d) (i + 1) h.2 (by simp; omega) h1
    rw [List.length_set] at this
    exact this

def upd (ρ : LMap) (k : Nat) (l : Loc) : LMap := fun j => if j = k then some l else ρ j
theorem upd_same (k : Nat) (l : Loc) : upd ρ k l k = some l := by simp [upd]
theorem upd_ne {k j : Nat} (l : Loc) (h : j ≠ k) : upd ρ k l j = ρ j := by simp [upd, h]
theorem upd_ext {k : Nat} (l : Loc) (h : ρ k = none) : Ext ρ (upd ρ k l) := by
  intro j m e
  rw [upd_ne]
  · exact e
  · rintro rfl; rw [h] at e; cases e

theorem Rep.heap_eq (R : Rep E w0 H w ρ) {w' : World} (h : w'.heap = w.heap) (h2 : w'.os = w.os ∧ w'.output = w.output := by exact ⟨rfl, rfl⟩) : Rep E w0 H w' ρ where
  size := by rw [h]; exact R.size
  old := by rw [h]; exact R.old
  env := R.env
  side := ⟨h2.1.trans R.side.1, h2.2.trans R.side.2⟩
  objs k o e := let ⟨l, h1, h2, h3⟩ := R.objs k o e; ⟨l, h1, h2, objOk_heap h3 (by rw [h])⟩
  apart := R.apart
  pres := R.pres
  kin := R.kin

theorem Rep.log_eq (R : Rep E w0 H w ρ) {H' : AHeap} (h : H'.objs = H.objs) : Rep E w0 H' w ρ := by
  have e : ∀ k, H'.get k = H.get k := fun k => by simp [AHeap.get, h]
  exact ⟨R.size, R.old, R.env, R.side, fun k o hk => R.objs k o (by rw [← e]; exact hk), fun k k' o o' l l' h1 h2 => R.apart k k' o o' l l' (by rw [← e]; exact h1) (by rw [← e]; exact h2),
    fun k o hk => R.pres k o (by rw [← e]; exact hk), fun k p o op l lp h1 h2 h3 => R.kin k p o op l lp (by rw [← e]; exact h1) h2 (by rw [← e]; exact h3)⟩

theorem Rep.get_none (R : Rep E w0 H w ρ) {k : Nat} (h : ρ k = none) : H.get k = none := by
  cases e : H.get k with
  | none => rfl
  | some o => obtain ⟨l, hl, _⟩ := R.objs k o e; rw [h] at hl; cases hl

/-- A heap with fewer objects, or of which some have fewer cells and may no more be written. -/
theorem Rep.less (R : Rep E w0 H w ρ) {H' : AHeap} (h : ∀ k o, H'.get k = some o → ∃ o', H.get k = some o' ∧ (o' = o ∨
      ∃ cs wr pre m pre', o' = .cells cs wr pre ∧ o = .cells (cs.take m) false pre' ∧ (pre' = pre ∧ cs.length ≤ m ∨ pre' = [] ∧ ∀ p ∈ pre, H'.get p = none)))
    : Rep E w0 H' w ρ := by
  have inv : ∀ k o, H'.get k = some o → ∃ o', H.get k = some o' ∧ lenOfO o ≤ lenOfO o' ∧ (wrOf o = true → wrOf o' = true) ∧ (∀ p ∈ preOf o, p ∈ preOf o') ∧
      ((∀ p ∈ preOf o', p ∈ preOf o) ∧ lenOfO o = lenOfO o' ∨ preOf o = [] ∧ ∀ p ∈ preOf o', H'.get p = none) := by
    intro k o hk
    obtain ⟨o', h1, h2⟩ := h k o hk
    refine ⟨o', h1, ?_⟩
    rcases h2 with rfl | ⟨cs, wr, pre, m, pre', rfl, rfl, h3⟩
    · exact ⟨Nat.le_refl _, id, fun _ h => h, .inl ⟨fun _ h => h, rfl⟩⟩
    · rcases h3 with ⟨rfl, hm⟩ | ⟨rfl, hp⟩
      · refine ⟨by simp [lenOfO]; omega, by simp [wrOf], fun _ h => h, .inl ⟨fun _ h => h, by simp [lenOfO]; omega⟩⟩
      · exact ⟨by simp [lenOfO]; omega, by simp [wrOf], by simp [preOf], .inr ⟨rfl, hp⟩⟩
  refine ⟨R.size, R.old, R.env, R.side, ?_, ?_, ?_, ?_⟩
  · intro k o hk
    obtain ⟨o', h1, h2⟩ := h k o hk
    obtain ⟨l, hl, hs, ho⟩ := R.objs k o' h1
    refine ⟨l, hl, hs, ?_⟩
    rcases h2 with rfl | ⟨cs, wr, pre, m, pre', rfl, rfl, _⟩
    · exact ho
    · obtain ⟨arr, el, lo, hi, g1, g2, g3, g4, _⟩ := ho
      refine ⟨arr, el, lo, hi, g1, g2, by simp; omega, ?_, by simp⟩
      have := relL_take g4 m
      rw [List.take_take] at this
      rwa [List.length_take]
  · intro k k' o o' l l' h1 h2 h3 h4 h5 h6
    obtain ⟨p, hp, _, _, _, hp4⟩ := inv k o h1
    obtain ⟨p', hp', _, _, _, hp4'⟩ := inv k' o' h2
    rcases R.apart k k' p p' l l' hp hp' h3 h4 h5 h6 with e | e
    · rcases hp4' with ⟨g, _⟩ | ⟨_, g⟩
      · exact .inl (g _ e)
      · rw [g _ e] at h1; cases h1
    · rcases hp4 with ⟨g, _⟩ | ⟨_, g⟩
      · exact .inr (g _ e)
      · rw [g _ e] at h2; cases h2
  · intro k o hk p hp
    obtain ⟨o', h1, _, _, h4, _⟩ := inv k o hk
    exact R.pres k o' h1 p (h4 p hp)
  · intro k p o op l lp h1 h2 h3 h4 h5
    obtain ⟨o', g1, g2, g3, g4, g5⟩ := inv k o h1
    obtain ⟨op', k1, k2, k3, k4, k5⟩ := inv p op h3
    obtain ⟨a, b⟩ := R.kin k p o' op' l lp g1 (g4 p h2) k1 h4 h5
    refine ⟨?_, ?_⟩
    · cases e : wrOf op with
      | false => rfl
      | true => rw [k3 e] at a; cases a
    · intro e
      have := b e
      rcases g5 with ⟨_, g⟩ | ⟨g, _⟩
      · omega
      · rw [g] at h2; cases h2

/-- A new object in a new block. -/
theorem Rep.new (R : Rep E w0 H w ρ) (hk : ρ H.next = none) {cs : List AV} {arr : Array Value} {el : TypeId} {lo hi : Nat} {wr : Bool} {pre : List Nat}
    (hl : cs.length ≤ arr.size) (hr : relL ρ cs (arr.toList.take cs.length)) (hf : wr = true → lo = hi ∨ arr.size ≤ lo)
    (hp : ∀ p ∈ pre, (ρ p).isSome ∧ ∀ op, H.get p = some op → wrOf op = false) :
    Rep E w0 (H.new (.cells cs wr pre)) { w with heap := w.heap.push (.cells arr el (lo, hi)) } (upd ρ H.next ⟨w.heap.size, 0, arr.size⟩) := by
  have hx := upd_ext (ρ := ρ) ⟨w.heap.size, 0, arr.size⟩ hk
  have hn := R.get_none hk
  have hg : ∀ k o, (H.new (.cells cs wr pre)).get k = some o → (k = H.next ∧ o = .cells cs wr pre) ∨ (k ≠ H.next ∧ H.get k = some o) := by
    intro k o e
    rw [AHeap.get_new] at e
    split at e
    · rename_i h; cases e; exact .inl ⟨h.symm, rfl⟩
    · rename_i h; exact .inr ⟨fun h' => h h'.symm, e⟩
  have hpush : ∀ b, b < w.heap.size → (w.heap.push (.cells arr el (lo, hi)))[b]? = w.heap[b]? := by
    intro b hb; rw [Array.getElem?_push]; split
    · omega
    · rfl
  refine ⟨by have := R.size; simp; omega, ?_, R.env, R.side, ?_, ?_, ?_, ?_⟩
  · intro b hb; rw [hpush b (by have := R.size; omega)]; exact R.old b hb
  · intro k o e
    rcases hg k o e with ⟨rfl, rfl⟩ | ⟨h1, h2⟩
    · refine ⟨_, upd_same _ _, R.size, arr, el, lo, hi, by simp, rfl, by simpa using hl, ?_, hf⟩
      simp only [List.drop_zero]
      exact relL_ext hx _ _ hr
    · obtain ⟨l, hl, hs, ho⟩ := R.objs k o h2
      exact ⟨l, by rw [upd_ne _ h1]; exact hl, hs, objOk_ext hx (objOk_heap ho (hpush _ (objOk_lt ho)))⟩
  · intro k k' o o' l l' h1 h2 h3 h4 h5 h6
    rcases hg k o h1 with ⟨rfl, rfl⟩ | ⟨g1, g2⟩ <;> rcases hg k' o' h2 with ⟨rfl, rfl⟩ | ⟨g1', g2'⟩
    · exact absurd rfl h5
    · rw [upd_same] at h3; rw [upd_ne _ g1'] at h4
      obtain ⟨m, hm, _, ho⟩ := R.objs k' o' g2'
      rw [h4] at hm; cases hm; cases h3
      have := objOk_lt ho
      simp only at h6; omega
    · rw [upd_same] at h4; rw [upd_ne _ g1] at h3
      obtain ⟨m, hm, _, ho⟩ := R.objs k o g2
      rw [h3] at hm; cases hm; cases h4
      have := objOk_lt ho
      simp only at h6; omega
    · rw [upd_ne _ g1] at h3; rw [upd_ne _ g1'] at h4
      exact R.apart k k' o o' l l' g2 g2' h3 h4 h5 h6
  · intro k o e p hpp
    rcases hg k o e with ⟨rfl, rfl⟩ | ⟨h1, h2⟩
    · have := (hp p hpp).1
      refine ⟨fun e => ?_, ?_⟩
      · subst e; rw [hk] at this; cases this
      · obtain ⟨m, hm⟩ := Option.isSome_iff_exists.1 this
        rw [hx _ _ hm]; rfl
    · obtain ⟨a, b⟩ := R.pres k o h2 p hpp
      obtain ⟨m, hm⟩ := Option.isSome_iff_exists.1 b
      exact ⟨a, by rw [hx _ _ hm]; rfl⟩
  · intro k p o op l lp h1 h2 h3 h4 h5
    rcases hg k o h1 with ⟨rfl, rfl⟩ | ⟨g1, g2⟩
    · have hpn : p ≠ H.next := by
        rintro rfl
        have := (hp _ h2).1
        rw [hk] at this; cases this
      rcases hg p op h3 with ⟨e, _⟩ | ⟨_, g2'⟩
      · exact absurd e hpn
      · refine ⟨(hp p h2).2 op g2', fun e => ?_⟩
        rw [upd_same] at h4; rw [upd_ne _ hpn] at h5
        obtain ⟨m, hm, _, ho⟩ := R.objs p op g2'
        rw [h5] at hm; cases hm; cases h4
        have := objOk_lt ho
        simp only at e; omega
    · rcases hg p op h3 with ⟨rfl, _⟩ | ⟨g1', g2'⟩
      · have := (R.pres k o g2 _ h2).2
        rw [hk] at this; cases this
      · rw [upd_ne _ g1] at h4; rw [upd_ne _ g1'] at h5
        exact R.kin k p o op l lp g2 h2 g2' h4 h5

/-- No other object lies in the block of one that may be written, but for those of which it was made. -/
theorem Rep.alone (R : Rep E w0 H w ρ) {k j : Nat} {o oj : AObj} {l lj : Loc} (hk : H.get k = some o) (hw : wrOf o = true) (hl : ρ k = some l)
    (hj : H.get j = some oj) (hlj : ρ j = some lj) (hne : j ≠ k) (hb : lj.blk = l.blk) : j ∈ preOf o := by
  rcases R.apart j k oj o lj l hj hk hlj hl hne hb with e | e
  · exact e
  · have := (R.kin j k oj o lj l hj e hk hlj hl).1
    rw [hw] at this; cases this

/-- What is in a block's row is turned. -/
theorem Rep.write (R : Rep E w0 H w ρ) {k : Nat} {cs : List AV} {pre : List Nat} {l : Loc} {arr arr' : Array Value} {el : TypeId} {lo hi : Nat} {cs' : List AV}
    (hk : H.get k = some (.cells cs true pre)) (hl : ρ k = some l) (hb : w.heap[l.blk]? = some (.cells arr el (lo, hi)))
    (hs : arr'.size = arr.size) (hc : cs'.length = cs.length) (hr : relL ρ cs' ((arr'.toList.drop l.d).take cs'.length)) :
    Rep E w0 ((H.killAll pre).set k (.cells cs' true [])) (putBlock w l.blk (.cells arr' el (lo, hi))) ρ := by
  have hblk := (Array.getElem?_eq_some_iff.1 hb).1
  obtain ⟨l', hl', hbase, arr0, el0, lo0, hi0, e0, e1, e2, e3, e4⟩ := R.objs k _ hk
  rw [hl] at hl'; cases hl'
  rw [hb] at e0; cases e0
  have hg : ∀ j o, ((H.killAll pre).set k (.cells cs' true [])).get j = some o → (j = k ∧ o = .cells cs' true []) ∨ (j ≠ k ∧ j ∉ pre ∧ H.get j = some o) := by
    intro j o e
    rw [AHeap.get_set] at e
    split at e
    · rename_i h; cases e; exact .inl ⟨h.symm, rfl⟩
    · rename_i h
      rw [AHeap.get_killAll] at e
      split at e
      · cases e
      · rename_i h'; exact .inr ⟨fun h' => h h'.symm, h', e⟩
  have hoth : ∀ j o lj, j ≠ k → j ∉ pre → H.get j = some o → ρ j = some lj → lj.blk ≠ l.blk := fun j o lj h1 h2 h3 h4 h5 =>
    h2 (R.alone hk rfl hl h3 h4 h1 h5)
  refine ⟨by rw [size_putBlock]; exact R.size, ?_, R.env, R.side, ?_, ?_, ?_, ?_⟩
  · intro b hbb; rw [heap_putBlock _ _ _ hblk, if_neg (by omega)]; exact R.old b hbb
  · intro j o e
    rcases hg j o e with ⟨rfl, rfl⟩ | ⟨h1, h2, h3⟩
    · exact ⟨l, hl, hbase, arr', el, lo, hi, by rw [heap_putBlock _ _ _ hblk, if_pos rfl], by omega, by omega, hr, e4⟩
    · obtain ⟨lj, hlj, hsj, hoj⟩ := R.objs j o h3
      exact ⟨lj, hlj, hsj, objOk_heap hoj (by rw [heap_putBlock _ _ _ hblk, if_neg (fun e => hoth j o lj h1 h2 h3 hlj e.symm)])⟩
  · intro i j oi oj li lj h1 h2 h3 h4 h5 h6
    rcases hg i oi h1 with ⟨rfl, rfl⟩ | ⟨g1, g2, g3⟩ <;> rcases hg j oj h2 with ⟨rfl, rfl⟩ | ⟨g1', g2', g3'⟩
    · exact absurd rfl h5
    · rw [hl] at h3; cases h3; exact absurd h6.symm (hoth j oj lj g1' g2' g3' h4)
    · rw [hl] at h4; cases h4; exact absurd h6 (hoth i oi li g1 g2 g3 h3)
    · exact R.apart i j oi oj li lj g3 g3' h3 h4 h5 h6
  · intro j o e p hp
    rcases hg j o e with ⟨rfl, rfl⟩ | ⟨_, _, h3⟩
    · simp [preOf] at hp
    · exact R.pres j o h3 p hp
  · intro j p o op lj lp h1 h2 h3 h4 h5
    rcases hg j o h1 with ⟨rfl, rfl⟩ | ⟨g1, g2, g3⟩
    · simp [preOf] at h2
    · rcases hg p op h3 with ⟨rfl, rfl⟩ | ⟨g1', g2', g3'⟩
      · have := (R.kin j p o _ lj lp g3 h2 hk h4 h5).1
        simp [wrOf] at this
      · exact R.kin j p o op lj lp g3 h2 g3' h4 h5

/-- A store of a row of cells. -/
theorem Rep.stores (R : Rep E w0 H w ρ) {P : Program} {o : Id} {i : Nat} {as : List AV} {vs : List Value} {H' : AHeap} (h : storeRange H o i as = some H') (hv : relL ρ as vs) :
    (as = [] ∧ vs = [] ∧ H' = H) ∨ as ≠ [] ∧ ∃ b d w', baseOf ρ o = some (b, d) ∧ (storeCells ⟨b, d + i, none⟩ vs).run P w = .ok () w' ∧ Rep E w0 H' w' ρ := by
  unfold storeRange at h
  split at h
  · cases h; rw [relL_nil] at hv; exact .inl ⟨rfl, hv, rfl⟩
  · rename_i hne
    split at h
    · cases h
    · rename_i k
      split at h
      · rename_i cs pre hk
        split at h
        · rename_i hc
          cases h
          simp only [Bool.and_eq_true, decide_eq_true_eq] at hc
          obtain ⟨hn, hall⟩ := hc
          obtain ⟨l, hl, hs, arr, el, lo, hi, e0, e1, e2, e3, e4⟩ := R.objs k _ hk
          have hlen := relL_length hv
          refine .inr ⟨hne, l.blk, l.d, _, by simp [baseOf, hl], run_storeCells_block l.blk (l.d + i) el lo hi vs 0 w arr e0 (by omega) (by rw [e1]; exact e4 rfl)
            (relL_all (P := fun a => scalar a = true) (fun a v h1 h2 => scalar_oneCell h1 h2) hv (by simpa using hall)), ?_⟩
          rw [Nat.add_zero]
          exact R.write hk hl e0 (size_setManyV _ _ _) (length_setMany _ _ _) (by rw [length_setMany]; exact relL_setMany i hv hn e3)
        · cases h
      · cases h
end
end Go.Am
