/-
  Operations of the abstract machine and of the model, one by one: what makes memory.
-/
import Derived.Test.YtcboaonbfgjmgaaAm7
namespace Go.Am

/-- The run of a value that may make memory. -/
def Gives (E : Env) (w0 : World) (H : AHeap) (ρ : LMap) (a : AV) (H' : AHeap) (r : Result Value) : Prop :=
  ∃ v w' ρ', r = .ok v w' ∧ Ext ρ ρ' ∧ (∀ k, ¬ (H.next ≤ k ∧ k < H'.next) → ρ' k = ρ k) ∧ rel ρ' a v ∧ Rep E w0 H' w' ρ' ∧ H.next ≤ H'.next

def Fresh (ρ : LMap) (H H' : AHeap) : Prop := ∀ k, H.next ≤ k → k < H'.next → ρ k = none

section
variable {E : Env} {w0 : World} {H : AHeap} {w : World} {ρ : LMap} {P : Program}

theorem Gives.same (R : Rep E w0 H w ρ) {a : AV} {v : Value} {r : Result Value} (h : r = .ok v w) (hr : rel ρ a v) : Gives E w0 H ρ a H r :=
  ⟨v, w, ρ, h, Ext.refl _, fun _ _ => rfl, hr, R, Nat.le_refl _⟩

theorem Gives.new (R : Rep E w0 H w ρ) {cs : List AV} {arr : Array Value} {el : TypeId} {lo hi : Nat} {a : AV} {v : Value} {w' : World} {r : Result Value}
    (hf : Fresh ρ H (newCells H cs)) (hl : cs.length ≤ arr.size) (hr : relL ρ cs (arr.toList.take cs.length)) (hz : lo = hi ∨ arr.size ≤ lo)
    (hw : w'.heap = w.heap.push (.cells arr el (lo, hi))) (h : r = .ok v w') (ha : rel (upd ρ H.next ⟨w.heap.size, 0, arr.size⟩) a v) (hs : w'.os = w.os ∧ w'.output = w.output := by exact ⟨rfl, rfl⟩) :
    Gives E w0 H ρ a (newCells H cs) r := by
  have hn := hf H.next (Nat.le_refl _) (by simp [newCells])
  refine ⟨v, w', _, h, upd_ext _ hn, ?_, ha, (R.new hn (el := el) (lo := lo) (hi := hi) (pre := []) hl hr (fun _ => hz) (by simp)).heap_eq hw hs, by simp [newCells]⟩
  intro k hk
  rw [upd_ne]
  rintro rfl
  exact hk ⟨Nat.le_refl _, by simp [newCells]⟩

theorem rel_newPtr (ρ : LMap) (k b n : Nat) : rel (upd ρ k ⟨b, 0, n⟩) (.ptr (.new k) 0) (.pointer (some ⟨b, 0, none⟩)) := by
  simp only [rel, baseOf, upd_same]
  exact ⟨b, 0, rfl, rfl⟩
theorem rel_newSlc (ρ : LMap) (k b n len cap c size : Nat) (ex : Bool) (h1 : len ≤ c) (h2 : cap ≤ c) (h3 : ex = true → c = cap) (h4 : c * size ≤ n) :
    rel (upd ρ k ⟨b, 0, n⟩) (.slc (.new k) 0 len cap ex size) (.slice (some ⟨b, 0, none⟩) len c) := by
  simp only [rel, baseOf, upd_same, roomOk]
  exact ⟨⟨b, 0, none⟩, c, rfl, h1, h2, h3, .inr ⟨b, 0, rfl, rfl⟩, _, rfl, by simpa using h4⟩

theorem relL_self_take {cs : List AV} {arr : Array Value} (h : relL ρ cs arr.toList) : cs.length ≤ arr.size ∧ relL ρ cs (arr.toList.take cs.length) := by
  have hl := relL_length h
  refine ⟨by simp at hl; omega, ?_⟩
  rw [List.take_of_length_le (by omega)]; exact h

theorem allocA_sound (R : Rep E w0 H w ρ) {e : TypeId} {z : AV} (h : zeroOf P e = some z) (hf : Fresh ρ H (newCells H z.cells)) :
    Gives E w0 H ρ (.ptr (.new H.next) 0) (newCells H z.cells) ((Instr.alloc e true (.tuple #[])).run P w) := by
  obtain ⟨v, h1, h2⟩ := run_zeroA (ρ := ρ) h w
  obtain ⟨g1, g2⟩ := relL_self_take (rel_cells h2)
  refine Gives.new R hf g1 g2 (lo := 0) (hi := 0) (.inl rfl) (el := e) (w' := { w with heap := w.heap.push (.cells v.cells e) }) rfl (v := .pointer (some ⟨w.heap.size, 0, none⟩)) ?_ (rel_newPtr _ _ _ _)
  simp only [Instr.alloc, newVar, newRow, Sem.run_bind, h1, Result.andThen_ok, run_newObj, Sem.run_pure]

theorem boxA_sound (R : Rep E w0 H w ρ) {e : TypeId} {a : AV} {va : Value} (ha : rel ρ a va) (hf : Fresh ρ H (newCells H a.cells)) :
    Gives E w0 H ρ (.ptr (.new H.next) 0) (newCells H a.cells) ((Instr.box e va).run P w) := by
  obtain ⟨g1, g2⟩ := relL_self_take (rel_cells ha)
  exact Gives.new R hf g1 g2 (lo := 0) (hi := 0) (.inl rfl) (el := e) (w' := { w with heap := w.heap.push (.cells va.cells e) }) rfl (v := .pointer (some ⟨w.heap.size, 0, none⟩)) rfl (rel_newPtr _ _ _ _)

theorem relL_rep {z : List AV} {zs : List Value} (hz : relL ρ z zs) : ∀ n, relL ρ (rep z n) ((List.range (n * zs.length)).map fun i => zs[i % zs.length]!)
  | 0 => by simp [rep, relL_nil]
  | n + 1 => by
    have ih := relL_rep hz n
    have hsplit : (List.range ((n + 1) * zs.length)).map (fun i => zs[i % zs.length]!) = zs ++ (List.range (n * zs.length)).map fun i => zs[i % zs.length]! := by
      rw [Nat.succ_mul, Nat.add_comm, List.range_add, List.map_append, List.map_map]
      congr 1
      · apply List.ext_getElem
        · simp
        · intro i h1 h2
          simp at h1
          simp [Nat.mod_eq_of_lt h1, h1]
      · apply List.map_congr_left
        intro i _
        simp
    rw [hsplit, rep]
    exact relL_append hz ih
theorem toList_range_mod (zero : Array Value) (m : Nat) : ((Array.range m).map (zero[· % zero.size]!)).toList = (List.range m).map fun i => zero.toList[i % zero.toList.length]! := by
  simp only [Array.toList_map, Array.toList_range]
  apply List.map_congr_left
  intro i _
  simp [getElem!_def]
theorem length_rep (z : List AV) : ∀ n, (rep z n).length = n * z.length
  | 0 => by simp [rep]
  | n + 1 => by rw [rep, List.length_append, length_rep z n, Nat.succ_mul, Nat.add_comm]

/-- Rows of zeroes. -/
theorem rep_zero {e : TypeId} {z : AV} {size : Nat} (h : zeroOf P e = some z) (hs : z.cells.length = size) (n : Nat) : ∃ zero : Array Value,
    (n * size = 0 → zero = #[]) ∧ (n * size ≠ 0 → ∃ v, (∀ w, (zeroValue e).run P w = .ok v w) ∧ v.cells = zero) ∧
    relL ρ (rep z.cells n) ((Array.range (n * size)).map (zero[· % zero.size]!)).toList := by
  obtain ⟨v, _, h2⟩ := run_zeroA (P := P) (ρ := ρ) h default
  have hv : ∀ w, (zeroValue e).run P w = .ok v w := fun w => by
    unfold zeroOf at h
    split at h
    · rename_i i hi
      rename_i h1 _
      simp only [zeroValue, Sem.run_bind, run_typeInfoA hi, Result.andThen_ok] at h1 ⊢
      split at h1
      · rename_i u hu; simp only [Sem.run_pure] at h1; cases h1; rfl
      · cases h1
    · cases h
  have hc := rel_cells h2
  have hl := relL_length hc
  simp only [Array.length_toList] at hl
  by_cases h0 : n * size = 0
  · refine ⟨#[], fun _ => rfl, fun h => absurd h0 h, ?_⟩
    have : rep z.cells n = [] := by
      apply List.eq_nil_of_length_eq_zero
      rw [length_rep, hs, h0]
    rw [this, h0]
    simp [relL_nil]
  · refine ⟨v.cells, fun h => absurd h h0, fun _ => ⟨v, hv, rfl⟩, ?_⟩
    rw [toList_range_mod]
    have := relL_rep hc n
    rw [Array.length_toList, ← hl, hs] at this
    rw [Array.length_toList, ← hl, hs]
    exact this

theorem buildSliceA_sound (R : Rep E w0 H w ρ) {t : TypeId} {len : Nat} {ps : List (Nat × AV)} {qs : Array (Nat × Value)} {a : AV} {H' : AHeap}
    (h : buildSliceA P H t len ps = some (a, H')) (hp : relP ρ ps qs.toList) (hf : Fresh ρ H H') : Gives E w0 H ρ a H' ((Instr.buildSlice t len qs).run P w) := by
  unfold buildSliceA at h
  simp only [Option.bind_eq_bind, Option.bind_eq_some_iff] at h
  obtain ⟨e, he, size, hs, h⟩ := h
  split at h
  · rename_i hn
    simp only [Option.bind_eq_some_iff] at h
    obtain ⟨z, hz, h⟩ := h
    split at h
    · rename_i hzs
      simp only [Option.bind_eq_some_iff] at h
      obtain ⟨cs, hcs, h⟩ := h
      cases h
      obtain ⟨zero, h1, h1', h2⟩ := rep_zero (P := P) (ρ := ρ) hz hzs len
      obtain ⟨xs, g1, g2, g3⟩ := fillA_sound hcs hp h2
      obtain ⟨k1, k2⟩ := relL_self_take g2
      refine Gives.new R hf k1 k2 (lo := 0) (hi := 0) (.inl rfl) (el := e) (w' := { w with heap := w.heap.push (.cells xs e) }) rfl
        (v := .slice (some ⟨w.heap.size, 0, none⟩) len len) ?_ (rel_newSlc _ _ _ _ _ _ _ _ _ (Nat.le_refl _) (Nat.le_refl _) (fun _ => rfl) (by rw [g3]; simp))
      simp only [Instr.buildSlice, Sem.run_bind, run_underlyingA (elemA_some he), Result.andThen_ok, run_sizeA hs]
      rw [if_neg (by omega)]
      by_cases h0 : len * size = 0
      · have := h1 h0; subst this
        rw [if_pos h0]
        simp only [pure_bind, g1]
        rfl
      · obtain ⟨v, hv, rfl⟩ := h1' h0
        rw [if_neg h0]
        simp only [Sem.run_bind, hv, Result.andThen_ok, pure_bind, g1]
        rfl
    · cases h
  · cases h

theorem makeSliceA_sound (R : Rep E w0 H w ρ) {t : TypeId} {len cap : AV} {vl vc : Value} {a : AV} {H' : AHeap}
    (h : makeSliceA P H t len cap = some (a, H')) (h1 : rel ρ len vl) (h2 : rel ρ cap vc) (hf : Fresh ρ H H') : Gives E w0 H ρ a H' ((Instr.makeSlice t vl vc).run P w) := by
  unfold makeSliceA at h
  simp only [Option.bind_eq_bind, Option.bind_eq_some_iff] at h
  obtain ⟨e, he, size, hs, bytes, hb, l, hl, c, hc, z, hz, h⟩ := h
  split at h
  · rename_i hcond
    obtain ⟨c1, c2, c3, c4, c5, c6⟩ := hcond
    cases h
    obtain ⟨i, hi, rfl⟩ := run_bytesA hb
    have e1 : ∃ k, vl = .int k l := by
      cases len <;> simp only [intOfA] at hl <;> cases hl
      simp only [rel] at h1; exact ⟨_, h1⟩
    have e2 : ∃ k, vc = .int k c := by
      cases cap <;> simp only [intOfA] at hc <;> cases hc
      simp only [rel] at h2; exact ⟨_, h2⟩
    obtain ⟨k1, rfl⟩ := e1
    obtain ⟨k2, rfl⟩ := e2
    obtain ⟨zero, g1, g1', g2⟩ := rep_zero (P := P) (ρ := ρ) hz c6 c.toNat
    obtain ⟨m1, m2⟩ := relL_self_take g2
    refine Gives.new R hf m1 m2 (lo := 0) (hi := 0) (.inl rfl) (el := e) (w' := { w with heap := w.heap.push (.cells _ e) }) rfl
      (v := .slice (some ⟨w.heap.size, 0, none⟩) l.toNat c.toNat) ?_ (rel_newSlc _ _ _ _ _ _ _ _ _ (by omega) (Nat.le_refl _) (fun _ => rfl) (by simp))
    have t1 : (decide (c < 0) || decide ((i.bytes : Int) * c > 2 ^ 48)) = false := by
      simp only [Bool.or_eq_false_iff, decide_eq_false_iff_not]; omega
    simp only [Instr.makeSlice, Sem.run_bind, run_underlyingA (elemA_some he), Result.andThen_ok, asInt, asIntOf, Sem.run_pure, run_typeInfoA hi, c1, c2]
    rw [if_neg (by simp only [t1, Bool.false_or, Bool.or_eq_true, decide_eq_true_eq]; omega)]
    simp only [Sem.run_bind, run_askRoom, Result.andThen_ok, run_sizeA hs]
    by_cases h0 : c.toNat * size = 0
    · have := g1 h0; subst this
      rw [if_pos h0]
      rfl
    · obtain ⟨v, hv, rfl⟩ := g1' h0
      rw [if_neg h0]
      simp only [Sem.run_bind, hv, Result.andThen_ok]
      rfl
  · cases h
end
end Go.Am
