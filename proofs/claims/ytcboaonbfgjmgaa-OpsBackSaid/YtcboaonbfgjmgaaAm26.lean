/-
  Regions that draw their order: any order does what the abstract machine says.
-/
import Derived.Test.YtcboaonbfgjmgaaAm18
namespace Go.Am

theorem ancOf_on {ds : List Done} : ∀ (es : List Edge) (m r : Nat), ancOf ds es m = some r → ∀ e ∈ es, Region.binds .any e = true → e.on < ds.length
  | [], m, r, h, e, he, _ => by cases he
  | x :: es, m, r, h, e, he, hb => by
    simp only [ancOf] at h
    split at h
    · rename_i hx
      split at h
      · rename_i d hd
        rcases List.mem_cons.1 he with rfl | he
        · exact (List.getElem?_eq_some_iff.1 hd).1
        · exact ancOf_on es _ _ h e he hb
      · cases h
    · rename_i hx
      rcases List.mem_cons.1 he with rfl | he
      · exact (hx hb).elim
      · exact ancOf_on es _ _ h e he hb

theorem ancOf_sub {ds : List Done} {S : Nat → Prop} : ∀ (es : List Edge) (m r : Nat), ancOf ds es m = some r → (∀ j, m.testBit j = true → S j) →
    (∀ e ∈ es, Region.binds .any e = true → S e.on ∧ ∀ d, ds[e.on]? = some d → ∀ j, d.anc.testBit j = true → S j) → ∀ j, r.testBit j = true → S j
  | [], m, r, h, hm, _ => by simp only [ancOf] at h; cases h; exact hm
  | x :: es, m, r, h, hm, he => by
    simp only [ancOf] at h
    split at h
    · rename_i hx
      split at h
      · rename_i d hd
        refine ancOf_sub es _ _ h ?_ fun e hm => he e (List.mem_cons_of_mem _ hm)
        obtain ⟨h1, h2⟩ := he x List.mem_cons_self hx
        intro j hj
        rw [Nat.testBit_or, Nat.testBit_or, Nat.testBit_two_pow, Bool.or_eq_true, Bool.or_eq_true, decide_eq_true_eq] at hj
        rcases hj with (hj | rfl) | hj
        · exact hm j hj
        · exact h1
        · exact h2 d hd j hj
      · cases h
    · exact ancOf_sub es _ _ h hm fun e hm => he e (List.mem_cons_of_mem _ hm)

theorem greatest {p : Nat → Prop} : ∀ (N : Nat), (∀ x, p x → x < N) → (∀ x, ¬ p x) ∨ ∃ m, p m ∧ ∀ x, p x → x ≤ m
  | 0, h => .inl fun x hx => by have := h x hx; omega
  | N + 1, h => by
    by_cases hN : p N
    · exact .inr ⟨N, hN, fun x hx => by have := h x hx; omega⟩
    · refine greatest N fun x hx => ?_
      have := h x hx
      have : x ≠ N := fun e => hN (e ▸ hx)
      omega

theorem foldG_none {D : Nat → Bool} : ∀ (ds : List Done) (j : Nat) (H : AHeap), (∀ m, j ≤ m → D m = false) → foldG D j ds H = H
  | [], _, _, _ => rfl
  | d :: ds, j, T, h => by
    simp only [foldG, h j (Nat.le_refl _), Bool.false_eq_true, if_false]
    exact foldG_none ds (j + 1) T fun m hm => h m (by omega)

section
variable {E : Env} {w0 : World} {P : Program} {call : CallF} {ops : Array Oper}

theorem Good.anc_lt {H : AHeap} {T0 T : List AV} {ds : List Done} {n : Nat} (G : Good P E call ops H T0 ds T n) : ∀ (N i : Nat) (d : Done), i < N → ds[i]? = some d → ∀ j, d.anc.testBit j = true → j < i
  | 0, i, d, h, _ => by omega
  | N + 1, i, d, h, hd => by
    have hl := (List.getElem?_eq_some_iff.1 hd).1
    refine ancOf_sub (S := fun j => j < i) _ _ _ (G.anc i d hd) (fun j hj => by simp at hj) ?_
    intro e he hb
    have hon := ancOf_on _ _ _ (G.anc i d hd) e he hb
    rw [List.length_take] at hon
    refine ⟨by omega, fun d' hd' j hj => ?_⟩
    rw [List.getElem?_take] at hd'
    split at hd'
    · have := G.anc_lt N e.on d' (by omega) hd' j hj
      omega
    · cases hd'

def isL (L : Array Bool) (x : Nat) : Bool := L.getD x false

def Closed (ds : List Done) (L : Array Bool) : Prop := ∀ (i : Nat) (d : Done), ds[i]? = some d → isL L i = true → ∀ j, d.anc.testBit j = true → isL L j = true

/-- A state in the midst of a region. -/
structure Inv (E : Env) (w0 : World) (ops : Array Oper) (dsF : List Done) (nF : Nat) (H : AHeap) (T0 : List AV) (ρ0 : LMap) (defs : List Deferred) (L : Array Bool) (a : Act) (w : World) (ρ : LMap) : Prop where
  size : L.size = ops.size
  ext : Ext ρ0 ρ
  out : ∀ k, ¬ (H.next ≤ k ∧ k < nF) → ρ k = ρ0 k
  fresh : ∀ (i : Nat) (d : Done), dsF[i]? = some d → isL L i = false → ∀ k, d.lo ≤ k → k < d.hi → ρ k = none
  row : relL ρ (foldT (isL L) 0 dsF T0) a.tmps.toList
  rep : Rep E w0 (foldG (isL L) 0 dsF H) w ρ
  defs : a.defers = defs
  closed : Closed dsF L

theorem Good.ready_anc {H : AHeap} {T0 T : List AV} {ds : List Done} {n : Nat} (G : Good P E call ops H T0 ds T n) {L : Array Bool} (hcl : Closed ds L) {i : Nat} {d : Done} (hd : ds[i]? = some d)
    (ha : ∀ e ∈ d.o.after, Region.binds .any e = true → L.getD e.on false = true) : ∀ j, d.anc.testBit j = true → isL L j = true := by
  refine ancOf_sub (S := fun j => isL L j = true) _ _ _ (G.anc i d hd) (fun j hj => by simp at hj) ?_
  intro e he hb
  have h1 : isL L e.on = true := ha e (by simpa using he) hb
  refine ⟨h1, fun d' hd' j hj => ?_⟩
  rw [List.getElem?_take] at hd'
  split at hd'
  · exact hcl _ _ hd' h1 j hj
  · cases hd'

/-- The part of the heap over which an operation has been looked at, and that lies in the heap that it now meets. -/
theorem Good.view {M H : AHeap} {T0 T : List AV} {ds : List Done} {n : Nat} (G : Good P E call ops M T0 ds T n) (hw : Wf M) (hs : ∀ k o, M.get k = some o → H.get k = some o) {L : Array Bool} (hcl : Closed ds L) {i : Nat} {d : Done} (hd : ds[i]? = some d)
    (hi : isL L i = false) (ha : ∀ j, d.anc.testBit j = true → isL L j = true) :
    ∃ (p : Nat → Done → Bool) (c : Nat), Ev P E call ops (maskR d.lo p 0 (ds.take c) M) d ∧ ∀ k o, (maskR d.lo p 0 (ds.take c) M).get k = some o → (foldG (isL L) 0 ds H).get k = some o := by
  obtain ⟨ok, hlo, hhi⟩ := G.ch.at i d hd
  have hbase : ∀ k o, M.get k = some o → H.get k = some o ∧ k < M.next ∧ k < d.lo := by
    intro k o hk
    have := hw.lt hk
    exact ⟨hs k o hk, this, by omega⟩
  have key : ∀ (p : Nat → Done → Bool) (c : Nat), (∀ (x : Nat) (e : Done), ds[x]? = some e → p x e = true → x < c → isL L x = true) →
      (∀ (x : Nat) (e : Done), ds[x]? = some e → isL L x = true → e.wr = true → p x e = true ∧ x < c) →
      ∀ k o, (maskR d.lo p 0 (ds.take c) M).get k = some o → (foldG (isL L) 0 ds H).get k = some o := by
    intro p c h1 h2
    rw [maskR_take]
    refine mask_le ds 0 M.next n M H G.ch ?_ ?_ hbase
    · intro x e he hp
      simp only [Nat.zero_add, Bool.and_eq_true, decide_eq_true_eq] at hp ⊢
      exact h1 x e he hp.1 hp.2
    · intro x e he hD hp
      simp only [Nat.zero_add, Bool.and_eq_false_iff, decide_eq_false_iff_not] at hp hD
      cases hwr : e.wr with
      | false => rfl
      | true =>
        obtain ⟨a, b⟩ := h2 x e he hD hwr
        rcases hp with hp | hp
        · rw [a] at hp; cases hp
        · exact (hp b).elim
  rcases greatest (p := fun x => ∃ e, ds[x]? = some e ∧ e.wr = true ∧ isL L x = true ∧ d.anc.testBit x = false) ds.length (fun x ⟨e, he, _⟩ => (List.getElem?_eq_some_iff.1 he).1) with hno | ⟨m, ⟨e, he, hew, hem, hea⟩, hmax⟩
  · refine ⟨fun j _ => d.anc.testBit j, i, G.ev i d hd, key _ _ (fun x e he hp _ => ha x hp) fun x e he hx hwr => ?_⟩
    have : d.anc.testBit x = true := by
      cases hb : d.anc.testBit x with
      | true => rfl
      | false => exact (hno x ⟨e, he, hwr, hx, hb⟩).elim
    exact ⟨this, G.anc_lt (i + 1) i d (by omega) hd x this⟩
  · have hmi : m ≠ i := by rintro rfl; rw [hem] at hi; cases hi
    have hei : e.anc.testBit i = false := by
      cases hb : e.anc.testBit i with
      | false => rfl
      | true => have := hcl m e he hem i hb; rw [hi] at this; cases this
    obtain ⟨w1, w2, w3⟩ := G.wrs i m d e hd he hew hmi hea (fun _ => hei)
    refine ⟨_, _, w2, key _ _ (fun x f hf hp _ => ?_) fun x f hf hx hwr => ?_⟩
    · simp only [Bool.or_eq_true, Bool.and_eq_true, decide_eq_true_eq] at hp
      rcases hp with hp | ⟨hp1, hp2⟩
      · exact ha x hp
      · by_cases hxm : x = m
        · subst hxm; exact hem
        · cases hb : e.anc.testBit x with
          | true => exact hcl m e he hem x hb
          | false =>
            have := (G.wrs m x e f he hf hp1 hxm hb (fun q => by omega)).1
            rw [hew] at this; cases this
    · cases hb : d.anc.testBit x with
      | true =>
        have := G.anc_lt (i + 1) i d (by omega) hd x hb
        exact ⟨by simp, by omega⟩
      | false =>
        have := hmax x ⟨f, hf, hwr, hx, hb⟩
        exact ⟨by simp [hwr, this], by omega⟩

theorem Good.agree {M : AHeap} {T0 T : List AV} {ds : List Done} {n : Nat} (G : Good P E call ops M T0 ds T n) {L : Array Bool} (hcl : Closed ds L) {i : Nat} {d : Done} (hd : ds[i]? = some d)
    (hi : isL L i = false) (ha : ∀ j, d.anc.testBit j = true → isL L j = true) : Agree ops d.o (foldT (isL L) 0 ds T0) d.T := by
  intro t ht
  rw [G.old i d hd, foldT_take]
  refine foldT_agree ds 0 T0 T0 ?_ rfl
  intro x e he hne hdst
  simp only [Nat.zero_add] at hne
  by_cases hxi : x < i
  · have : isL L x = false := by
      cases hb : isL L x with
      | false => rfl
      | true => rw [hb] at hne; exact (hne (by simp [hxi])).elim
    rcases G.apart i x d e hxi hd he with h | h
    · have := ha x h; simp_all
    · exact (Oper.apart_spec h).2.2 t hdst ht
  · have hx : isL L x = true := by
      cases hb : isL L x with
      | true => rfl
      | false => rw [hb] at hne; exact (hne (by simp [hxi])).elim
    have hix : i < x := by
      have : x ≠ i := by rintro rfl; rw [hi] at hx; cases hx
      omega
    rcases G.apart x i e d hix he hd with h | h
    · have := hcl x e he hx i h; rw [hi] at this; cases this
    · exact (Oper.apart_spec h).1 t hdst ht

theorem isL_set {L : Array Bool} {i : Nat} (h : i < L.size) (x : Nat) : isL (L.setIfInBounds i true) x = (x == i || isL L x) := by
  unfold isL
  by_cases e : x = i
  · subst e
    simp [h]
  · have : (x == i) = false := by simp [e]
    rw [this, Bool.false_or, getD_set_ne _ (Ne.symm e)]
end
end Go.Am
