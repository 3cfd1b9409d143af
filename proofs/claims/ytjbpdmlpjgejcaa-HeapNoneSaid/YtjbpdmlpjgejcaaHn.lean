/-
  A heap that is none, or a zero one: what its functions tell.
-/
import Derived.Test.YtjbpdmlpjgejcaaHx
open Go.Proofs Go Go.Am
namespace Go.Proofs.Ytjbpdmlpjgejcaa.hn
open Go.Proofs.Ytjbpdmlpjgejcaa.vcs Go.Proofs.Ytjbpdmlpjgejcaa.vd Go.Proofs.Ytjbpdmlpjgejcaa.hp
set_option linter.unusedVariables false
set_option linter.unusedSimpArgs false
set_option maxRecDepth 100000

variable {E : Env} {w0 : World}

theorem oS {α : Type} (x : α) (Q : α → Prop) : optW (some x) Q = Q x := (rfl)
theorem vT (r : Option AV) : valG (some true) r = r := (rfl)
theorem vF (r : Option AV) : valG (some false) r = some undefA := (rfl)
theorem wB (b w : Bool) : wantsA (.bool b) w = some (b == w) := (rfl)
theorem pB (t : Bool) (a b : AV) : pickV (.bool t) a b = some (if t then a else b) := (rfl)
theorem cT (x y : Prop) : condW (.bool true) x y = x := (rfl)
theorem cF (x y : Prop) : condW (.bool false) x y = y := (rfl)
theorem gT (s : (AV → AHeap → Prop) → Prop) (H : AHeap) (Q : AV → AHeap → Prop) : guardW (some true) s H Q = s Q := (rfl)
theorem ff : (false == true) = false := (rfl)
theorem tf : (true == false) = false := (rfl)
theorem nf : (false == false) = true := (rfl)
theorem tt : (true == true) = true := (rfl)
theorem ex0 (a b : AV) : extractV (.tup [a, b]) 0 = some a := (rfl)
theorem ex1 (a b : AV) : extractV (.tup [a, b]) 1 = some b := (rfl)

/-- No heap, or one that New has not made. -/
def Dead (H : AHeap) (h : AV) : Prop := h = .nilPtr ∨ ∃ kh, h = .ptr (.new kh) 0 ∧ H.get kh = some (.cells [.nilSlc, .int .i64 0, .int .i64 0, .bool false] true [])
theorem Dead.stays {H H' : AHeap} {h : AV} (d : Dead H h) (s : Stays H H') : Dead H' h := by
  rcases d with d | ⟨kh, d1, d2⟩
  · exact .inl d
  · exact .inr ⟨kh, d1, s _ _ _ d2⟩

/-- Told, and all that lived lives. -/
def Told (H : AHeap) (x v : AV) (H' : AHeap) : Prop := v = x ∧ Stays H H'
theorem stays_refl (H : AHeap) : Stays H H := fun _ _ _ h => h

section
variable {H : AHeap} {h : AV}

theorem room_d (d : Dead H h) {n : Int} (hn : 1 ≤ n) : FnW Try.prog E w0 32 [h, .int .i64 n] H fun v H' => H' = H ∧ v = .bool false := by
  refine V32_ok ?_
  unfold V32
  rcases d with rfl | ⟨kh, rfl, hg⟩
  · simp only [nevnn_25, oS, wB, ff, vF, pB, Bool.false_eq_true, if_false, true_and]
  · have l1 : loadCell E H (.new kh) 1 = some (.int .i64 0) := by rw [loadCell_new E hg]; rfl
    have l2 : loadCell E H (.new kh) 2 = some (.int .i64 0) := by rw [loadCell_new E hg]; rfl
    have e : decide (n ≤ IntKind.i64.wrap (0 - 0)) = false := decide_eq_false (by rw [wrap_i64 (by omega) (by omega)]; omega)
    simp only [nevn_25, oS, wB, tt, vT, nilV_ptr, fa_57_2, fa_57_1, ld_3, Nat.zero_add, l1, l2, bin_sub, bin_leq, e, pB, if_true, true_and]

theorem keep_d (d : Dead H h) {x : AV} {n : Int} (hn : 1 ≤ n) : FnW Try.prog E w0 33 [h, x, .int .i64 n] H fun v H' => H' = H ∧ v = .tup [.int .u64 0, .int .i64 4] := by
  refine V33_ok ?_
  unfold V33
  refine (room_d d hn).use ?_
  rintro v H' ⟨rfl, rfl⟩ _ _
  simp only [un_not, Bool.not_false, oS, cT]
  exact ⟨by trivial, by trivial⟩

theorem at_d (d : Dead H h) {ref : Int} (h0 : 0 ≤ ref) : FnW Try.prog E w0 36 [h, .int .u64 ref] H fun v H' => H' = H ∧ v = .nilIfc := by
  refine V36_ok ?_
  unfold V36
  rcases d with rfl | ⟨kh, rfl, hg⟩
  · simp only [eqvnn_25, oS, wB, tf, vF, pB, if_true, cT]
    exact ⟨by trivial, by trivial⟩
  · have l0 : loadCell E H (.new kh) 0 = some .nilSlc := by rw [loadCell_new E hg]; rfl
    by_cases hz : ref = 0
    · subst hz
      simp only [eqvn_25, eqv_23, oS, wB, nf, vT, pB, Bool.false_eq_true, if_false, beq_self_eq_true, if_true, tf, vF, cT]
      exact ⟨by trivial, by trivial⟩
    · have hz' : (ref == 0) = false := by simpa using hz
      have e : decide (ref > IntKind.u64.wrap 0) = true := decide_eq_true (by rw [wrap_u64 (by omega) (by omega)]; omega)
      simp only [eqvn_25, eqv_23, oS, wB, nf, vT, pB, Bool.false_eq_true, if_false, hz', nilV_ptr, fa_57_0, ld_55, Nat.zero_add, l0, len0_55, cv_3_23, bin_gtr, e, cT]
      exact ⟨by trivial, by trivial⟩

theorem words_d (d : Dead H h) {ref : Int} (h0 : 0 ≤ ref) : FnW Try.prog E w0 34 [h, .int .u64 ref] H fun v H' => H' = H ∧ v = .nilPtr := by
  refine V34_ok ?_
  unfold V34
  refine (at_d d h0).use ?_
  rintro v H' ⟨rfl, rfl⟩ _ _
  simp only [as0_66, as0_76, oS, ex0, ex1, cF]
  exact ⟨by trivial, by trivial⟩

theorem record_d (d : Dead H h) {t : Int} {v : AV} {ws : List Int} (hv : Rd E v ws) (hl : ws.length < 2 ^ 62) : FnW Try.prog E w0 12 [h, .int .i64 t, v] H (Told H (.tup [.int .u64 0, .int .i64 4])) := by
  refine V12_ok ?_
  unfold V12
  rw [hv.len, optW_some, bin_add, optW_some, wrap_i64 (by omega) (by omega)]
  refine (room_d d (by omega)).use ?_
  rintro r H1 ⟨rfl, rfl⟩ _ _
  simp only [un_not, Bool.not_false, oS, cT]
  exact ⟨rfl, stays_refl _⟩

theorem empty_d (F : Fine H) (d : Dead H h) {t : Int} : FnW Try.prog E w0 15 [h, .int .i64 t] H (Told H (.tup [.int .u64 0, .int .i64 4])) := by
  refine V15_ok ?_
  unfold V15
  simp only [build_68, oS, build_77, withW_eq, AV.cells, ifc_76]
  obtain ⟨n1, n2, n3, F9⟩ := F.newCells [.int .i64 t, .nilSlc]
  refine (keep_d (d.stays n2) (by omega)).use ?_
  rintro r H2 ⟨rfl, rfl⟩ _ _
  simp only [ex0, ex1, oS]
  exact ⟨rfl, n2⟩

theorem get_d (d : Dead H h) {ref i : Int} (h0 : 0 ≤ ref) : FnW Try.prog E w0 14 [h, .int .u64 ref, .int .i64 i] H (Told H (.tup [.int .u64 0, .int .i64 2])) := by
  refine V14_ok ?_
  unfold V14
  refine (words_d d h0).use ?_
  rintro r H1 ⟨rfl, rfl⟩ _ _
  simp only [nevnn_71, oS, cF]
  exact ⟨rfl, stays_refl _⟩
theorem set_d (d : Dead H h) {ref i w : Int} (h0 : 0 ≤ ref) : FnW Try.prog E w0 13 [h, .int .u64 ref, .int .i64 i, .int .u64 w] H (Told H (.int .i64 2)) := by
  refine V13_ok ?_
  unfold V13
  refine (words_d d h0).use ?_
  rintro r H1 ⟨rfl, rfl⟩ _ _
  simp only [nevnn_71, oS, cF]
  exact ⟨rfl, stays_refl _⟩
theorem drop_d (d : Dead H h) {ref : Int} (h0 : 0 ≤ ref) : FnW Try.prog E w0 18 [h, .int .u64 ref] H (Told H (.tup [.int .u64 0, .int .i64 2])) := by
  refine V18_ok ?_
  unfold V18
  refine (at_d d h0).use ?_
  rintro r H1 ⟨rfl, rfl⟩ _ _
  simp only [as0_76, oS, ex0, ex1, un_not, Bool.not_false, cT]
  exact ⟨rfl, stays_refl _⟩
theorem push_d (d : Dead H h) {ref w : Int} (h0 : 0 ≤ ref) : FnW Try.prog E w0 16 [h, .int .u64 ref, .int .u64 w] H (Told H (.int .i64 2)) := by
  refine V16_ok ?_
  unfold V16
  refine (at_d d h0).use ?_
  rintro r H1 ⟨rfl, rfl⟩ _ _
  simp only [as0_76, oS, ex0, ex1, un_not, Bool.not_false, cT]
  exact ⟨rfl, stays_refl _⟩
theorem bytes_d (d : Dead H h) {ref : Int} (h0 : 0 ≤ ref) : FnW Try.prog E w0 31 [h, .int .u64 ref] H (Told H (.tup [.str [], .bool false])) := by
  refine V31_ok ?_
  unfold V31
  refine (at_d d h0).use ?_
  rintro r H1 ⟨rfl, rfl⟩ _ _
  simp only [as0_82, oS, ex0, ex1]
  exact ⟨rfl, stays_refl _⟩
theorem len_d (d : Dead H h) {ref : Int} (h0 : 0 ≤ ref) : FnW Try.prog E w0 17 [h, .int .u64 ref] H (Told H (.tup [.int .i64 0, .bool false])) := by
  refine V17_ok ?_
  unfold V17
  refine (words_d d h0).use ?_
  rintro r H1 ⟨rfl, rfl⟩ _ _
  simp only [nevnn_71, oS, cF]
  refine (bytes_d d h0).use ?_
  rintro r H2 ⟨rfl, hs⟩ _ _
  simp only [ex0, ex1, oS, vcs.len_9]
  exact ⟨rfl, hs⟩
theorem text_d (d : Dead H h) {s : List UInt8} : FnW Try.prog E w0 29 [h, .str s] H (Told H (.tup [.int .u64 0, .int .i64 (if 65536 < s.length then 3 else 4)])) := by
  refine V29_ok ?_
  unfold V29
  rw [vcs.len_9, optW_some, bin_gtr, optW_some, condW_bool]
  constructor
  · intro h
    have h : (s.length : Int) > 65536 := of_decide_eq_true h
    rw [if_pos (by omega)]
    exact ⟨rfl, stays_refl _⟩
  · intro h
    have h : ¬ (s.length : Int) > 65536 := of_decide_eq_false h
    rw [if_neg (by omega)]
    have hq : ((s.length : Int) + 7).tdiv 8 = ((s.length : Int) + 7) / 8 := Int.tdiv_eq_ediv_of_nonneg (by omega)
    rw [ifc_82, optW_some, optW_some, bin_add, optW_some, wrap_i64 (by omega) (by omega), bin_quo, if_neg (by omega), optW_some, hq, wrap_i64 (by omega) (by omega), bin_add, optW_some, wrap_i64 (by omega) (by omega)]
    refine (keep_d d (by omega)).use ?_
    rintro r H2 ⟨rfl, rfl⟩ _ _
    simp only [ex0, ex1, oS]
    exact ⟨rfl, stays_refl _⟩
theorem fill_d (d : Dead H h) {t n w : Int} : FnW Try.prog E w0 30 [h, .int .i64 t, .int .i64 n, .int .u64 w] H (Told H (.tup [.int .u64 0, .int .i64 (if n < 0 ∨ n > 65536 then 3 else 4)])) := by
  refine V30_ok ?_
  unfold V30
  rw [bin_lss, optW_some]
  by_cases h0 : n < 0
  · simp only [h0, decide_true, wB, tf, vF, oS, pB, if_true, cT, true_or]
    exact ⟨rfl, stays_refl _⟩
  simp only [h0, decide_false, wB, nf, vT, oS, bin_gtr, pB, Bool.false_eq_true, if_false, false_or]
  by_cases h1 : n > 65536
  · simp only [h1, decide_true, cT, if_true]
    exact ⟨rfl, stays_refl _⟩
  simp only [h1, decide_false, cF, if_false, bin_add, oS]
  rw [wrap_i64 (by omega) (by omega)]
  refine (room_d d (by omega)).use ?_
  rintro v H1 ⟨rfl, rfl⟩ _ _
  simp only [un_not, Bool.not_false, oS, cT]
  exact ⟨rfl, stays_refl _⟩
theorem const_d (d : Dead H h) {s : List UInt8} : FnW Try.prog E w0 28 [h, .str s] H (Told H (.int .u64 0)) := by
  refine V28_ok ?_
  unfold V28
  rcases d with rfl | ⟨kh, rfl, hg⟩
  · simp only [eqvnn_25, oS, wB, tf, vF, pB, if_true, cT]
    exact ⟨rfl, stays_refl _⟩
  · have l3 : loadCell E H (.new kh) 3 = some (.bool false) := by rw [loadCell_new E hg]; rfl
    simp only [eqvn_25, oS, wB, nf, vT, nilV_ptr, fa_57_3, ld_4, Nat.zero_add, l3, un_not, Bool.not_false, pB, Bool.false_eq_true, if_false, cT]
    exact ⟨rfl, stays_refl _⟩
theorem used_d (d : Dead H h) : FnW Try.prog E w0 19 [h] H (Told H (.int .i64 0)) := by
  refine V19_ok ?_
  unfold V19
  rcases d with rfl | ⟨kh, rfl, hg⟩
  · simp only [eqvnn_25, oS, cT]
    exact ⟨rfl, stays_refl _⟩
  · have l1 : loadCell E H (.new kh) 1 = some (.int .i64 0) := by rw [loadCell_new E hg]; rfl
    simp only [eqvn_25, oS, cF, nilV_ptr, fa_57_1, ld_3, Nat.zero_add, l1]
    exact ⟨rfl, stays_refl _⟩
theorem type_d (d : Dead H h) {ref : Int} (h0 : 0 ≤ ref) : FnW Try.prog E w0 22 [h, .int .u64 ref] H (Told H (.int .i64 0)) := by
  refine V22_ok ?_
  unfold V22
  refine (at_d d h0).use ?_
  rintro r H1 ⟨rfl, rfl⟩ _ _
  simp only [nevnn_80, oS, cF]
  exact ⟨rfl, stays_refl _⟩
end
end Go.Proofs.Ytjbpdmlpjgejcaa.hn
