/-
  Texts Cp Cq Cr Cs Ct, as far as they are used.
-/
import Derived.Test.YtcboaonbfgjmgaaZbc
import Derived.Test.YtcboaonbfgjmgaaZay
import Derived.Test.YtcboaonbfgjmgaaZbd
section
open Go.Proofs Go Go.Am Go.Op
namespace Go.Proofs.Ytcboaonbfgjmgaa.d
set_option linter.unusedVariables false
set_option linter.unusedSimpArgs false
set_option maxRecDepth 100000
/-- The type of a number. -/
def tyOf (m : Mo) (n : Int) : Option Ty := if 16 ≤ n then m.types[(n - 16).toNat]? else none
def zeroTy : Ty := ⟨0, [], [], 0, 0⟩
/-- It, if it is of one of some kinds. -/
def typedS (m : Mo) (n : Int) (ks : List Int) : Ty × Bool := match tyOf m n with
  | some t => (t, ks.contains t.kind)
  | none => (zeroTy, false)
def typedD (m : Mo) (n : Int) (ks : List Int) : D := .tup [.agg (tyR (typedS m n ks).1), .bool (typedS m n ks).2]
theorem zero_wk (b : Bool) : Wk (.tup [.agg [.int .u8 0, .str [], .nilSlc, .int .i64 0, .int .i64 0], .bool b]) (.tup [.agg (tyR zeroTy), .bool b]) :=
  Wk.tup ⟨Wk.agg ⟨Wk.refl _, Wk.refl _, Wk.nil _, Wk.refl _, Wk.refl _, trivial⟩, Wk.refl _, trivial⟩
/-- Numbers in a list of one's own. -/
def Own (S0 : DSt) (d : D) (l : List Int) (S : DSt) : Prop :=
  (d = .nilSlc ∧ l = [] ∧ S = S0) ∨ ∃ k acs ex, S0 k = Option.none ∧ d = .raw k 0 l.length l.length ex 1 ∧ S = S0.set k ⟨1, iC l, acs⟩
theorem Own.le {S0 S : DSt} {d : D} {l : List Int} (h : Own S0 d l S) : S0.le S := by
  rcases h with ⟨_, _, rfl⟩ | ⟨k, acs, ex, h, _, rfl⟩
  · exact DSt.le_refl _
  · exact DSt.le_new h
theorem Own.nil (S : DSt) : Own S .nilSlc [] S := .inl ⟨rfl, rfl, rfl⟩
theorem Own.cells {S0 S : DSt} {d : D} {l : List Int} (h : Own S0 d l S) : cellsD d = some [d] := by rcases h with ⟨rfl, _⟩ | ⟨_, _, _, _, rfl, _⟩ <;> rfl
theorem Own.of_grw {S0 S : DSt} {t : D} {l : List Int} (h : Grw S0 t (iC l) 1 S) : Own S0 t l S := by
  rcases h with ⟨rfl, e, rfl⟩ | ⟨k, acs, h, rfl, rfl⟩
  · refine .inl ⟨rfl, ?_, rfl⟩
    cases l with
    | nil => rfl
    | cons a l => simp [iC, ones] at e
  · exact .inr ⟨k, acs, false, h, by simp, rfl⟩
theorem Own.base {S0 S1 S : DSt} {d : D} {l : List Int} (h : Own S1 d l S) (hle : S0.le S1) : ∃ S', S'.le S ∧ Own S0 d l S' := by
  rcases h with ⟨rfl, rfl, rfl⟩ | ⟨k, acs, ex, h, rfl, rfl⟩
  · exact ⟨S0, hle, .inl ⟨rfl, rfl, rfl⟩⟩
  · have hk : S0 k = Option.none := by
      cases e : S0 k with
      | none => rfl
      | some o => rw [hle _ _ e] at h; cases h
    refine ⟨S0.set k ⟨1, iC l, acs⟩, fun j o e => ?_, .inr ⟨k, acs, ex, hk, rfl, rfl⟩⟩
    unfold DSt.set at e ⊢
    split at e
    · rename_i hj; rw [if_pos hj]; exact e
    · rename_i hj; rw [if_neg hj]; exact hle _ _ e
theorem Own.upd {S0 S : DSt} {d : D} {l : List Int} {k : Nat} {o o' : DObj} (h : Own S0 d l S) (hk : S0 k = some o') : Own (S0.set k o) d l (S.set k o) := by
  rcases h with ⟨rfl, rfl, rfl⟩ | ⟨j, acs, ex, h, rfl, rfl⟩
  · exact .inl ⟨rfl, rfl, rfl⟩
  · have hne : j ≠ k := fun e => by rw [e, hk] at h; cases h
    refine .inr ⟨j, acs, ex, ?_, rfl, DSt.set_comm _ hne _ _⟩
    rw [DSt.set_ne _ _ _ hne]; exact h
/-- Two of them. -/
def Two (S0 : DSt) (c : D) (lc : List Int) (d : D) (ld : List Int) (S : DSt) : Prop := ∃ S1, Own S0 c lc S1 ∧ Own S1 d ld S
theorem Two.base {S0 S1 S : DSt} {c d : D} {lc ld : List Int} (h : Two S1 c lc d ld S) (hle : S0.le S1) : ∃ S', S'.le S ∧ Two S0 c lc d ld S' := by
  obtain ⟨S2, h1, h2⟩ := h
  obtain ⟨S2', l2, g1⟩ := h1.base hle
  obtain ⟨S', l3, g2⟩ := h2.base l2
  exact ⟨S', l3, S2', g1, g2⟩
theorem Two.upd {S0 S : DSt} {c d : D} {lc ld : List Int} {k : Nat} {o o' : DObj} (h : Two S0 c lc d ld S) (hk : S0 k = some o') : Two (S0.set k o) c lc d ld (S.set k o) := by
  obtain ⟨S2, h1, h2⟩ := h
  exact ⟨S2.set k o, h1.upd hk, h2.upd (h1.le _ _ hk)⟩
theorem Two.le {S0 S : DSt} {c d : D} {lc ld : List Int} (h : Two S0 c lc d ld S) : S0.le S := by
  obtain ⟨S2, h1, h2⟩ := h
  exact DSt.le_trans h1.le h2.le
theorem lit_own {S : DSt} {l : List Int} {K : D → DSt → Prop} (h : ∀ d S', Own S d l S' → K d S') : litD S 1 (some (iC l)) l.length K :=
  lit_raw fun k acs hk => h _ _ (.inr ⟨k, acs, true, hk, by simp, rfl⟩)
/-- An effect. -/
def efD (c d : D) (ok : Bool) : D := .agg [c, d, .bool ok]
section
variable {E : Env} {w0 : World}
theorem ops_of_ok {d : D} (hd : cellsD d = some [d]) : Pure Try.prog E w0 f_ops_of [d] (efD d .nilSlc true) := fun x S => by
  refine V_ops_of_ok ?_
  unfold V_ops_of
  intro k a n
  have h : aggD (fillD [.nilSlc, .nilSlc, (.bool false)] [(0, 1, d), (2, 1, (.bool true))]) = some (efD d .nilSlc true) := by
    simp [fillD, hd, efD, setManyD, aggD]
  rw [h, oD]
  refine stP (ds := [d, .nilSlc, .bool true]) (DSt.set_same _ _ _) (clA _) ⟨rfl, by decide, by simp⟩ fun a2 => ?_
  rw [DSt.set_set, laP (DSt.set_same _ _ _) (by simp [setManyD]), oD]
  exact FinD.less (DSt.le_new n) FinD.pure
theorem ops_gives_ok {a b c d : D} (hd : cellsD d = some [d]) : Pure Try.prog E w0 f_ops_effect_gives [.agg [a, b, c], d] (.agg [a, d, c]) := fun x S => by
  refine V_ops_effect_gives_ok ?_
  unfold V_ops_effect_gives
  rw [clA, oD]
  intro k a1 n
  intro k2 a2 n2
  obtain ⟨ne, n2'⟩ := DSt.fresh n2
  rw [ofP, oD]
  refine stP (ds := [d]) (by rw [DSt.set_ne _ _ _ (Ne.symm ne)]; exact DSt.set_same _ _ _) hd ⟨rfl, by decide, by simp⟩ fun a3 => ?_
  rw [laP (DSt.set_same _ _ _) (by simp [setManyD]), oD]
  refine stP (ds := [a, d, c]) (by rw [DSt.set_ne _ _ _ ne]; exact DSt.set_same _ _ _) (clA _) ⟨rfl, by decide, by simp⟩ fun a4 => ?_
  rw [laP (DSt.set_same _ _ _) (by simp [setManyD]), oD]
  refine FinD.less (DSt.le_set (DSt.le_set (DSt.le_set (DSt.le_new n) n2') n) n2') ?_
  exact FinD.pure
theorem ops_given_ok {a b c d : D} (hd : cellsD d = some [d]) : Pure Try.prog E w0 f_ops_effect_given [.agg [a, b, c], d] (.agg [a, b, d]) := fun x S => by
  refine V_ops_effect_given_ok ?_
  unfold V_ops_effect_given
  rw [clA, oD]
  intro k a1 n
  intro k2 a2 n2
  obtain ⟨ne, n2'⟩ := DSt.fresh n2
  rw [ofP, oD]
  refine stP (ds := [d]) (by rw [DSt.set_ne _ _ _ (Ne.symm ne)]; exact DSt.set_same _ _ _) hd ⟨rfl, by decide, by simp⟩ fun a3 => ?_
  rw [laP (DSt.set_same _ _ _) (by simp [setManyD]), oD]
  refine stP (ds := [a, b, d]) (by rw [DSt.set_ne _ _ _ ne]; exact DSt.set_same _ _ _) (clA _) ⟨rfl, by decide, by simp⟩ fun a4 => ?_
  rw [laP (DSt.set_same _ _ _) (by simp [setManyD]), oD]
  refine FinD.less (DSt.le_set (DSt.le_set (DSt.le_set (DSt.le_new n) n2') n) n2') ?_
  exact FinD.pure
theorem index_ok {l : List Int} {v : Int} (hl : l.length < 2 ^ 60) : Pure Try.prog E w0 f_slices_Contains_uint8 [bD l, .int .u8 v] (.bool (l.contains v)) := fun x S => by
  refine V_slices_Contains_uint8_ok ?_
  unfold V_slices_Contains_uint8
  have key : DFn Try.prog E w0 x f_slices_Index_uint8 [bD l, .int .u8 v] S fun d S' => S' = S ∧ ∃ n : Int, d = .int .i64 n ∧ decide (n ≥ 0) = l.contains v := by
    refine V_slices_Index_uint8_ok ?_
    unfold V_slices_Index_uint8
    rw [bD_len, oD]
    refine loop_slices_Index_uint8_0 (I := fun n x0 x1 x7 x8 S' => S = S' ∧ x0 = bD l ∧ x1 = .int .u8 v ∧ x7 = .int .i64 (l.length : Int) ∧ ∃ i : Nat, x8 = .int .i64 (i : Int) ∧ i + n = l.length ∧ v ∉ l.take i) ?_ (n := l.length) ⟨rfl, rfl, rfl, rfl, 0, rfl, by omega, by simp⟩
    rintro n _ _ _ _ _ ⟨rfl, rfl, rfl, rfl, i, rfl, hi, hn⟩
    unfold B_slices_Index_uint8_0
    rw [biLt, oD, cdI]
    refine ⟨fun hlt => ?_, fun hge => ?_⟩
    · have hlt : i < l.length := by omega
      have ea : l[i]? = some l[i] := List.getElem?_eq_getElem hlt
      rw [bD_at ea, oD, lsE, List.getElem?_cons_zero, oD, biEq, oD, beqD, cdI]
      refine ⟨fun e => FinD.here ⟨rfl, i, rfl, ?_⟩, fun e => ?_⟩
      · rw [decide_eq_true (by omega)]
        symm
        rw [List.contains_iff_mem, e]
        exact List.getElem_mem _
      · rw [biAdd, oD, wrap_i64 (by omega) (by omega)]
        refine ⟨n - 1, by omega, rfl, rfl, rfl, rfl, i + 1, rfl, by omega, ?_⟩
        rw [List.take_add_one, ea, Option.toList_some, List.mem_append, List.mem_singleton]
        exact fun h => h.elim hn e
    · rw [List.take_of_length_le (by omega)] at hn
      refine FinD.here ⟨rfl, -1, rfl, ?_⟩
      rw [decide_eq_false (by omega)]
      symm
      rw [← Bool.not_eq_true, List.contains_iff_mem]
      exact hn
  refine key.use ?_
  rintro d S' ⟨rfl, n, rfl, h⟩
  rw [biGe, oD, h]
  exact FinD.pure
theorem tyOf_some {m : Mo} {n : Int} {t : Ty} (h : tyOf m n = some t) : 16 ≤ n ∧ m.types[(n - 16).toNat]? = some t ∧ (n - 16).toNat < m.types.length := by
  unfold tyOf at h
  split at h
  · rename_i h16
    exact ⟨h16, h, (List.getElem?_eq_some_iff.1 h).1⟩
  · cases h
theorem ops_typed_ok {m : Mo} (hm : m.Ok) {n : Int} (hn : I64 n) {ks : List Int} (hk : ks.length < 2 ^ 60) : Pure Try.prog E w0 f_ops_typed [moD m, .int .i64 n, bD ks] (typedD m n ks) := fun x S => by
  obtain ⟨hn1, hn2⟩ := hn
  refine V_ops_typed_ok ?_
  unfold V_ops_typed
  rw [moD, clA, oD]
  intro k a n1
  intro k2 a2 n2
  obtain ⟨ne2, n2'⟩ := DSt.fresh n2
  generalize hS3 : (S.set k _).set k2 _ = S3
  have h2 : S3 k2 = some ⟨5, [[.int .u8 0, .str [], .nilSlc, .int .i64 0, .int .i64 0]], a2⟩ := by rw [← hS3]; exact DSt.set_same _ _ _
  have h0 : S3 k = some ⟨3, [moC m], a⟩ := by rw [← hS3, DSt.set_ne _ _ _ (Ne.symm ne2)]; exact DSt.set_same _ _ _
  have hle : S.le S3 := by rw [← hS3]; exact DSt.le_set (DSt.le_new n1) n2'
  obtain ⟨xa0, xa1, xa2⟩ := moC_at m
  have := hm.types
  have bad : tyOf m n = none → FinD E (fun d' S' => d' = typedD m n ks ∧ S' = S) (.tup [.agg [.int .u8 0, .str [], .nilSlc, .int .i64 0, .int .i64 0], .bool false]) S3 := fun h => by
    refine FinD.less hle (FinD.weak (zero_wk false) (FinD.here ⟨?_, rfl⟩))
    simp only [typedD, typedS, h]
  have bad' : tyOf m n = none → optW (aggD (fillD [(.int .u8 0), (.str []), .nilSlc, (.int .i64 0), (.int .i64 0)] [])) fun v12 => storeD S3 5 (.ptr k2 0) v12 fun v13 S14 => optW (loadAg S14 5 (.ptr k2 0)) fun v15 => FinD E (fun d' S' => d' = typedD m n ks ∧ S' = S) (.tup [v15, (.bool false)]) S14 := fun h => by
    rw [fiN, agS, oD]
    refine stP (ds := [.int .u8 0, .str [], .nilSlc, .int .i64 0, .int .i64 0]) h2 (clA _) ⟨rfl, by decide, by simp⟩ fun a5 => ?_
    rw [laP (DSt.set_same _ _ _) (by simp [setManyD]), oD]
    refine FinD.less (S' := S) ?_ (FinD.weak (zero_wk false) (FinD.here ⟨?_, rfl⟩))
    · exact DSt.le_set hle n2'
    · simp only [typedD, typedS, h]
  rw [biLt, oD]
  by_cases c1 : n < 16
  · rw [decide_eq_true c1]
    simp only [wdB, t1, vdF, oD, pdB, if_true, cdT]
    exact bad' (by unfold tyOf; rw [if_neg (by omega)])
  rw [decide_eq_false c1]
  simp only [wdB, t2, vdT, oD, biSub, ofP, Nat.zero_add, ldP h0, xa0, tysD_len, biGe, pdB, Bool.false_eq_true, if_false]
  rw [wrap_i64 (by omega) (by omega), cdI]
  refine ⟨fun h => bad' ?_, fun h => ?_⟩
  · unfold tyOf
    rw [if_pos (by omega), List.getElem?_eq_none (by omega)]
  obtain ⟨i, hi⟩ : ∃ i : Nat, i = (n - 16).toNat := ⟨_, rfl⟩
  have hi' : n - 16 = (i : Int) := by omega
  have hlt : i < m.types.length := by omega
  obtain ⟨t, ht⟩ : ∃ t, t = m.types[i] := ⟨_, rfl⟩
  have ea : m.types[i]? = some t := by rw [List.getElem?_eq_getElem hlt, ht]
  have e : tyOf m n = some t := by unfold tyOf; rw [if_pos (by omega), ← hi]; exact ea
  rw [hi', tysD_at ea, oD, laTy, oD]
  intro k5 a5 n5
  refine stP (ds := tyR t) (DSt.set_same _ _ _) (clA _) ⟨rfl, by decide, by simp [tyR]⟩ fun a6 => ?_
  rw [DSt.set_set, show setManyD [D.int .u8 0, .str [], .nilSlc, .int .i64 0, .int .i64 0] 0 (tyR t) = tyR t from rfl]
  have ne5 : k2 ≠ k5 := fun e => by rw [← e, h2] at n5; cases n5
  rw [laP (DSt.set_same _ _ _) (by simp [tyR]), oD]
  refine ⟨by trivial, ?_⟩
  rw [ofP, oD, ldP (DSt.set_same _ _ _), show (tyR t)[0 + 0]? = some (.int .u8 t.kind) from rfl, oD]
  refine ⟨by trivial, (index_ok hk).useX ⟨⟨rfl, trivial⟩, ?_⟩⟩
  refine stP (ds := tyR t) (by rw [DSt.set_ne _ _ _ ne5]; exact h2) (clA _) ⟨rfl, by decide, by simp [tyR]⟩ fun a7 => ⟨by trivial, ?_⟩
  rw [laP (DSt.set_same _ _ _) (by simp [setManyD, tyR]), oD]
  have e2 : typedD m n ks = .tup [.agg (tyR t), .bool (ks.contains t.kind)] := by simp only [typedD, typedS, e]
  refine FinD.less (S' := S) (DSt.le_set ?_ n2') ?_
  · have z5 : S k5 = none := by
      cases e : S k5 with
      | none => rfl
      | some o => rw [hle _ _ e] at n5; cases n5
    exact DSt.le_set hle z5
  · rw [e2]
    exact FinD.pure
end
end Go.Proofs.Ytcboaonbfgjmgaa.d
end

section
open Go.Proofs Go Go.Am Go.Op
namespace Go.Proofs.Ytcboaonbfgjmgaa.d
set_option linter.unusedVariables false
set_option linter.unusedSimpArgs false
set_option maxRecDepth 100000
section
variable {E : Env} {w0 : World}
theorem wrap_sub {n : Int} (hn : I64 n) : (16 ≤ n ∧ IntKind.i64.wrap (n - 16) = n - 16) ∨ (n < 16 ∧ (IntKind.i64.wrap (n - 16) < 0 ∨ 2 ^ 62 ≤ IntKind.i64.wrap (n - 16))) := by
  obtain ⟨h1, h2⟩ := hn
  have iw : ∀ z : Int, IntKind.i64.wrap z = if 9223372036854775808 ≤ z % 18446744073709551616 then z % 18446744073709551616 - 18446744073709551616 else z % 18446744073709551616 := by
    intro z
    simp only [IntKind.wrap, IntKind.bits, IntKind.signed]; simp
  rw [iw]
  split <;> omega
theorem ref12_typed_ok {m : Mo} (hm : m.Ok) {n : Int} (hn : I64 n) {ka kb : Int} : Pure Try.prog E w0 f_ref12_typed [moD m, .int .i64 n, .int .u8 ka, .int .u8 kb] (typedD m n [ka, kb]) := fun x S => by
  refine V_ref12_typed_ok ?_
  unfold V_ref12_typed
  rw [moD, clA, oD]
  intro k a n1
  intro k2 a2 n2
  obtain ⟨ne2, n2'⟩ := DSt.fresh n2
  generalize hS3 : (S.set k _).set k2 _ = S3
  have h2 : S3 k2 = some ⟨5, [[.int .u8 0, .str [], .nilSlc, .int .i64 0, .int .i64 0]], a2⟩ := by rw [← hS3]; exact DSt.set_same _ _ _
  have h0 : S3 k = some ⟨3, [moC m], a⟩ := by rw [← hS3, DSt.set_ne _ _ _ (Ne.symm ne2)]; exact DSt.set_same _ _ _
  have hle : S.le S3 := by rw [← hS3]; exact DSt.le_set (DSt.le_new n1) n2'
  obtain ⟨xa0, xa1, xa2⟩ := moC_at m
  have := hm.types
  have bad' : tyOf m n = none → optW (aggD (fillD [(.int .u8 0), (.str []), .nilSlc, (.int .i64 0), (.int .i64 0)] [])) fun v12 => storeD S3 5 (.ptr k2 0) v12 fun v13 S14 => optW (loadAg S14 5 (.ptr k2 0)) fun v15 => FinD E (fun d' S' => d' = typedD m n [ka, kb] ∧ S' = S) (.tup [v15, (.bool false)]) S14 := fun h => by
    rw [fiN, agS, oD]
    refine stP (ds := [.int .u8 0, .str [], .nilSlc, .int .i64 0, .int .i64 0]) h2 (clA _) ⟨rfl, by decide, by simp⟩ fun a5 => ?_
    rw [laP (DSt.set_same _ _ _) (by simp [setManyD]), oD]
    refine FinD.less (S' := S) ?_ (FinD.weak (zero_wk false) (FinD.here ⟨?_, rfl⟩))
    · exact DSt.le_set hle n2'
    · simp only [typedD, typedS, h]
  have none1 : n < 16 → tyOf m n = none := fun h => by unfold tyOf; rw [if_neg (by omega)]
  rw [biSub, oD, biLt, oD]
  rcases wrap_sub hn with ⟨h16, hw⟩ | ⟨h16, hw⟩
  · rw [hw, decide_eq_false (by omega)]
    simp only [wdB, t2, vdT, oD, ofP, Nat.zero_add, ldP h0, xa0, tysD_len, biGe, pdB, Bool.false_eq_true, if_false]
    rw [cdI]
    refine ⟨fun h => bad' ?_, fun h => ?_⟩
    · unfold tyOf
      rw [if_pos (by omega), List.getElem?_eq_none (by omega)]
    obtain ⟨i, hi⟩ : ∃ i : Nat, i = (n - 16).toNat := ⟨_, rfl⟩
    have hi' : n - 16 = (i : Int) := by omega
    have hlt : i < m.types.length := by omega
    obtain ⟨t, ht⟩ : ∃ t, t = m.types[i] := ⟨_, rfl⟩
    have ea : m.types[i]? = some t := by rw [List.getElem?_eq_getElem hlt, ht]
    have e : tyOf m n = some t := by unfold tyOf; rw [if_pos (by omega), ← hi]; exact ea
    rw [hi', tysD_at ea, oD, laTy, oD]
    intro k5 a5 n5
    refine stP (ds := tyR t) (DSt.set_same _ _ _) (clA _) ⟨rfl, by decide, by simp [tyR]⟩ fun a6 => ?_
    rw [DSt.set_set, show setManyD [D.int .u8 0, .str [], .nilSlc, .int .i64 0, .int .i64 0] 0 (tyR t) = tyR t from rfl]
    have ne5 : k2 ≠ k5 := fun e => by rw [← e, h2] at n5; cases n5
    rw [laP (DSt.set_same _ _ _) (by simp [tyR]), oD]
    refine ⟨by trivial, ?_⟩
    rw [ofP, oD, ldP (DSt.set_same _ _ _), show (tyR t)[0 + 0]? = some (.int .u8 t.kind) from rfl, oD]
    refine ⟨by trivial, ?_⟩
    rw [biEq, oD]
    have z5 : S k5 = none := by
      cases e : S k5 with
      | none => rfl
      | some o => rw [hle _ _ e] at n5; cases n5
    have e2 : typedD m n [ka, kb] = .tup [.agg (tyR t), .bool (t.kind == ka || t.kind == kb)] := by
      simp only [typedD, typedS, e, List.contains_cons, List.contains_nil, Bool.or_false]
    have fin : ∀ (S5 : DSt) (c : Bool), c = (t.kind == ka || t.kind == kb) → S.le S5 → FinD E (fun d' S' => d' = typedD m n [ka, kb] ∧ S' = S) (.tup [.agg (tyR t), .bool c]) S5 := fun S5 c h l => by
      rw [e2, ← h]
      exact FinD.less l FinD.pure
    by_cases c1 : t.kind = ka
    · rw [show (t.kind == ka) = true by simp [c1]]
      simp only [wdB, t1, vdF, oD, pdB, if_true]
      refine ⟨by trivial, ?_⟩
      refine stP (ds := tyR t) (by rw [DSt.set_ne _ _ _ ne5]; exact h2) (clA _) ⟨rfl, by decide, by simp [tyR]⟩ fun a7 => ⟨⟨trivial, trivial⟩, ?_⟩
      rw [laP (DSt.set_same _ _ _) (by simp [setManyD, tyR]), oD]
      exact fin _ true (by simp [c1]) (DSt.le_set (DSt.le_set hle z5) n2')
    · rw [show (t.kind == ka) = false by simp [c1]]
      simp only [wdB, t2, vdT, oD, ldP (DSt.set_same _ _ _), show (tyR t)[0]? = some (.int .u8 t.kind) from rfl, biEq, pdB, Bool.false_eq_true, if_false]
      refine ⟨by trivial, ?_⟩
      refine stP (ds := tyR t) (by rw [DSt.set_ne _ _ _ ne5]; exact h2) (clA _) ⟨rfl, by decide, by simp [tyR]⟩ fun a7 => ⟨⟨?_, trivial⟩, ?_⟩
      · rw [fwP]
        exact DSt.set_ne _ _ _ (Ne.symm ne5)
      rw [laP (DSt.set_same _ _ _) (by simp [setManyD, tyR]), oD]
      exact fin _ _ (by simp [c1]) (DSt.le_set (DSt.le_set hle z5) n2')
  · rcases hw with hw | hw
    · rw [decide_eq_true hw]
      simp only [wdB, t1, vdF, oD, pdB, if_true, cdT]
      exact bad' (none1 h16)
    · rw [decide_eq_false (by omega)]
      simp only [wdB, t2, vdT, oD, ofP, Nat.zero_add, ldP h0, xa0, tysD_len, biGe, pdB, Bool.false_eq_true, if_false]
      rw [decide_eq_true (by omega), cdT]
      exact bad' (none1 h16)
end
end Go.Proofs.Ytcboaonbfgjmgaa.d
end

section
open Go.Proofs Go Go.Am Go.Op
namespace Go.Proofs.Ytcboaonbfgjmgaa.d
set_option linter.unusedVariables false
set_option linter.unusedSimpArgs false
set_option maxRecDepth 100000
/-- What is taken and put by what works on records and arrays; whether the module has what it names. -/
def madeS (y : In) (m : Mo) : List Int × List Int × Bool :=
  if y.op = 36 ∨ y.op = 37 ∨ y.op = 38 then
    let t := typedS m y.a [6]
    if y.op = 36 then (t.1.fields.map (·.2), [y.a], t.2)
    else match (if t.2 then t.1.fields[y.b.toNat]? else none) with
      | some f => if y.op = 37 then ([y.a], [f.2], true) else ([y.a, f.2], [], true)
      | none => ([], [], false)
  else if y.op = 39 then ([(typedS m y.a [7]).1.elem], [y.a], (typedS m y.a [7]).2)
  else if y.op = 40 then ([], [y.a], (typedS m y.a [8]).2)
  else if y.op = 44 then ([y.a, (typedS m y.a [8]).1.elem], [], (typedS m y.a [8]).2)
  else if y.op = 45 then ([y.a], [(typedS m y.a [8]).1.elem], (typedS m y.a [8]).2)
  else if y.op = 41 then ([y.a, 3], [(typedS m y.a [7, 8]).1.elem], (typedS m y.a [7, 8]).2)
  else if y.op = 42 then ([y.a, 3, (typedS m y.a [7, 8]).1.elem], [], (typedS m y.a [7, 8]).2)
  else ([y.a], [3], (typedS m y.a [7, 8]).2)
theorem typed2 (m : Mo) (n k : Int) : typedS m n [k, k] = typedS m n [k] := by
  unfold typedS
  split <;> simp
theorem tyBox {S : DSt} {t : Ty} {K : D → DSt → Prop} (h : ∀ k a, S k = none → K (.ptr k 0) (S.set k ⟨5, [tyR t], a⟩)) : allocD S [(.int .u8 0), (.str []), .nilSlc, (.int .i64 0), (.int .i64 0)] fun v S1 => storeD S1 5 v (.agg (tyR t)) fun _ S2 => K v S2 := by
  intro k a n
  refine stP (ds := tyR t) (DSt.set_same _ _ _) (clA _) ⟨rfl, by decide, by simp [tyR]⟩ fun a2 => ?_
  rw [DSt.set_set]
  exact h k a2 n
def tkD (r : List Int × List Int × Bool) : D := .tup [iD r.1, iD r.2.1, .bool r.2.2]
theorem nil0 : Wk .nilSlc (iD []) := Wk.nil 1
theorem li1 {S : DSt} {a : Int} {K : D → DSt → Prop} (h : K (iD [a]) S) : litD S 1 (fillR 1 (List.replicate 1 [(.int .i64 0)]) [(0, .int .i64 a)]) 1 K := lit_lst (rows := iC [a]) rfl h
theorem li2 {S : DSt} {a b : Int} {K : D → DSt → Prop} (h : K (iD [a, b]) S) : litD S 1 (fillR 1 (List.replicate 2 [(.int .i64 0)]) [(0, .int .i64 a), (1, .int .i64 b)]) 2 K := lit_lst (rows := iC [a, b]) rfl h
theorem li3 {S : DSt} {a b c : Int} {K : D → DSt → Prop} (h : K (iD [a, b, c]) S) : litD S 1 (fillR 1 (List.replicate 3 [(.int .i64 0)]) [(0, .int .i64 a), (1, .int .i64 b), (2, .int .i64 c)]) 3 K := lit_lst (rows := iC [a, b, c]) rfl h
theorem tyR_at (t : Ty) : (tyR t)[2]? = some (fldsD t.fields) ∧ (tyR t)[3]? = some (.int .i64 t.elem) := ⟨rfl, rfl⟩
theorem inC_at (y : In) : (inC y)[0]? = some (.int .u8 y.op) ∧ (inC y)[1]? = some (.int .i64 y.a) ∧ (inC y)[2]? = some (.int .i64 y.b) ∧ (inC y)[3]? = some (armD y.arms) := ⟨rfl, rfl, rfl, rfl⟩
section
variable {E : Env} {w0 : World}
theorem ref12_made_25_ok {y : In} {m : Mo} (hy : y.Ok) (hm : m.Fits) (hb : y.op = 37 ∨ y.op = 38 → 0 ≤ y.b) {S0 S : DSt} (hle : S0.le S) {k k2 : Nat} {a a2 : List AV} (h0 : S k = some ⟨4, [inC y], a⟩) (h2 : S k2 = some ⟨3, [moC m], a2⟩) :
    C_ref12_made_25 E w0 false (FinD E fun d' S' => d' = tkD (madeS y m) ∧ S' = S0) (.ptr k 0) (.ptr k2 0) (.int .i64 y.a) (.int .u8 y.op) (.bool (decide (y.op = 36 ∨ y.op = 37 ∨ y.op = 38))) S := by
  refine C_ref12_made_25_ok ?_
  unfold P_ref12_made_25
  obtain ⟨xi0, xi1, xi2, xi3⟩ := inC_at y
  have hok := hm.ok
  have ha := hy.a
  have lm : loadAg S 3 (.ptr k2 0) = some (moD m) := by rw [laP h2 (by simp [moC])]; rfl
  have fin : ∀ (S5 : DSt) (r : List Int × List Int × Bool), S.le S5 → r = madeS y m → FinD E (fun d' S' => d' = tkD (madeS y m) ∧ S' = S0) (.tup [iD r.1, iD r.2.1, .bool r.2.2]) S5 := fun S5 r l e => by
    rw [← e]
    exact FinD.less (DSt.le_trans hle l) FinD.pure
  rw [cdI]
  refine ⟨fun h36 => ?_, fun h36 => ?_⟩
  · rw [lm, oD, ofP, oD, ldP h0, show (inC y)[0 + 1]? = some (.int .i64 y.a) from rfl, oD]
    refine (ref12_typed_ok hok ha).use ?_
    obtain ⟨t, ok, ht⟩ : ∃ t ok, typedS m y.a [6] = (t, ok) := ⟨_, _, rfl⟩
    simp only [typedD, typed2, ht, exD, List.getElem?_cons_zero, List.getElem?_cons_succ, oD]
    refine tyBox fun k5 a5 n5 => ?_
    have n1 : k ≠ k5 := fun e => by rw [← e, h0] at n5; cases n5
    have h0' : (S.set k5 ⟨5, [tyR t], a5⟩) k = some ⟨4, [inC y], a⟩ := by rw [DSt.set_ne _ _ _ n1]; exact h0
    have h5 : (S.set k5 ⟨5, [tyR t], a5⟩) k5 = some ⟨5, [tyR t], a5⟩ := DSt.set_same _ _ _
    have l5 : S.le (S.set k5 ⟨5, [tyR t], a5⟩) := DSt.le_new n5
    have hfl : t.fields.length < 2 ^ 30 := by
      unfold typedS at ht
      split at ht
      · rename_i t' e
        obtain ⟨_, e1, e2⟩ := tyOf_some e
        have : t' = t := (Prod.ext_iff.1 ht).1
        rw [← this]
        exact hm.fields _ (List.mem_of_getElem? e1)
      · have : zeroTy = t := (Prod.ext_iff.1 ht).1
        rw [← this]; decide
    generalize S.set k5 ⟨5, [tyR t], a5⟩ = S5 at h0' h5 l5 ⊢
    have bad : ∀ S', S5.le S' → ([], [], false) = madeS y m → FinD E (fun d' S' => d' = tkD (madeS y m) ∧ S' = S0) (.tup [.nilSlc, .nilSlc, .bool false]) S' := fun S' l e =>
      FinD.weak (Wk.tup (es := [iD [], iD [], .bool false]) ⟨nil0, nil0, Wk.refl _, trivial⟩) (fin _ (_, _, _) (DSt.le_trans l5 l) e)
    refine loop_ref12_made_0 (I := fun n x2 x7 x8 x9 x10 x11 S' => x2 = .ptr k 0 ∧ x7 = .int .i64 y.a ∧ x8 = .ptr k5 0 ∧ x9 = .bool ok ∧ ∃ i : Nat, x11 = .int .i64 (i : Int) ∧ i + n = t.fields.length ∧ Grw S5 x10 (iC ((t.fields.take i).map (·.2))) 1 S') ?_ (n := t.fields.length) ⟨rfl, rfl, rfl, rfl, 0, rfl, by omega, Grw.nil _ _⟩
    rintro n _ _ _ _ x10 _ S6 ⟨rfl, rfl, rfl, rfl, i, rfl, hi, g⟩
    have g0 := g.le _ _ h0'
    have g5 := g.le _ _ h5
    unfold B_ref12_made_0
    simp only [ofP, oD, ldP g5, Nat.zero_add, (tyR_at _).1, fldsD_len, biLt]
    rw [cdI]
    refine ⟨fun hlt => ?_, fun hge => ?_⟩
    · have hlt : i < t.fields.length := by omega
      obtain ⟨f, hf⟩ : ∃ f, f = t.fields[i] := ⟨_, rfl⟩
      have ea : t.fields[i]? = some f := by rw [List.getElem?_eq_getElem hlt, hf]
      simp only [fldsD_at ea, oD, ofE, lsE, Nat.zero_add, show (fldR f)[1]? = some (.int .i64 f.2) from rfl]
      refine li1 (g.push (news := iC [f.2]) (iD_rows _ _) (by simp; omega) fun t' S' g' => ?_)
      rw [biAdd, oD, wrap_i64 (by omega) (by omega)]
      refine ⟨n - 1, by omega, by trivial, by trivial, by trivial, by trivial, i + 1, rfl, by omega, ?_⟩
      rw [List.take_add_one, ea, Option.toList_some, List.map_append, iC_append]
      exact g'
    have hi : i = t.fields.length := by omega
    subst hi
    rw [List.take_length] at g
    simp only [ldP g0, xi0, oD, biEq]
    rw [beqD, cdI]
    refine ⟨fun e36 => li1 ?_, fun e36 => ?_⟩
    · refine g.finT (lp := []) (lq := [iD [y.a], .bool ok]) ?_
      refine fin _ (t.fields.map (·.2), [y.a], ok) l5 ?_
      unfold madeS
      rw [if_pos h36]
      simp only [ht, if_pos e36]
    have hm36 : madeS y m = match (if ok then t.fields[y.b.toNat]? else none) with
      | some f => if y.op = 37 then ([y.a], [f.2], true) else ([y.a, f.2], [], true)
      | none => ([], [], false) := by
      unfold madeS
      rw [if_pos h36]
      simp only [ht, if_neg e36]
    rw [unN, oD]
    cases ok with
    | false =>
      simp only [Bool.not_false, wdB, t1, vdF, oD, pdB, if_true, cdT]
      exact bad _ g.le (by rw [hm36]; rfl)
    | true =>
      simp only [Bool.not_true, wdB, t2, vdT, oD, ldP g0, xi2, g.len, biGe, pdB, Bool.false_eq_true, if_false]
      have hbn : 0 ≤ y.b := hb (by omega)
      rw [cdI]
      refine ⟨fun hbig => bad _ g.le ?_, fun hsm => ?_⟩
      · rw [hm36, if_pos rfl, List.getElem?_eq_none (by simp at hbig; omega)]
      have hsm : y.b.toNat < t.fields.length := by simp at hsm; omega
      obtain ⟨j, hj⟩ : ∃ j : Nat, j = y.b.toNat := ⟨_, rfl⟩
      have hj' : y.b = (j : Int) := by omega
      rw [← hj] at hsm hm36
      obtain ⟨f, hf⟩ : ∃ f, f = t.fields[j] := ⟨_, rfl⟩
      have ea : t.fields[j]? = some f := by rw [List.getElem?_eq_getElem hsm, hf]
      rw [if_pos rfl, ea] at hm36
      simp only at hm36
      obtain ⟨p, hp1, hp2, hp3⟩ : ∃ p, idxSl 1 x10 (.int .i64 (j : Int)) = some p ∧ loadSc S6 p = some (.int .i64 f.2) ∧ footW p S6 S6 := by
        rcases g with ⟨_, e, _⟩ | ⟨kk, acs, _, rfl, rfl⟩
        · have := congrArg List.length e
          simp at this
          rw [this] at hsm; simp at hsm
        · refine ⟨_, idxR (by simp; omega), ?_, rfl⟩
          rw [Nat.zero_add, ldR (row := [.int .i64 f.2]) (DSt.set_same _ _ _) (iC_at (by rw [List.getElem?_map, ea]; rfl))]
          rfl
      rw [beqD, cdI]
      refine ⟨fun e37 => ?_, fun e37 => ?_⟩
      · rw [if_pos e37] at hm36
        refine ⟨by trivial, ?_, ?_, trivial⟩
        · refine li1 ⟨trivial, ?_⟩
          simp only [ldP g0, xi2, hj', hp1, hp2, hp3, oD, orAny]
          refine ⟨⟨⟨by simp, rfl⟩, trivial⟩, ⟨⟨by simp, trivial⟩, trivial⟩, li1 ⟨trivial, ?_⟩⟩
          exact fin _ (_, _, _) (DSt.le_trans l5 g.le) hm36.symm
        · simp only [hj', hp1, hp2, oD]
          refine ⟨trivial, trivial, li1 ⟨trivial, li1 ⟨trivial, ?_⟩⟩⟩
          exact fin _ (_, _, _) (DSt.le_trans l5 g.le) hm36.symm
      · rw [if_neg e37] at hm36
        simp only [hj', hp1, hp2, oD]
        refine li2 ?_
        exact FinD.weak (Wk.tup (es := [iD [y.a, _], iD [], .bool true]) ⟨Wk.refl _, nil0, Wk.refl _, trivial⟩) (fin _ (_, _, _) (DSt.le_trans l5 g.le) hm36.symm)
  · have e39 : ∀ (p : Int), binI .eql (.int .u8 y.op) (.int .u8 p) = some (.bool (decide (y.op = p))) := fun p => by rw [biEq, beqD]
    simp only [e39, oD]
    rw [cdI]
    refine ⟨fun h39 => ?_, fun h39 => ?_⟩
    · rw [lm, oD, ofP, oD, ldP h0, show (inC y)[0 + 1]? = some (.int .i64 y.a) from rfl, oD]
      refine (ref12_typed_ok hok ha).use ?_
      simp only [typedD, typed2, exD, List.getElem?_cons_zero, List.getElem?_cons_succ, oD]
      refine tyBox fun k5 a5 n5 => ?_
      rw [ofP, oD, ldP (DSt.set_same _ _ _), Nat.zero_add, (tyR_at _).2, oD]
      refine li1 (li1 (fin _ (_, _, _) (DSt.le_new n5) ?_))
      unfold madeS
      rw [if_neg h36, if_pos h39]
    rw [cdI]
    refine ⟨fun h40 => ?_, fun h40 => ?_⟩
    · rw [lm, oD, ofP, oD, ldP h0, show (inC y)[0 + 1]? = some (.int .i64 y.a) from rfl, oD]
      refine (ref12_typed_ok hok ha).use ?_
      simp only [typedD, typed2, exD, List.getElem?_cons_zero, List.getElem?_cons_succ, oD]
      refine tyBox fun k5 a5 n5 => ?_
      refine li1 (FinD.weak (Wk.tup (es := [iD [], iD [y.a], .bool _]) ⟨nil0, Wk.refl _, Wk.refl _, trivial⟩) (fin _ (_, _, _) (DSt.le_new n5) ?_))
      unfold madeS
      rw [if_neg h36, if_neg h39, if_pos h40]
    rw [cdI]
    refine ⟨fun h44 => ?_, fun h44 => ?_⟩
    · rw [lm, oD, ofP, oD, ldP h0, show (inC y)[0 + 1]? = some (.int .i64 y.a) from rfl, oD]
      refine (ref12_typed_ok hok ha).use ?_
      simp only [typedD, typed2, exD, List.getElem?_cons_zero, List.getElem?_cons_succ, oD]
      refine tyBox fun k5 a5 n5 => ?_
      rw [ofP, oD, ldP (DSt.set_same _ _ _), Nat.zero_add, (tyR_at _).2, oD]
      refine li2 (FinD.weak (Wk.tup (es := [iD [y.a, _], iD [], .bool _]) ⟨Wk.refl _, nil0, Wk.refl _, trivial⟩) (fin _ (_, _, _) (DSt.le_new n5) ?_))
      unfold madeS
      rw [if_neg h36, if_neg h39, if_neg h40, if_pos h44]
    rw [cdI]
    refine ⟨fun h45 => ?_, fun h45 => ?_⟩
    · rw [lm, oD, ofP, oD, ldP h0, show (inC y)[0 + 1]? = some (.int .i64 y.a) from rfl, oD]
      refine (ref12_typed_ok hok ha).use ?_
      simp only [typedD, typed2, exD, List.getElem?_cons_zero, List.getElem?_cons_succ, oD]
      refine tyBox fun k5 a5 n5 => ?_
      have e : ([y.a], [(typedS m y.a [8]).1.elem], (typedS m y.a [8]).2) = madeS y m := by
        unfold madeS
        rw [if_neg h36, if_neg h39, if_neg h40, if_neg h44, if_pos h45]
      refine ⟨by trivial, ?_, ?_, trivial⟩
      · refine li1 ⟨trivial, ?_⟩
        simp only [ofP, oD, ldP (DSt.set_same _ _ _), Nat.zero_add, (tyR_at _).2]
        refine ⟨?_, li1 ⟨trivial, fin _ (_, _, _) (DSt.le_new n5) e⟩⟩
        refine ⟨⟨?_, ?_⟩, trivial⟩
        · simp [orAny, ldP (DSt.set_same _ _ _), tyR]
        · simp [orAny, fwP]
      · simp only [ofP, oD, ldP (DSt.set_same _ _ _), Nat.zero_add, (tyR_at _).2]
        exact ⟨trivial, li1 ⟨trivial, li1 ⟨trivial, fin _ (_, _, _) (DSt.le_new n5) e⟩⟩⟩
    rw [lm, oD, ofP, oD, ldP h0, show (inC y)[0 + 1]? = some (.int .i64 y.a) from rfl, oD]
    refine (ref12_typed_ok hok ha).use ?_
    simp only [typedD, exD, List.getElem?_cons_zero, List.getElem?_cons_succ, oD]
    refine tyBox fun k5 a5 n5 => ?_
    have n1 : k ≠ k5 := fun e => by rw [← e, h0] at n5; cases n5
    rw [ofP, oD, ldP (by rw [DSt.set_ne _ _ _ n1]; exact h0), Nat.zero_add, xi0, oD, e39, oD, cdI]
    refine ⟨fun h41 => ?_, fun h41 => ?_⟩
    · have e : ([y.a, 3], [(typedS m y.a [7, 8]).1.elem], (typedS m y.a [7, 8]).2) = madeS y m := by
        unfold madeS
        rw [if_neg h36, if_neg h39, if_neg h40, if_neg h44, if_neg h45, if_pos h41]
      refine ⟨by trivial, ?_, ?_, trivial⟩
      · refine li2 ⟨trivial, ?_⟩
        simp only [ofP, oD, ldP (DSt.set_same _ _ _), Nat.zero_add, (tyR_at _).2]
        refine ⟨?_, li1 ⟨trivial, fin _ (_, _, _) (DSt.le_new n5) e⟩⟩
        refine ⟨⟨?_, ?_⟩, trivial⟩
        · simp [orAny, ldP (DSt.set_same _ _ _), tyR]
        · simp [orAny, fwP]
      · simp only [ofP, oD, ldP (DSt.set_same _ _ _), Nat.zero_add, (tyR_at _).2]
        exact ⟨trivial, li1 ⟨trivial, li2 ⟨trivial, fin _ (_, _, _) (DSt.le_new n5) e⟩⟩⟩
    rw [e39, oD, cdI]
    refine ⟨fun h42 => ?_, fun h42 => ?_⟩
    · rw [ofP, oD, ldP (DSt.set_same _ _ _), Nat.zero_add, (tyR_at _).2, oD]
      refine li3 (FinD.weak (Wk.tup (es := [iD [y.a, 3, _], iD [], .bool _]) ⟨Wk.refl _, nil0, Wk.refl _, trivial⟩) (fin _ (_, _, _) (DSt.le_new n5) ?_))
      unfold madeS
      rw [if_neg h36, if_neg h39, if_neg h40, if_neg h44, if_neg h45, if_neg h41, if_pos h42]
    · refine li1 (li1 (fin _ (_, _, _) (DSt.le_new n5) ?_))
      unfold madeS
      rw [if_neg h36, if_neg h39, if_neg h40, if_neg h44, if_neg h45, if_neg h41, if_neg h42]
theorem ref12_made_ok {y : In} {m : Mo} (hy : y.Ok) (hm : m.Fits) (hb : y.op = 37 ∨ y.op = 38 → 0 ≤ y.b) : PureW Try.prog E w0 f_ref12_made [inD y, moD m] (tkD (madeS y m)) := fun S => by
  refine V_ref12_made_ok ?_
  unfold V_ref12_made
  rw [inD, clA, oD]
  intro k a n
  rw [moD, clA, oD]
  intro k2 a2 n2
  obtain ⟨ne2, n2'⟩ := DSt.fresh n2
  generalize hS3 : (S.set k _).set k2 _ = S3
  have h2 : S3 k2 = some ⟨3, [moC m], a2⟩ := by rw [← hS3]; exact DSt.set_same _ _ _
  have h0 : S3 k = some ⟨4, [inC y], a⟩ := by rw [← hS3, DSt.set_ne _ _ _ (Ne.symm ne2)]; exact DSt.set_same _ _ _
  have hle : S.le S3 := by rw [← hS3]; exact DSt.le_set (DSt.le_new n) n2'
  obtain ⟨xi0, xi1, xi2, xi3⟩ := inC_at y
  simp only [ofP, oD, ldP h0, Nat.zero_add, xi0, xi1, biEq, beqD]
  have key := ref12_made_25_ok (E := E) (w0 := w0) hy hm hb hle h0 h2
  by_cases c1 : y.op = 36
  · rw [decide_eq_true (Or.inl c1)] at key
    rw [decide_eq_true c1, cdT]
    exact key
  rw [decide_eq_false c1, cdF]
  by_cases c2 : y.op = 37
  · rw [decide_eq_true (Or.inr (Or.inl c2))] at key
    rw [decide_eq_true c2, cdT]
    exact key
  rw [decide_eq_false c2, cdF]
  have : decide (y.op = 38) = decide (y.op = 36 ∨ y.op = 37 ∨ y.op = 38) := by simp [c1, c2]
  rw [this]
  exact key
end
end Go.Proofs.Ytcboaonbfgjmgaa.d
end

section
open Go.Proofs Go Go.Am Go.Op
namespace Go.Proofs.Ytcboaonbfgjmgaa.d
set_option linter.unusedVariables false
set_option linter.unusedSimpArgs false
set_option maxRecDepth 100000
/-- What is taken and put by what hangs on itself alone. -/
def plainS (y : In) : List Int × List Int :=
  if 1 ≤ y.op ∧ y.op ≤ 3 then ([], [y.op]) else
  if y.op = 4 ∨ y.op = 5 then ([], [4]) else
  if y.op = 6 then ([], [5]) else
  if y.op = 7 then ([], [0]) else
  if y.op = 8 ∨ y.op = 9 then ([0], []) else
  if y.op = 10 then ([0], [0, 0]) else
  if 11 ≤ y.op ∧ y.op ≤ 20 then ([y.a, y.a], [y.a]) else
  if y.op = 21 ∨ y.op = 22 then ([y.a], [y.a]) else
  if 23 ≤ y.op ∧ y.op ≤ 28 then ([y.a, y.a], [4]) else
  if y.op = 29 then ([y.a], [y.b]) else
  if y.op = 30 then ([4], [4]) else
  if y.op = 31 then ([5, 5], [5]) else
  if y.op = 32 then ([5], [3]) else
  if y.op = 33 then ([5, 3], [2]) else
  if y.op = 34 then ([5, 3, 3], [5]) else
  if y.op = 35 then ([2], [5]) else
  if y.op = 47 ∨ y.op = 48 then ([4], []) else
  if y.op = 49 then ([y.a], []) else
  ([], [])
section
variable {S : DSt} {k : Nat} {op : Int} {K : D → Prop}
theorem tEq {p : Int} (h : K (.bool (decide (op = p)))) : optW (binI .eql (.int .u8 op) (.int .u8 p)) K := by rw [biEq, oD, beqD]; exact h
theorem tOr (hl : loadSc S (.ptr k 0) = some (.int .u8 op)) {p q : Int} (h : K (.bool (decide (op = p ∨ op = q)))) : optW (binI .eql (.int .u8 op) (.int .u8 p)) fun v18 => optW (valGD (wantsD v18 false) (some (.ptr k 0))) fun v19 => optW (valGD (wantsD v18 false) (loadSc S v19)) fun v20 => optW (valGD (wantsD v18 false) (binI .eql v20 (.int .u8 q))) fun v21 => optW (pickD v18 (.bool true) v21) K := by
  by_cases c : op = p
  · rw [decide_eq_true (Or.inl c)] at h
    simp only [biEq, oD, beqD, decide_eq_true c, wdB, show (true == false) = false from rfl, vdF, pdB, if_true]
    exact h
  · have e : decide (op = p ∨ op = q) = decide (op = q) := by simp [c]
    rw [e] at h
    simp only [biEq, oD, beqD, decide_eq_false c, wdB, show (false == false) = true from rfl, vdT, pdB, Bool.false_eq_true, if_false, hl]
    exact h
theorem tIn (hl : loadSc S (.ptr k 0) = some (.int .u8 op)) {p q : Int} (h : K (.bool (decide (p ≤ op ∧ op ≤ q)))) : optW (binI .geq (.int .u8 op) (.int .u8 p)) fun v18 => optW (valGD (wantsD v18 true) (some (.ptr k 0))) fun v19 => optW (valGD (wantsD v18 true) (loadSc S v19)) fun v20 => optW (valGD (wantsD v18 true) (binI .leq v20 (.int .u8 q))) fun v21 => optW (pickD v18 v21 (.bool false)) K := by
  by_cases c : p ≤ op
  · have e : decide (p ≤ op ∧ op ≤ q) = decide (op ≤ q) := by simp [c]
    rw [e] at h
    simp only [biGe, biLe, oD, decide_eq_true (show op ≥ p from c), wdB, show (true == true) = true from rfl, vdT, pdB, if_true, hl]
    exact h
  · rw [decide_eq_false (fun e => c e.1)] at h
    simp only [biGe, oD, decide_eq_false (show ¬ op ≥ p from c), wdB, show (false == true) = false from rfl, vdF, pdB, Bool.false_eq_true, if_false]
    exact h
end
def plD (r : List Int × List Int) : D := .tup [iD r.1, iD r.2]
section
variable {E : Env} {w0 : World}
theorem ref12_plain_ok {y : In} (hy : y.Ok) : PureW Try.prog E w0 f_ref12_plain [inD y] (plD (plainS y)) := fun S => by
  refine V_ref12_plain_ok ?_
  unfold V_ref12_plain
  rw [inD, clA, oD]
  intro k a n
  have h0 : (S.set k ⟨(inC y).length, [inC y], a⟩) k = some ⟨4, [inC y], a⟩ := DSt.set_same _ _ _
  have hle : S.le (S.set k ⟨(inC y).length, [inC y], a⟩) := DSt.le_new n
  generalize S.set k ⟨(inC y).length, [inC y], a⟩ = S1 at h0 hle ⊢
  have ho := hy.op
  have l0 : loadSc S1 (.ptr k 0) = some (.int .u8 y.op) := by rw [ldP h0]; rfl
  have l1 : loadSc S1 (.ptr k 1) = some (.int .i64 y.a) := by rw [ldP h0]; rfl
  have l2 : loadSc S1 (.ptr k 2) = some (.int .i64 y.b) := by rw [ldP h0]; rfl
  have fin : ∀ (p q : List Int), (p, q) = plainS y → FinD E (fun d' S' => d' = plD (plainS y) ∧ S' = S) (.tup [iD p, iD q]) S1 := fun p q e => by
    rw [← e]
    exact FinD.less hle FinD.pure
  have finL : ∀ (q : List Int), ([], q) = plainS y → FinD E (fun d' S' => d' = plD (plainS y) ∧ S' = S) (.tup [.nilSlc, iD q]) S1 := fun q e => FinD.weak (Wk.tup (es := [iD [], iD q]) ⟨nil0, Wk.refl _, trivial⟩) (fin [] q e)
  have finR : ∀ (p : List Int), (p, []) = plainS y → FinD E (fun d' S' => d' = plD (plainS y) ∧ S' = S) (.tup [iD p, .nilSlc]) S1 := fun p e => FinD.weak (Wk.tup (es := [iD p, iD []]) ⟨Wk.refl _, nil0, trivial⟩) (fin p [] e)
  have finN : ([], []) = plainS y → FinD E (fun d' S' => d' = plD (plainS y) ∧ S' = S) (.tup [.nilSlc, .nilSlc]) S1 := fun e => FinD.weak (Wk.tup (es := [iD [], iD []]) ⟨nil0, nil0, trivial⟩) (fin [] [] e)
  simp only [ofP, Nat.zero_add]
  rw [oD, l1, oD]
  rw [oD, l0, oD]
  refine tIn l0 ?_
  rw [cdI]
  refine ⟨fun h1 => ?_, fun h1 => ?_⟩
  · rw [oD, l0, oD]
    refine ⟨trivial, ?_⟩
    rw [cvI, oD, wrap_i64 (by omega) (by omega)]
    exact li1 ⟨trivial, finL _ (by unfold plainS; rw [if_pos h1])⟩
  rw [oD, l0, oD]
  refine tOr l0 ?_
  rw [cdI]
  refine ⟨fun h4 => ?_, fun h4 => ?_⟩
  · exact li1 (finL _ (by unfold plainS; rw [if_neg h1, if_pos h4]))
  rw [oD, l0, oD]
  refine tEq ?_
  rw [cdI]
  refine ⟨fun h6 => ?_, fun h6 => ?_⟩
  · exact li1 (finL _ (by unfold plainS; rw [if_neg h1, if_neg h4, if_pos h6]))
  rw [oD, l0, oD]
  refine tEq ?_
  rw [cdI]
  refine ⟨fun h7 => ?_, fun h7 => ?_⟩
  · exact li1 (finL _ (by unfold plainS; rw [if_neg h1, if_neg h4, if_neg h6, if_pos h7]))
  rw [oD, l0, oD]
  refine tOr l0 ?_
  rw [cdI]
  refine ⟨fun h8 => ?_, fun h8 => ?_⟩
  · exact li1 (finR _ (by unfold plainS; rw [if_neg h1, if_neg h4, if_neg h6, if_neg h7, if_pos h8]))
  rw [oD, l0, oD]
  refine tEq ?_
  rw [cdI]
  refine ⟨fun h10 => ?_, fun h10 => ?_⟩
  · exact li1 (li2 (fin _ _ (by unfold plainS; rw [if_neg h1, if_neg h4, if_neg h6, if_neg h7, if_neg h8, if_pos h10])))
  rw [oD, l0, oD]
  refine tIn l0 ?_
  rw [cdI]
  refine ⟨fun h11 => ?_, fun h11 => ?_⟩
  · exact li2 (li1 (fin _ _ (by unfold plainS; rw [if_neg h1, if_neg h4, if_neg h6, if_neg h7, if_neg h8, if_neg h10, if_pos h11])))
  rw [oD, l0, oD]
  refine tOr l0 ?_
  rw [cdI]
  refine ⟨fun h21 => ?_, fun h21 => ?_⟩
  · exact li1 (li1 (fin _ _ (by unfold plainS; rw [if_neg h1, if_neg h4, if_neg h6, if_neg h7, if_neg h8, if_neg h10, if_neg h11, if_pos h21])))
  rw [oD, l0, oD]
  refine tIn l0 ?_
  rw [cdI]
  refine ⟨fun h23 => ?_, fun h23 => ?_⟩
  · exact li2 (li1 (fin _ _ (by unfold plainS; rw [if_neg h1, if_neg h4, if_neg h6, if_neg h7, if_neg h8, if_neg h10, if_neg h11, if_neg h21, if_pos h23])))
  rw [oD, l0, oD]
  refine tEq ?_
  rw [cdI]
  refine ⟨fun h29 => ?_, fun h29 => ?_⟩
  · have e : ([y.a], [y.b]) = plainS y := by unfold plainS; rw [if_neg h1, if_neg h4, if_neg h6, if_neg h7, if_neg h8, if_neg h10, if_neg h11, if_neg h21, if_neg h23, if_pos h29]
    refine ⟨by trivial, li1 ⟨trivial, ?_⟩, ?_, trivial⟩
    · simp only [ofP, oD, Nat.zero_add, l2, orAny]
      exact ⟨⟨⟨by simp, rfl⟩, trivial⟩, li1 ⟨trivial, fin _ _ e⟩⟩
    · simp only [ofP, oD, Nat.zero_add, l2]
      exact ⟨trivial, li1 ⟨trivial, li1 ⟨trivial, fin _ _ e⟩⟩⟩
  rw [oD, l0, oD]
  refine tEq ?_
  rw [cdI]
  refine ⟨fun h30 => ?_, fun h30 => ?_⟩
  · exact li1 (li1 (fin _ _ (by unfold plainS; rw [if_neg h1, if_neg h4, if_neg h6, if_neg h7, if_neg h8, if_neg h10, if_neg h11, if_neg h21, if_neg h23, if_neg h29, if_pos h30])))
  rw [oD, l0, oD]
  refine tEq ?_
  rw [cdI]
  refine ⟨fun h31 => ?_, fun h31 => ?_⟩
  · exact li2 (li1 (fin _ _ (by unfold plainS; rw [if_neg h1, if_neg h4, if_neg h6, if_neg h7, if_neg h8, if_neg h10, if_neg h11, if_neg h21, if_neg h23, if_neg h29, if_neg h30, if_pos h31])))
  rw [oD, l0, oD]
  refine tEq ?_
  rw [cdI]
  refine ⟨fun h32 => ?_, fun h32 => ?_⟩
  · exact li1 (li1 (fin _ _ (by unfold plainS; rw [if_neg h1, if_neg h4, if_neg h6, if_neg h7, if_neg h8, if_neg h10, if_neg h11, if_neg h21, if_neg h23, if_neg h29, if_neg h30, if_neg h31, if_pos h32])))
  rw [oD, l0, oD]
  refine tEq ?_
  rw [cdI]
  refine ⟨fun h33 => ?_, fun h33 => ?_⟩
  · exact li2 (li1 (fin _ _ (by unfold plainS; rw [if_neg h1, if_neg h4, if_neg h6, if_neg h7, if_neg h8, if_neg h10, if_neg h11, if_neg h21, if_neg h23, if_neg h29, if_neg h30, if_neg h31, if_neg h32, if_pos h33])))
  rw [oD, l0, oD]
  refine tEq ?_
  rw [cdI]
  refine ⟨fun h34 => ?_, fun h34 => ?_⟩
  · exact li3 (li1 (fin _ _ (by unfold plainS; rw [if_neg h1, if_neg h4, if_neg h6, if_neg h7, if_neg h8, if_neg h10, if_neg h11, if_neg h21, if_neg h23, if_neg h29, if_neg h30, if_neg h31, if_neg h32, if_neg h33, if_pos h34])))
  rw [oD, l0, oD]
  refine tEq ?_
  rw [cdI]
  refine ⟨fun h35 => ?_, fun h35 => ?_⟩
  · exact li1 (li1 (fin _ _ (by unfold plainS; rw [if_neg h1, if_neg h4, if_neg h6, if_neg h7, if_neg h8, if_neg h10, if_neg h11, if_neg h21, if_neg h23, if_neg h29, if_neg h30, if_neg h31, if_neg h32, if_neg h33, if_neg h34, if_pos h35])))
  rw [oD, l0, oD]
  refine tOr l0 ?_
  rw [cdI]
  refine ⟨fun h47 => ?_, fun h47 => ?_⟩
  · exact li1 (finR _ (by unfold plainS; rw [if_neg h1, if_neg h4, if_neg h6, if_neg h7, if_neg h8, if_neg h10, if_neg h11, if_neg h21, if_neg h23, if_neg h29, if_neg h30, if_neg h31, if_neg h32, if_neg h33, if_neg h34, if_neg h35, if_pos h47]))
  rw [oD, l0, oD]
  refine tEq ?_
  rw [cdI]
  refine ⟨fun h49 => ?_, fun h49 => ?_⟩
  · exact li1 (finR _ (by unfold plainS; rw [if_neg h1, if_neg h4, if_neg h6, if_neg h7, if_neg h8, if_neg h10, if_neg h11, if_neg h21, if_neg h23, if_neg h29, if_neg h30, if_neg h31, if_neg h32, if_neg h33, if_neg h34, if_neg h35, if_neg h47, if_pos h49]))
  exact finN (by unfold plainS; rw [if_neg h1, if_neg h4, if_neg h6, if_neg h7, if_neg h8, if_neg h10, if_neg h11, if_neg h21, if_neg h23, if_neg h29, if_neg h30, if_neg h31, if_neg h32, if_neg h33, if_neg h34, if_neg h35, if_neg h47, if_neg h49])
end
end Go.Proofs.Ytcboaonbfgjmgaa.d
end

section
open Go.Proofs Go Go.Am Go.Op
namespace Go.Proofs.Ytcboaonbfgjmgaa.d
set_option linter.unusedVariables false
set_option linter.unusedSimpArgs false
set_option maxRecDepth 100000
/-- What an instruction takes and puts, and the error. -/
def takesS (y : In) (m : Mo) : List Int × List Int × Int :=
  if isS y = false then ([], [], 120)
  else if (y.op = 6 ∧ m.texts.length ≤ y.a) ∨ (y.op = 50 ∧ m.funcs.length ≤ y.a) then ([], [], 2)
  else if y.op = 50 then match m.funcs[y.a.toNat]? with
    | some r => (r.params, r.results, 0)
    | none => ([], [], 2)
  else if 36 ≤ y.op ∧ y.op ≤ 45 then if (madeS y m).2.2 = true then ((madeS y m).1, (madeS y m).2.1, 0) else ([], [], 2)
  else ((plainS y).1, (plainS y).2, 0)
theorem isS_a {y : In} (h : isS y = true) (h50 : y.op = 50) : 0 ≤ y.a ∧ y.a ≤ 65535 := by
  have e : lay 50 = some [fIx] := by decide
  unfold isS at h
  rw [h50, e] at h
  simp [fldOk, Fld.may, fIx, In.num] at h
  omega
theorem isS_b {y : In} (h : isS y = true) (hb : y.op = 37 ∨ y.op = 38) : 0 ≤ y.b := by
  have e1 : lay 37 = some [fIx, fIx] := by decide
  have e2 : lay 38 = some [fIx, fIx] := by decide
  unfold isS at h
  rcases hb with hb | hb
  · rw [hb, e1] at h
    simp [fldOk, Fld.may, fIx, In.num] at h
    omega
  · rw [hb, e2] at h
    simp [fldOk, Fld.may, fIx, In.num] at h
    omega
def tk3 (r : List Int × List Int × Int) : D := .tup [iD r.1, iD r.2.1, .int .i64 r.2.2]
section
variable {E : Env} {w0 : World}
theorem ref12_own_pure {l : List Int} (hl : l.length < 2 ^ 40) : Pure Try.prog E w0 f_ref12_own [iD l] (iD l) := fun x S => by
  refine V_ref12_own_ok ?_
  unfold V_ref12_own
  refine (Grw.nil S 1).push (iD_rows _ _) (by simp; omega) fun t S1 g => ?_
  have g : Grw S t (iC l) 1 S1 := by simpa using g
  exact g.fin FinD.pure
theorem ref12_Takes_ok {y : In} {m : Mo} (hy : y.Ok) (hm : m.Fits) : PureW Try.prog E w0 f_ref12_Takes [inD y, moD m] (tk3 (takesS y m)) := fun S => by
  refine V_ref12_Takes_ok ?_
  unfold V_ref12_Takes
  rw [inD, clA, oD]
  intro k a n
  rw [moD, clA, oD]
  intro k2 a2 n2
  obtain ⟨ne2, n2'⟩ := DSt.fresh n2
  generalize hS3 : (S.set k _).set k2 _ = S3
  have h2 : S3 k2 = some ⟨3, [moC m], a2⟩ := by rw [← hS3]; exact DSt.set_same _ _ _
  have h0 : S3 k = some ⟨4, [inC y], a⟩ := by rw [← hS3, DSt.set_ne _ _ _ (Ne.symm ne2)]; exact DSt.set_same _ _ _
  have hle : S.le S3 := by rw [← hS3]; exact DSt.le_set (DSt.le_new n) n2'
  clear hS3 n2
  have li : loadAg S3 4 (.ptr k 0) = some (inD y) := by rw [laP h0 (by simp [inC])]; rfl
  have lm : loadAg S3 3 (.ptr k2 0) = some (moD m) := by rw [laP h2 (by simp [moC])]; rfl
  have l0 : loadSc S3 (.ptr k 0) = some (.int .u8 y.op) := by rw [ldP h0]; rfl
  have l1 : loadSc S3 (.ptr k 1) = some (.int .i64 y.a) := by rw [ldP h0]; rfl
  have m1 : loadSc S3 (.ptr k2 1) = some (txsD m.texts) := by rw [ldP h2]; rfl
  have m2 : loadSc S3 (.ptr k2 2) = some (rosD m.funcs) := by rw [ldP h2]; rfl
  have hok := hm.ok
  have fin : ∀ (p q : List Int) (e : Int), (p, q, e) = takesS y m → FinD E (fun d' S' => d' = tk3 (takesS y m) ∧ S' = S) (.tup [iD p, iD q, .int .i64 e]) S3 := fun p q e h => by
    rw [← h]
    exact FinD.less hle FinD.pure
  have finN : ∀ e : Int, ([], [], e) = takesS y m → FinD E (fun d' S' => d' = tk3 (takesS y m) ∧ S' = S) (.tup [.nilSlc, .nilSlc, .int .i64 e]) S3 := fun e h =>
    FinD.weak (Wk.tup (es := [iD [], iD [], .int .i64 e]) ⟨nil0, nil0, Wk.refl _, trivial⟩) (fin [] [] e h)
  rw [li, oD]
  refine (ref12_is_ok hy).use ?_
  rw [unN, oD]
  cases his : isS y with
  | false =>
    rw [Bool.not_false, cdT]
    exact finN 120 (by unfold takesS; rw [if_pos his])
  | true =>
  rw [Bool.not_true, cdF]
  simp only [ofP, Nat.zero_add]
  have key : ∀ {K : D → Prop}, K (.bool (decide ((y.op = 6 ∧ m.texts.length ≤ y.a) ∨ (y.op = 50 ∧ m.funcs.length ≤ y.a)))) → (optW (some (.ptr k 0)) fun v8 =>
  optW (loadSc S3 v8) fun v9 =>
  optW (binI .eql v9 (.int .u8 6)) fun v10 =>
  optW (valGD (wantsD v10 true) (some (.ptr k 1))) fun v11 =>
  optW (valGD (wantsD v10 true) (loadSc S3 v11)) fun v12 =>
  optW (valGD (wantsD v10 true) (some (.ptr k2 1))) fun v13 =>
  optW (valGD (wantsD v10 true) (loadSc S3 v13)) fun v14 =>
  optW (valGD (wantsD v10 true) (lenSl v14)) fun v15 =>
  optW (valGD (wantsD v10 true) (binI .geq v12 v15)) fun v16 =>
  optW (pickD v10 v16 (.bool false)) fun v17 =>
  optW (valGD (wantsD v17 false) (some (.ptr k 0))) fun v18 =>
  optW (valGD (wantsD v17 false) (loadSc S3 v18)) fun v19 =>
  optW (valGD (wantsD v17 false) (binI .eql v19 (.int .u8 50))) fun v20 =>
  optW (valGD (wantsD v17 false) (some v20)) fun v21 =>
  optW (valGD (wantsD v21 true) (some (.ptr k 1))) fun v22 =>
  optW (valGD (wantsD v21 true) (loadSc S3 v22)) fun v23 =>
  optW (valGD (wantsD v21 true) (some (.ptr k2 2))) fun v24 =>
  optW (valGD (wantsD v21 true) (loadSc S3 v24)) fun v25 =>
  optW (valGD (wantsD v21 true) (lenSl v25)) fun v26 =>
  optW (valGD (wantsD v21 true) (binI .geq v23 v26)) fun v27 =>
  optW (valGD (wantsD v17 false) (pickD v21 v27 (.bool false))) fun v28 =>
  optW (pickD v17 (.bool true) v28) K) := by
    intro K hK
    simp only [oD, l0, biEq, beqD]
    by_cases c6 : y.op = 6
    · have c50 : ¬ y.op = 50 := by omega
      simp only [decide_eq_true c6, wdB, t4, vdT, oD, l1, m1, txsD_len, biGe, pdB, if_true]
      by_cases d : (m.texts.length : Int) ≤ y.a
      · rw [decide_eq_true (Or.inl ⟨c6, d⟩)] at hK
        simp only [decide_eq_true (show y.a ≥ m.texts.length from d), wdB, t1, vdF, oD, wdU, pdB, if_true]
        exact hK
      · rw [decide_eq_false (fun e => e.elim (fun e => d e.2) (fun e => c50 e.1))] at hK
        simp only [decide_eq_false (show ¬ y.a ≥ m.texts.length from d), wdB, t2, vdT, oD, l0, biEq, beqD, decide_eq_false c50, t3, vdF, wdU, pdB, Bool.false_eq_true, if_false]
        exact hK
    · simp only [decide_eq_false c6, wdB, t3, t2, vdF, vdT, oD, pdB, Bool.false_eq_true, if_false, l0, biEq, beqD]
      by_cases c50 : y.op = 50
      · simp only [decide_eq_true c50, wdB, t4, vdT, oD, l1, m2, rosD_len, biGe, pdB, if_true]
        have e : decide ((y.op = 6 ∧ m.texts.length ≤ y.a) ∨ (y.op = 50 ∧ m.funcs.length ≤ y.a)) = decide (y.a ≥ m.funcs.length) := by
          rw [decide_eq_decide]
          exact ⟨fun h => h.elim (fun h => (c6 h.1).elim) fun h => h.2, fun h => .inr ⟨c50, h⟩⟩
        rw [e] at hK
        exact hK
      · rw [decide_eq_false (fun e => e.elim (fun e => c6 e.1) (fun e => c50 e.1))] at hK
        simp only [decide_eq_false c50, wdB, t3, vdF, oD, pdB, Bool.false_eq_true, if_false]
        exact hK
  refine key ?_
  have ns : ¬ isS y = false := by rw [his]; simp
  rw [cdI]
  refine ⟨fun hbad => finN 2 (by unfold takesS; rw [if_neg ns, if_pos hbad]), fun hbad => ?_⟩
  rw [oD, l0, oD]
  refine tEq ?_
  rw [cdI]
  refine ⟨fun h50 => ?_, fun h50 => ?_⟩
  · obtain ⟨ha1, ha2⟩ := isS_a his h50
    obtain ⟨i, hi⟩ : ∃ i : Nat, i = y.a.toNat := ⟨_, rfl⟩
    have hi' : y.a = (i : Int) := by omega
    have hlt : i < m.funcs.length := by
      have : ¬ (m.funcs.length : Int) ≤ y.a := fun h => hbad (.inr ⟨h50, h⟩)
      omega
    obtain ⟨r, hr⟩ : ∃ r, r = m.funcs[i] := ⟨_, rfl⟩
    have ea : m.funcs[i]? = some r := by rw [List.getElem?_eq_getElem hlt, hr]
    obtain ⟨p1, p2, _⟩ := hm.params r (by rw [hr]; exact List.getElem_mem _)
    simp only [oD, m2, l1, hi', rosD_at ea, ofE, lsE, Nat.zero_add, show (roR r)[1]? = some (iD r.params) from rfl]
    refine ⟨trivial, trivial, trivial, (ref12_own_pure (by omega)).useX ⟨trivial, ?_⟩⟩
    simp only [oD, orAny, m2, l1, hi', rosD_at ea, ofE, lsE, Nat.zero_add, show (roR r)[2]? = some (iD r.results) from rfl]
    refine ⟨⟨⟨by simp, rfl⟩, trivial⟩, ⟨⟨by simp, rfl⟩, trivial⟩, ⟨⟨by simp, trivial⟩, trivial⟩, (ref12_own_pure (by omega)).useX ⟨trivial, ?_⟩⟩
    refine fin _ _ _ ?_
    unfold takesS
    rw [if_neg ns, if_neg hbad, if_pos h50, ← hi, ea]
  rw [oD, l0, oD]
  refine tIn l0 ?_
  rw [cdI]
  refine ⟨fun h36 => ?_, fun h36 => ?_⟩
  · rw [li, oD, lm, oD]
    refine (ref12_made_ok hy hm (isS_b his)).use ?_
    simp only [tkD, exD, List.getElem?_cons_zero, List.getElem?_cons_succ, oD, unN]
    cases hr : (madeS y m).2.2 with
    | false =>
      rw [Bool.not_false, cdT]
      exact finN 2 (by unfold takesS; rw [if_neg ns, if_neg hbad, if_neg h50, if_pos h36, if_neg (by rw [hr]; simp)])
    | true =>
      rw [Bool.not_true, cdF]
      exact fin _ _ 0 (by unfold takesS; rw [if_neg ns, if_neg hbad, if_neg h50, if_pos h36, if_pos hr])
  · rw [li, oD]
    refine (ref12_plain_ok hy).use ?_
    simp only [plD, exD, List.getElem?_cons_zero, List.getElem?_cons_succ, oD]
    exact fin _ _ 0 (by unfold takesS; rw [if_neg ns, if_neg hbad, if_neg h50, if_neg h36])
end
end Go.Proofs.Ytcboaonbfgjmgaa.d
end
