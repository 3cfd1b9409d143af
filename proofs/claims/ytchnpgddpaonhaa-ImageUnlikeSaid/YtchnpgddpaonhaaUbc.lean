/-
  Texts Cp Cr Cs Ct Cu Cv, as far as they are used.
-/
import Derived.Test.YtchnpgddpaonhaaUba
import Derived.Test.YtchnpgddpaonhaaRows
import Derived.Test.YtchnpgddpaonhaaUau
import Derived.KernelRfl
import Derived.Test.YtchnpgddpaonhaaUbb
section
open Go.Proofs Go Go.Am Go.Op
namespace Go.Proofs.Ytchnpgddpaonhaa.d
set_option linter.unusedVariables false
set_option linter.unusedSimpArgs false
set_option maxRecDepth 100000
/-- The type of a number. -/
def tyOf (m : Mo) (n : Int) : Option Ty := if 16 ≤ n then m.types[(n - 16).toNat]? else none
def zeroTy : Ty := ⟨0, [], [], 0, 0⟩
/-- It, if it is of one of some kinds. -/
def typedS (m : Mo) (n : Int) (ks : List Int) : Ty × Bool := match tyOf m n with
  | some t => (t, ks.contains t.kind)
  | none => (zeroTy, false)
def typedD (m : Mo) (n : Int) (ks : List Int) : D := .tup [.agg (tyR (typedS m n ks).1), .bool (typedS m n ks).2]
theorem zero_wk (b : Bool) : Wk (.tup [.agg [.int .u8 0, .str [], .nilSlc, .int .i64 0, .int .i64 0], .bool b]) (.tup [.agg (tyR zeroTy), .bool b]) :=
  Wk.tup ⟨Wk.agg ⟨Wk.refl _, Wk.refl _, Wk.nil _, Wk.refl _, Wk.refl _, trivial⟩, Wk.refl _, trivial⟩
/-- Numbers in a list of one's own. -/
def Own (S0 : DSt) (d : D) (l : List Int) (S : DSt) : Prop :=
  (d = .nilSlc ∧ l = [] ∧ S = S0) ∨ ∃ k acs ex, S0 k = Option.none ∧ d = .raw k 0 l.length l.length ex 1 ∧ S = S0.set k ⟨1, iC l, acs⟩
theorem Own.le {S0 S : DSt} {d : D} {l : List Int} (h : Own S0 d l S) : S0.le S := by
  rcases h with ⟨_, _, rfl⟩ | ⟨k, acs, ex, h, _, rfl⟩
  · exact DSt.le_refl _
  · exact DSt.le_new h
theorem Own.nil (S : DSt) : Own S .nilSlc [] S := .inl ⟨rfl, rfl, rfl⟩
theorem Own.cells {S0 S : DSt} {d : D} {l : List Int} (h : Own S0 d l S) : cellsD d = some [d] := by rcases h with ⟨rfl, _⟩ | ⟨_, _, _, _, rfl, _⟩ <;> rfl
theorem Own.of_grw {S0 S : DSt} {t : D} {l : List Int} (h : Grw S0 t (iC l) 1 S) : Own S0 t l S := by
  rcases h with ⟨rfl, e, rfl⟩ | ⟨k, acs, h, rfl, rfl⟩
  · refine .inl ⟨rfl, ?_, rfl⟩
    cases l with
    | nil => rfl
    | cons a l => simp [iC, ones] at e
  · exact .inr ⟨k, acs, false, h, by simp, rfl⟩
theorem Own.base {S0 S1 S : DSt} {d : D} {l : List Int} (h : Own S1 d l S) (hle : S0.le S1) : ∃ S', S'.le S ∧ Own S0 d l S' := by
  rcases h with ⟨rfl, rfl, rfl⟩ | ⟨k, acs, ex, h, rfl, rfl⟩
  · exact ⟨S0, hle, .inl ⟨rfl, rfl, rfl⟩⟩
  · have hk : S0 k = Option.none := by
      cases e : S0 k with
      | none => rfl
      | some o => rw [hle _ _ e] at h; cases h
    refine ⟨S0.set k ⟨1, iC l, acs⟩, fun j o e => ?_, .inr ⟨k, acs, ex, hk, rfl, rfl⟩⟩
    unfold DSt.set at e ⊢
    split at e
    · rename_i hj; rw [if_pos hj]; exact e
    · rename_i hj; rw [if_neg hj]; exact hle _ _ e
theorem Own.upd {S0 S : DSt} {d : D} {l : List Int} {k : Nat} {o o' : DObj} (h : Own S0 d l S) (hk : S0 k = some o') : Own (S0.set k o) d l (S.set k o) := by
  rcases h with ⟨rfl, rfl, rfl⟩ | ⟨j, acs, ex, h, rfl, rfl⟩
  · exact .inl ⟨rfl, rfl, rfl⟩
  · have hne : j ≠ k := fun e => by rw [e, hk] at h; cases h
    refine .inr ⟨j, acs, ex, ?_, rfl, DSt.set_comm _ hne _ _⟩
    rw [DSt.set_ne _ _ _ hne]; exact h
/-- Two of them. -/
def Two (S0 : DSt) (c : D) (lc : List Int) (d : D) (ld : List Int) (S : DSt) : Prop := ∃ S1, Own S0 c lc S1 ∧ Own S1 d ld S
theorem Two.base {S0 S1 S : DSt} {c d : D} {lc ld : List Int} (h : Two S1 c lc d ld S) (hle : S0.le S1) : ∃ S', S'.le S ∧ Two S0 c lc d ld S' := by
  obtain ⟨S2, h1, h2⟩ := h
  obtain ⟨S2', l2, g1⟩ := h1.base hle
  obtain ⟨S', l3, g2⟩ := h2.base l2
  exact ⟨S', l3, S2', g1, g2⟩
theorem Two.upd {S0 S : DSt} {c d : D} {lc ld : List Int} {k : Nat} {o o' : DObj} (h : Two S0 c lc d ld S) (hk : S0 k = some o') : Two (S0.set k o) c lc d ld (S.set k o) := by
  obtain ⟨S2, h1, h2⟩ := h
  exact ⟨S2.set k o, h1.upd hk, h2.upd (h1.le _ _ hk)⟩
theorem Two.le {S0 S : DSt} {c d : D} {lc ld : List Int} (h : Two S0 c lc d ld S) : S0.le S := by
  obtain ⟨S2, h1, h2⟩ := h
  exact DSt.le_trans h1.le h2.le
theorem lit_own {S : DSt} {l : List Int} {K : D → DSt → Prop} (h : ∀ d S', Own S d l S' → K d S') : litD S 1 (some (iC l)) l.length K :=
  lit_raw fun k acs hk => h _ _ (.inr ⟨k, acs, true, hk, by simp, rfl⟩)
/-- An effect. -/
def efD (c d : D) (ok : Bool) : D := .agg [c, d, .bool ok]
section
variable {E : Env} {w0 : World}
theorem ops_of_ok {d : D} (hd : cellsD d = some [d]) : Pure Try.prog E w0 f_ops_of [d] (efD d .nilSlc true) := fun x S => by
  refine V_ops_of_ok ?_
  unfold V_ops_of
  intro k a n
  have h : aggD (fillD [.nilSlc, .nilSlc, (.bool false)] [(0, 1, d), (2, 1, (.bool true))]) = some (efD d .nilSlc true) := by
    simp [fillD, hd, efD, setManyD, aggD]
  rw [h, oD]
  refine stP (ds := [d, .nilSlc, .bool true]) (DSt.set_same _ _ _) (clA _) ⟨rfl, by decide, by simp⟩ fun a2 => ?_
  rw [DSt.set_set, laP (DSt.set_same _ _ _) (by simp [setManyD]), oD]
  exact FinD.less (DSt.le_new n) FinD.pure
theorem ops_gives_ok {a b c d : D} (hd : cellsD d = some [d]) : Pure Try.prog E w0 f_ops_effect_gives [.agg [a, b, c], d] (.agg [a, d, c]) := fun x S => by
  refine V_ops_effect_gives_ok ?_
  unfold V_ops_effect_gives
  rw [clA, oD]
  intro k a1 n
  intro k2 a2 n2
  obtain ⟨ne, n2'⟩ := DSt.fresh n2
  rw [ofP, oD]
  refine stP (ds := [d]) (by rw [DSt.set_ne _ _ _ (Ne.symm ne)]; exact DSt.set_same _ _ _) hd ⟨rfl, by decide, by simp⟩ fun a3 => ?_
  rw [laP (DSt.set_same _ _ _) (by simp [setManyD]), oD]
  refine stP (ds := [a, d, c]) (by rw [DSt.set_ne _ _ _ ne]; exact DSt.set_same _ _ _) (clA _) ⟨rfl, by decide, by simp⟩ fun a4 => ?_
  rw [laP (DSt.set_same _ _ _) (by simp [setManyD]), oD]
  refine FinD.less (DSt.le_set (DSt.le_set (DSt.le_set (DSt.le_new n) n2') n) n2') ?_
  exact FinD.pure
theorem ops_given_ok {a b c d : D} (hd : cellsD d = some [d]) : Pure Try.prog E w0 f_ops_effect_given [.agg [a, b, c], d] (.agg [a, b, d]) := fun x S => by
  refine V_ops_effect_given_ok ?_
  unfold V_ops_effect_given
  rw [clA, oD]
  intro k a1 n
  intro k2 a2 n2
  obtain ⟨ne, n2'⟩ := DSt.fresh n2
  rw [ofP, oD]
  refine stP (ds := [d]) (by rw [DSt.set_ne _ _ _ (Ne.symm ne)]; exact DSt.set_same _ _ _) hd ⟨rfl, by decide, by simp⟩ fun a3 => ?_
  rw [laP (DSt.set_same _ _ _) (by simp [setManyD]), oD]
  refine stP (ds := [a, b, d]) (by rw [DSt.set_ne _ _ _ ne]; exact DSt.set_same _ _ _) (clA _) ⟨rfl, by decide, by simp⟩ fun a4 => ?_
  rw [laP (DSt.set_same _ _ _) (by simp [setManyD]), oD]
  refine FinD.less (DSt.le_set (DSt.le_set (DSt.le_set (DSt.le_new n) n2') n) n2') ?_
  exact FinD.pure
theorem index_ok {l : List Int} {v : Int} (hl : l.length < 2 ^ 60) : Pure Try.prog E w0 f_slices_Contains_uint8 [bD l, .int .u8 v] (.bool (l.contains v)) := fun x S => by
  refine V_slices_Contains_uint8_ok ?_
  unfold V_slices_Contains_uint8
  have key : DFn Try.prog E w0 x f_slices_Index_uint8 [bD l, .int .u8 v] S fun d S' => S' = S ∧ ∃ n : Int, d = .int .i64 n ∧ decide (n ≥ 0) = l.contains v := by
    refine V_slices_Index_uint8_ok ?_
    unfold V_slices_Index_uint8
    rw [bD_len, oD]
    refine loop_slices_Index_uint8_0 (I := fun n x0 x1 x7 x8 S' => S = S' ∧ x0 = bD l ∧ x1 = .int .u8 v ∧ x7 = .int .i64 (l.length : Int) ∧ ∃ i : Nat, x8 = .int .i64 (i : Int) ∧ i + n = l.length ∧ v ∉ l.take i) ?_ (n := l.length) ⟨rfl, rfl, rfl, rfl, 0, rfl, by omega, by simp⟩
    rintro n _ _ _ _ _ ⟨rfl, rfl, rfl, rfl, i, rfl, hi, hn⟩
    unfold B_slices_Index_uint8_0
    rw [biLt, oD, cdI]
    refine ⟨fun hlt => ?_, fun hge => ?_⟩
    · have hlt : i < l.length := by omega
      have ea : l[i]? = some l[i] := List.getElem?_eq_getElem hlt
      rw [bD_at ea, oD, lsE, List.getElem?_cons_zero, oD, biEq, oD, beqD, cdI]
      refine ⟨fun e => FinD.here ⟨rfl, i, rfl, ?_⟩, fun e => ?_⟩
      · rw [decide_eq_true (by omega)]
        symm
        rw [List.contains_iff_mem, e]
        exact List.getElem_mem _
      · rw [biAdd, oD, wrap_i64 (by omega) (by omega)]
        refine ⟨n - 1, by omega, rfl, rfl, rfl, rfl, i + 1, rfl, by omega, ?_⟩
        rw [List.take_add_one, ea, Option.toList_some, List.mem_append, List.mem_singleton]
        exact fun h => h.elim hn e
    · rw [List.take_of_length_le (by omega)] at hn
      refine FinD.here ⟨rfl, -1, rfl, ?_⟩
      rw [decide_eq_false (by omega)]
      symm
      rw [← Bool.not_eq_true, List.contains_iff_mem]
      exact hn
  refine key.use ?_
  rintro d S' ⟨rfl, n, rfl, h⟩
  rw [biGe, oD, h]
  exact FinD.pure
theorem tyOf_some {m : Mo} {n : Int} {t : Ty} (h : tyOf m n = some t) : 16 ≤ n ∧ m.types[(n - 16).toNat]? = some t ∧ (n - 16).toNat < m.types.length := by
  unfold tyOf at h
  split at h
  · rename_i h16
    exact ⟨h16, h, (List.getElem?_eq_some_iff.1 h).1⟩
  · cases h
theorem ops_typed_ok {m : Mo} (hm : m.Ok) {n : Int} (hn : I64 n) {ks : List Int} (hk : ks.length < 2 ^ 60) : Pure Try.prog E w0 f_ops_typed [moD m, .int .i64 n, bD ks] (typedD m n ks) := fun x S => by
  obtain ⟨hn1, hn2⟩ := hn
  refine V_ops_typed_ok ?_
  unfold V_ops_typed
  rw [moD, clA, oD]
  intro k a n1
  intro k2 a2 n2
  obtain ⟨ne2, n2'⟩ := DSt.fresh n2
  generalize hS3 : (S.set k _).set k2 _ = S3
  have h2 : S3 k2 = some ⟨5, [[.int .u8 0, .str [], .nilSlc, .int .i64 0, .int .i64 0]], a2⟩ := by rw [← hS3]; exact DSt.set_same _ _ _
  have h0 : S3 k = some ⟨3, [moC m], a⟩ := by rw [← hS3, DSt.set_ne _ _ _ (Ne.symm ne2)]; exact DSt.set_same _ _ _
  have hle : S.le S3 := by rw [← hS3]; exact DSt.le_set (DSt.le_new n1) n2'
  obtain ⟨xa0, xa1, xa2⟩ := moC_at m
  have := hm.types
  have bad : tyOf m n = none → FinD E (fun d' S' => d' = typedD m n ks ∧ S' = S) (.tup [.agg [.int .u8 0, .str [], .nilSlc, .int .i64 0, .int .i64 0], .bool false]) S3 := fun h => by
    refine FinD.less hle (FinD.weak (zero_wk false) (FinD.here ⟨?_, rfl⟩))
    simp only [typedD, typedS, h]
  have bad' : tyOf m n = none → optW (aggD (fillD [(.int .u8 0), (.str []), .nilSlc, (.int .i64 0), (.int .i64 0)] [])) fun v12 => storeD S3 5 (.ptr k2 0) v12 fun v13 S14 => optW (loadAg S14 5 (.ptr k2 0)) fun v15 => FinD E (fun d' S' => d' = typedD m n ks ∧ S' = S) (.tup [v15, (.bool false)]) S14 := fun h => by
    rw [fiN, agS, oD]
    refine stP (ds := [.int .u8 0, .str [], .nilSlc, .int .i64 0, .int .i64 0]) h2 (clA _) ⟨rfl, by decide, by simp⟩ fun a5 => ?_
    rw [laP (DSt.set_same _ _ _) (by simp [setManyD]), oD]
    refine FinD.less (S' := S) ?_ (FinD.weak (zero_wk false) (FinD.here ⟨?_, rfl⟩))
    · exact DSt.le_set hle n2'
    · simp only [typedD, typedS, h]
  rw [biLt, oD]
  by_cases c1 : n < 16
  · rw [decide_eq_true c1]
    simp only [wdB, t1, vdF, oD, pdB, if_true, cdT]
    exact bad' (by unfold tyOf; rw [if_neg (by omega)])
  rw [decide_eq_false c1]
  simp only [wdB, t2, vdT, oD, biSub, ofP, Nat.zero_add, ldP h0, xa0, tysD_len, biGe, pdB, Bool.false_eq_true, if_false]
  rw [wrap_i64 (by omega) (by omega), cdI]
  refine ⟨fun h => bad' ?_, fun h => ?_⟩
  · unfold tyOf
    rw [if_pos (by omega), List.getElem?_eq_none (by omega)]
  obtain ⟨i, hi⟩ : ∃ i : Nat, i = (n - 16).toNat := ⟨_, rfl⟩
  have hi' : n - 16 = (i : Int) := by omega
  have hlt : i < m.types.length := by omega
  obtain ⟨t, ht⟩ : ∃ t, t = m.types[i] := ⟨_, rfl⟩
  have ea : m.types[i]? = some t := by rw [List.getElem?_eq_getElem hlt, ht]
  have e : tyOf m n = some t := by unfold tyOf; rw [if_pos (by omega), ← hi]; exact ea
  rw [hi', tysD_at ea, oD, laTy, oD]
  intro k5 a5 n5
  refine stP (ds := tyR t) (DSt.set_same _ _ _) (clA _) ⟨rfl, by decide, by simp [tyR]⟩ fun a6 => ?_
  rw [DSt.set_set, show setManyD [D.int .u8 0, .str [], .nilSlc, .int .i64 0, .int .i64 0] 0 (tyR t) = tyR t from rfl]
  have ne5 : k2 ≠ k5 := fun e => by rw [← e, h2] at n5; cases n5
  rw [laP (DSt.set_same _ _ _) (by simp [tyR]), oD]
  refine ⟨by trivial, ?_⟩
  rw [ofP, oD, ldP (DSt.set_same _ _ _), show (tyR t)[0 + 0]? = some (.int .u8 t.kind) from rfl, oD]
  refine ⟨by trivial, (index_ok hk).useX ⟨⟨rfl, trivial⟩, ?_⟩⟩
  refine stP (ds := tyR t) (by rw [DSt.set_ne _ _ _ ne5]; exact h2) (clA _) ⟨rfl, by decide, by simp [tyR]⟩ fun a7 => ⟨by trivial, ?_⟩
  rw [laP (DSt.set_same _ _ _) (by simp [setManyD, tyR]), oD]
  have e2 : typedD m n ks = .tup [.agg (tyR t), .bool (ks.contains t.kind)] := by simp only [typedD, typedS, e]
  refine FinD.less (S' := S) (DSt.le_set ?_ n2') ?_
  · have z5 : S k5 = none := by
      cases e : S k5 with
      | none => rfl
      | some o => rw [hle _ _ e] at n5; cases n5
    exact DSt.le_set hle z5
  · rw [e2]
    exact FinD.pure
end
end Go.Proofs.Ytchnpgddpaonhaa.d
end

section
open Go.Proofs Go Go.Am Go.Op
namespace Go.Proofs.Ytchnpgddpaonhaa.d
set_option linter.unusedVariables false
set_option linter.unusedSimpArgs false
set_option maxRecDepth 100000
/-- What is taken and put by what works on records and arrays; whether the module has what it names. -/
def madeS (y : In) (m : Mo) : List Int × List Int × Bool :=
  if y.op = 36 ∨ y.op = 37 ∨ y.op = 38 then
    let t := typedS m y.a [6]
    if y.op = 36 then (t.1.fields.map (·.2), [y.a], t.2)
    else match (if t.2 then t.1.fields[y.b.toNat]? else none) with
      | some f => if y.op = 37 then ([y.a], [f.2], true) else ([y.a, f.2], [], true)
      | none => ([], [], false)
  else if y.op = 39 then ([(typedS m y.a [7]).1.elem], [y.a], (typedS m y.a [7]).2)
  else if y.op = 40 then ([], [y.a], (typedS m y.a [8]).2)
  else if y.op = 44 then ([y.a, (typedS m y.a [8]).1.elem], [], (typedS m y.a [8]).2)
  else if y.op = 45 then ([y.a], [(typedS m y.a [8]).1.elem], (typedS m y.a [8]).2)
  else if y.op = 41 then ([y.a, 3], [(typedS m y.a [7, 8]).1.elem], (typedS m y.a [7, 8]).2)
  else if y.op = 42 then ([y.a, 3, (typedS m y.a [7, 8]).1.elem], [], (typedS m y.a [7, 8]).2)
  else ([y.a], [3], (typedS m y.a [7, 8]).2)
theorem tyBox {S : DSt} {t : Ty} {K : D → DSt → Prop} (h : ∀ k a, S k = none → K (.ptr k 0) (S.set k ⟨5, [tyR t], a⟩)) : allocD S [(.int .u8 0), (.str []), .nilSlc, (.int .i64 0), (.int .i64 0)] fun v S1 => storeD S1 5 v (.agg (tyR t)) fun _ S2 => K v S2 := by
  intro k a n
  refine stP (ds := tyR t) (DSt.set_same _ _ _) (clA _) ⟨rfl, by decide, by simp [tyR]⟩ fun a2 => ?_
  rw [DSt.set_set]
  exact h k a2 n
theorem li1 {S : DSt} {a : Int} {K : D → DSt → Prop} (h : K (iD [a]) S) : litD S 1 (fillR 1 (List.replicate 1 [(.int .i64 0)]) [(0, .int .i64 a)]) 1 K := lit_lst (rows := iC [a]) rfl h
theorem inC_at (y : In) : (inC y)[0]? = some (.int .u8 y.op) ∧ (inC y)[1]? = some (.int .i64 y.a) ∧ (inC y)[2]? = some (.int .i64 y.b) ∧ (inC y)[3]? = some (armD y.arms) := ⟨rfl, rfl, rfl, rfl⟩
section
variable {E : Env} {w0 : World}
end
end Go.Proofs.Ytchnpgddpaonhaa.d
end

section
open Go.Proofs Go Go.Am Go.Op
namespace Go.Proofs.Ytchnpgddpaonhaa.d
set_option linter.unusedVariables false
set_option linter.unusedSimpArgs false
set_option maxRecDepth 100000
/-- What is taken and put by what hangs on itself alone. -/
def plainS (y : In) : List Int × List Int :=
  if 1 ≤ y.op ∧ y.op ≤ 3 then ([], [y.op]) else
  if y.op = 4 ∨ y.op = 5 then ([], [4]) else
  if y.op = 6 then ([], [5]) else
  if y.op = 7 then ([], [0]) else
  if y.op = 8 ∨ y.op = 9 then ([0], []) else
  if y.op = 10 then ([0], [0, 0]) else
  if 11 ≤ y.op ∧ y.op ≤ 20 then ([y.a, y.a], [y.a]) else
  if y.op = 21 ∨ y.op = 22 then ([y.a], [y.a]) else
  if 23 ≤ y.op ∧ y.op ≤ 28 then ([y.a, y.a], [4]) else
  if y.op = 29 then ([y.a], [y.b]) else
  if y.op = 30 then ([4], [4]) else
  if y.op = 31 then ([5, 5], [5]) else
  if y.op = 32 then ([5], [3]) else
  if y.op = 33 then ([5, 3], [2]) else
  if y.op = 34 then ([5, 3, 3], [5]) else
  if y.op = 35 then ([2], [5]) else
  if y.op = 47 ∨ y.op = 48 then ([4], []) else
  if y.op = 49 then ([y.a], []) else
  ([], [])
section
variable {S : DSt} {k : Nat} {op : Int} {K : D → Prop}
theorem tEq {p : Int} (h : K (.bool (decide (op = p)))) : optW (binI .eql (.int .u8 op) (.int .u8 p)) K := by rw [biEq, oD, beqD]; exact h
theorem tIn (hl : loadSc S (.ptr k 0) = some (.int .u8 op)) {p q : Int} (h : K (.bool (decide (p ≤ op ∧ op ≤ q)))) : optW (binI .geq (.int .u8 op) (.int .u8 p)) fun v18 => optW (valGD (wantsD v18 true) (some (.ptr k 0))) fun v19 => optW (valGD (wantsD v18 true) (loadSc S v19)) fun v20 => optW (valGD (wantsD v18 true) (binI .leq v20 (.int .u8 q))) fun v21 => optW (pickD v18 v21 (.bool false)) K := by
  by_cases c : p ≤ op
  · have e : decide (p ≤ op ∧ op ≤ q) = decide (op ≤ q) := by simp [c]
    rw [e] at h
    simp only [biGe, biLe, oD, decide_eq_true (show op ≥ p from c), wdB, show (true == true) = true from rfl, vdT, pdB, if_true, hl]
    exact h
  · rw [decide_eq_false (fun e => c e.1)] at h
    simp only [biGe, oD, decide_eq_false (show ¬ op ≥ p from c), wdB, show (false == true) = false from rfl, vdF, pdB, Bool.false_eq_true, if_false]
    exact h
end
section
variable {E : Env} {w0 : World}
end
end Go.Proofs.Ytchnpgddpaonhaa.d
end

section
open Go.Proofs Go Go.Am Go.Op
namespace Go.Proofs.Ytchnpgddpaonhaa.d
set_option linter.unusedVariables false
set_option linter.unusedSimpArgs false
set_option maxRecDepth 100000
/-- What an instruction takes and puts, and the error. -/
def takesS (y : In) (m : Mo) : List Int × List Int × Int :=
  if isS y = false then ([], [], 120)
  else if (y.op = 6 ∧ m.texts.length ≤ y.a) ∨ (y.op = 50 ∧ m.funcs.length ≤ y.a) then ([], [], 2)
  else if y.op = 50 then match m.funcs[y.a.toNat]? with
    | some r => (r.params, r.results, 0)
    | none => ([], [], 2)
  else if 36 ≤ y.op ∧ y.op ≤ 45 then if (madeS y m).2.2 = true then ((madeS y m).1, (madeS y m).2.1, 0) else ([], [], 2)
  else ((plainS y).1, (plainS y).2, 0)
theorem isS_a {y : In} (h : isS y = true) (h50 : y.op = 50) : 0 ≤ y.a ∧ y.a ≤ 65535 := by
  have e : lay 50 = some [fIx] := by decide
  unfold isS at h
  rw [h50, e] at h
  simp [fldOk, Fld.may, fIx, In.num] at h
  omega
theorem isS_b {y : In} (h : isS y = true) (hb : y.op = 37 ∨ y.op = 38) : 0 ≤ y.b := by
  have e1 : lay 37 = some [fIx, fIx] := by decide
  have e2 : lay 38 = some [fIx, fIx] := by decide
  unfold isS at h
  rcases hb with hb | hb
  · rw [hb, e1] at h
    simp [fldOk, Fld.may, fIx, In.num] at h
    omega
  · rw [hb, e2] at h
    simp [fldOk, Fld.may, fIx, In.num] at h
    omega
section
variable {E : Env} {w0 : World}
end
end Go.Proofs.Ytchnpgddpaonhaa.d
end

section
open Go.Proofs Go Go.Am Go.Op
namespace Go.Proofs.Ytchnpgddpaonhaa.d
set_option linter.unusedVariables false
set_option linter.unusedSimpArgs false
set_option maxRecDepth 100000
theorem Own.swap {S0 S1 S : DSt} {t u : D} {r q : List Int} (h : Own S0 t r S1) (h' : Own S1 u q S) : ∃ S2, Own S0 u q S2 ∧ Own S2 t r S := by
  rcases h with ⟨rfl, rfl, rfl⟩ | ⟨k, acs, ex, hk, rfl, rfl⟩
  · exact ⟨S, h', .inl ⟨rfl, rfl, rfl⟩⟩
  · rcases h' with ⟨rfl, rfl, rfl⟩ | ⟨l, bcs, ex', hl, rfl, rfl⟩
    · exact ⟨S0, .inl ⟨rfl, rfl, rfl⟩, .inr ⟨k, acs, ex, hk, rfl, rfl⟩⟩
    · obtain ⟨hne, hl0⟩ := DSt.fresh hl
      refine ⟨S0.set l ⟨1, iC q, bcs⟩, .inr ⟨l, bcs, ex', hl0, rfl, rfl⟩, .inr ⟨k, acs, ex, ?_, rfl, ?_⟩⟩
      · rw [DSt.set_ne _ _ _ (Ne.symm hne)]; exact hk
      · exact DSt.set_comm _ (Ne.symm hne) _ _
/-- An effect whose lists are one's own. -/
def EfQ (S : DSt) (r : List Int × List Int × Bool) (v : D) (S' : DSt) : Prop := ∃ c d, v = efD c d r.2.2 ∧ Two S c r.1 d r.2.1 S'
section
variable {E : Env} {w0 : World} {S S3 : DSt} {k2 : Nat} {cs : List D} {a2 : List AV}
/-- What an effect's function ends with. -/
theorem endEf (hle : S.le S3) (hn : S k2 = none) (h2 : S3 k2 = some ⟨3, [cs], a2⟩) (hcs : cs.length = 3) {r : List Int × List Int × Bool} {c d : D} {S' : DSt} (g : Two S3 c r.1 d r.2.1 S') :
    storeD S' 3 (.ptr k2 0) (efD c d r.2.2) fun _ S8 => optW (loadAg S8 3 (.ptr k2 0)) fun z => FinD E (EfQ S r) z S8 := by
  refine stP (ds := [c, d, .bool r.2.2]) (g.le _ _ h2) (clA _) ⟨rfl, by decide, by omega⟩ fun a3 => ?_
  have e : setManyD cs 0 [c, d, .bool r.2.2] = [c, d, .bool r.2.2] := by
    rcases cs with _ | ⟨x, _ | ⟨y, _ | ⟨z, _ | ⟨w, cs⟩⟩⟩⟩ <;> simp at hcs
    rfl
  rw [e, laP (DSt.set_same _ _ _) (by simp), oD]
  have g' := g.upd (o := ⟨3, [[c, d, .bool r.2.2]], a3⟩) h2
  obtain ⟨S'', l, g''⟩ := g'.base (DSt.le_set hle hn)
  exact FinD.less l (FinD.here ⟨c, d, rfl, g''⟩)
theorem endEf' (hle : S.le S3) (hn : S k2 = none) (h2 : S3 k2 = some ⟨3, [[.nilSlc, .nilSlc, .bool false]], a2⟩) {r : List Int × List Int × Bool} {c d : D} {S' : DSt} (g : Two S3 c r.1 d r.2.1 S') :
    storeD S' 3 (.ptr k2 0) (efD c d r.2.2) fun _ S8 => True ∧ optW (loadAg S8 3 (.ptr k2 0)) fun z => FinD E (EfQ S r) z S8 := by
  have h := endEf (E := E) hle hn h2 rfl g
  simp only [true_and]
  exact h
variable (hle : S.le S3) (hn : S k2 = none) (h2 : S3 k2 = some ⟨3, [cs], a2⟩) (hcs : cs.length = 3) {x : Bool}
include hle hn h2 hcs
theorem efLL {r : List Int × List Int × Bool} (hr : r.2.2 = true) : litD S3 1 (some (iC r.1)) r.1.length fun v S4 => DFn Try.prog E w0 x f_ops_of [v] S4 fun w S5 => litD S5 1 (some (iC r.2.1)) r.2.1.length fun v' S6 => DFn Try.prog E w0 x f_ops_effect_gives [w, v'] S6 fun u S7 =>
    storeD S7 3 (.ptr k2 0) u fun _ S8 => optW (loadAg S8 3 (.ptr k2 0)) fun z => FinD E (EfQ S r) z S8 := by
  refine lit_own fun v S4 g1 => (ops_of_ok g1.cells).use (lit_own fun v' S6 g2 => ?_)
  refine (ops_gives_ok (a := v) (b := .nilSlc) (c := .bool true) g2.cells).use ?_
  rw [← hr]
  exact endEf hle hn h2 hcs ⟨S4, g1, g2⟩
theorem efNL {r : List Int × List Int × Bool} (hr : r.2.2 = true) (h1 : r.1 = []) : DFn Try.prog E w0 x f_ops_of [.nilSlc] S3 fun w S5 => litD S5 1 (some (iC r.2.1)) r.2.1.length fun v' S6 => DFn Try.prog E w0 x f_ops_effect_gives [w, v'] S6 fun u S7 =>
    storeD S7 3 (.ptr k2 0) u fun _ S8 => optW (loadAg S8 3 (.ptr k2 0)) fun z => FinD E (EfQ S r) z S8 := by
  refine (ops_of_ok clN).use (lit_own fun v' S6 g2 => ?_)
  refine (ops_gives_ok (a := .nilSlc) (b := .nilSlc) (c := .bool true) g2.cells).use ?_
  rw [← hr]
  exact endEf hle hn h2 hcs ⟨S3, by rw [h1]; exact Own.nil _, g2⟩
theorem efLN {r : List Int × List Int × Bool} (hr : r.2.2 = true) (h1 : r.2.1 = []) : litD S3 1 (some (iC r.1)) r.1.length fun v S4 => DFn Try.prog E w0 x f_ops_of [v] S4 fun u S7 =>
    storeD S7 3 (.ptr k2 0) u fun _ S8 => optW (loadAg S8 3 (.ptr k2 0)) fun z => FinD E (EfQ S r) z S8 := by
  refine lit_own fun v S4 g1 => (ops_of_ok g1.cells).use ?_
  rw [← hr]
  exact endEf hle hn h2 hcs ⟨S4, g1, by rw [h1]; exact Own.nil _⟩
theorem efNN {r : List Int × List Int × Bool} (hr : r.2.2 = true) (h1 : r.1 = []) (h3 : r.2.1 = []) : DFn Try.prog E w0 x f_ops_of [.nilSlc] S3 fun u S7 =>
    storeD S7 3 (.ptr k2 0) u fun _ S8 => optW (loadAg S8 3 (.ptr k2 0)) fun z => FinD E (EfQ S r) z S8 := by
  refine (ops_of_ok clN).use ?_
  rw [← hr]
  exact endEf hle hn h2 hcs ⟨S3, by rw [h1]; exact Own.nil _, by rw [h3]; exact Own.nil _⟩
end
theorem orC {op p : Int} {R : Prop} [Decidable R] {C : D → Prop} {T : Prop} (h : C (.bool (decide (op = p ∨ R)))) (hT : C (.bool (decide R)) → T) : optW (binI .eql (.int .u8 op) (.int .u8 p)) fun v => condD v (C v) T := by
  rw [biEq, oD, beqD]
  by_cases c : op = p
  · rw [decide_eq_true (Or.inl c)] at h
    rw [decide_eq_true c, cdT]
    exact h
  · have e : decide (op = p ∨ R) = decide R := by simp [c]
    rw [e] at h
    rw [decide_eq_false c, cdF]
    exact hT h
section
variable {E : Env} {w0 : World} {S S3 : DSt} {k k2 : Nat} {a a2 : List AV} {y : In}
variable (hle : S.le S3) (hn : S k2 = none) (h0 : S3 k = some ⟨4, [inC y], a⟩) (h2 : S3 k2 = some ⟨3, [[.nilSlc, .nilSlc, .bool false]], a2⟩)
include hle hn h2
theorem plain_197 (h : ¬ (y.op = 46 ∨ y.op = 51 ∨ y.op = 52) → 11 ≤ y.op ∧ y.op ≤ 20) : C_ops_plain_197 E w0 false (FinD E (EfQ S ((plainS y).1, (plainS y).2, true))) (.ptr k2 0) (.int .i64 y.a) (.bool (decide (y.op = 46 ∨ y.op = 51 ∨ y.op = 52))) S3 := by
  refine C_ops_plain_197_ok ?_
  unfold P_ops_plain_197
  rw [cdI]
  refine ⟨fun h1 => ?_, fun h1 => ?_⟩
  · have e : plainS y = ([], []) := by
      unfold plainS
      repeat rw [if_neg (by omega)]
      try rw [if_pos (by omega)]
    rw [e]
    exact efNN hle hn h2 rfl rfl rfl rfl
  · have h := h h1
    have e : plainS y = ([y.a, y.a], [y.a]) := by
      unfold plainS
      repeat rw [if_neg (by omega)]
      try rw [if_pos (by omega)]
    rw [e]
    exact efLL (r := ([y.a, y.a], [y.a], true)) hle hn h2 rfl rfl
theorem plain_173 (hv : y.op = 47 ∨ y.op = 48 ∨ y.op = 49 ∨ y.op = 46 ∨ y.op = 51 ∨ y.op = 52 ∨ (11 ≤ y.op ∧ y.op ≤ 20)) : C_ops_plain_173 E w0 false (FinD E (EfQ S ((plainS y).1, (plainS y).2, true))) (.ptr k2 0) (.int .i64 y.a) (.int .u8 y.op) (.bool (decide (y.op = 47 ∨ y.op = 48))) S3 := by
  refine C_ops_plain_173_ok ?_
  unfold P_ops_plain_173
  rw [cdI]
  refine ⟨fun hf => ?_, fun hf => ?_⟩
  · have e : plainS y = ([4], []) := by
      unfold plainS
      repeat rw [if_neg (by omega)]
      try rw [if_pos (by omega)]
    rw [e]
    exact efLN (r := ([4], [], true)) hle hn h2 rfl rfl rfl
  refine tEq ?_
  rw [cdI]
  refine ⟨fun h49 => ?_, fun h49 => ?_⟩
  · have e : plainS y = ([y.a], []) := by
      unfold plainS
      repeat rw [if_neg (by omega)]
      try rw [if_pos (by omega)]
    rw [e]
    exact efLN (r := ([y.a], [], true)) hle hn h2 rfl rfl rfl
  exact orC (C := fun b => C_ops_plain_197 E w0 false _ _ _ b S3) (plain_197 hle hn h2 fun h => by omega) fun h => orC h fun h => tEq h
include h0
theorem plain_105 (hv : (23 ≤ y.op ∧ y.op ≤ 35) ∨ y.op = 47 ∨ y.op = 48 ∨ y.op = 49 ∨ y.op = 46 ∨ y.op = 51 ∨ y.op = 52 ∨ (11 ≤ y.op ∧ y.op ≤ 20)) : C_ops_plain_105 E w0 false (FinD E (EfQ S ((plainS y).1, (plainS y).2, true))) (.ptr k 0) (.ptr k2 0) (.int .i64 y.a) (.int .u8 y.op) (.bool (decide (y.op = 23 ∨ y.op = 24 ∨ y.op = 25 ∨ y.op = 26 ∨ y.op = 27 ∨ y.op = 28))) S3 := by
  refine C_ops_plain_105_ok ?_
  unfold P_ops_plain_105
  rw [cdI]
  refine ⟨fun hf => ?_, fun hf => ?_⟩
  · have e : plainS y = ([y.a, y.a], [4]) := by
      unfold plainS
      repeat rw [if_neg (by omega)]
      try rw [if_pos (by omega)]
    rw [e]
    exact efLL (r := ([y.a, y.a], [4], true)) hle hn h2 rfl rfl
  refine tEq ?_
  rw [cdI]
  refine ⟨fun h29 => ?_, fun h29 => ?_⟩
  · have e : plainS y = ([y.a], [y.b]) := by
      unfold plainS
      repeat rw [if_neg (by omega)]
      try rw [if_pos (by omega)]
    have l2 : loadSc S3 (.ptr k 2) = some (.int .i64 y.b) := by rw [ldP h0]; rfl
    rw [e]
    refine ⟨rfl, ?_, ?_, ?_, trivial⟩
    · refine lit_own (l := [y.a]) fun v S4 g1 => ⟨trivial, (ops_of_ok g1.cells).useX ⟨trivial, ?_⟩⟩
      have e4 : S4 k = S3 k := by rw [g1.le _ _ h0, h0]
      have l4 : loadSc S4 (.ptr k 2) = some (.int .i64 y.b) := by rw [ldP (g1.le _ _ h0)]; rfl
      simp only [ofP, oD, orAny, Nat.zero_add, l2, l4]
      refine ⟨⟨⟨by simp, rfl⟩, ⟨by simp, e4⟩, trivial⟩, lit_own (l := [y.b]) fun v' S6 g2 => ⟨trivial, (ops_gives_ok (a := v) (b := .nilSlc) (c := .bool true) g2.cells).useX ⟨trivial, ?_⟩⟩⟩
      exact endEf' hle hn h2 (r := ([y.a], [y.b], true)) ⟨S4, g1, g2⟩
    · refine lit_own (l := [y.a]) fun v S4 g1 => ⟨trivial, ?_⟩
      have e4 : S4 k = S3 k := by rw [g1.le _ _ h0, h0]
      have l4 : loadSc S4 (.ptr k 2) = some (.int .i64 y.b) := by rw [ldP (g1.le _ _ h0)]; rfl
      simp only [ofP, oD, orAny, Nat.zero_add, l2, l4]
      refine ⟨⟨⟨by simp, e4⟩, trivial⟩, lit_own (l := [y.b]) fun v' S6 g2 => ⟨trivial, (ops_of_ok g1.cells).useX ⟨trivial, (ops_gives_ok (a := v) (b := .nilSlc) (c := .bool true) g2.cells).useX ⟨trivial, ?_⟩⟩⟩⟩
      exact endEf' hle hn h2 (r := ([y.a], [y.b], true)) ⟨S4, g1, g2⟩
    · simp only [ofP, oD, Nat.zero_add, l2]
      refine ⟨trivial, lit_own (l := [y.b]) fun v' S4 g1 => ⟨trivial, lit_own (l := [y.a]) fun v S6 g2 => ⟨trivial, (ops_of_ok g2.cells).useX ⟨trivial, (ops_gives_ok (a := v) (b := .nilSlc) (c := .bool true) g1.cells).useX ⟨trivial, ?_⟩⟩⟩⟩⟩
      obtain ⟨S5, g3, g4⟩ := g1.swap g2
      exact endEf' hle hn h2 (r := ([y.a], [y.b], true)) ⟨S5, g3, g4⟩
  refine tEq ?_
  rw [cdI]
  refine ⟨fun h30 => ?_, fun h30 => ?_⟩
  · have e : plainS y = ([4], [4]) := by
      unfold plainS
      repeat rw [if_neg (by omega)]
      try rw [if_pos (by omega)]
    rw [e]
    exact efLL (r := ([4], [4], true)) hle hn h2 rfl rfl
  refine tEq ?_
  rw [cdI]
  refine ⟨fun h31 => ?_, fun h31 => ?_⟩
  · have e : plainS y = ([5, 5], [5]) := by
      unfold plainS
      repeat rw [if_neg (by omega)]
      try rw [if_pos (by omega)]
    rw [e]
    exact efLL (r := ([5, 5], [5], true)) hle hn h2 rfl rfl
  refine tEq ?_
  rw [cdI]
  refine ⟨fun h32 => ?_, fun h32 => ?_⟩
  · have e : plainS y = ([5], [3]) := by
      unfold plainS
      repeat rw [if_neg (by omega)]
      try rw [if_pos (by omega)]
    rw [e]
    exact efLL (r := ([5], [3], true)) hle hn h2 rfl rfl
  refine tEq ?_
  rw [cdI]
  refine ⟨fun h33 => ?_, fun h33 => ?_⟩
  · have e : plainS y = ([5, 3], [2]) := by
      unfold plainS
      repeat rw [if_neg (by omega)]
      try rw [if_pos (by omega)]
    rw [e]
    exact efLL (r := ([5, 3], [2], true)) hle hn h2 rfl rfl
  refine tEq ?_
  rw [cdI]
  refine ⟨fun h34 => ?_, fun h34 => ?_⟩
  · have e : plainS y = ([5, 3, 3], [5]) := by
      unfold plainS
      repeat rw [if_neg (by omega)]
      try rw [if_pos (by omega)]
    rw [e]
    exact efLL (r := ([5, 3, 3], [5], true)) hle hn h2 rfl rfl
  refine tEq ?_
  rw [cdI]
  refine ⟨fun h35 => ?_, fun h35 => ?_⟩
  · have e : plainS y = ([2], [5]) := by
      unfold plainS
      repeat rw [if_neg (by omega)]
      try rw [if_pos (by omega)]
    rw [e]
    exact efLL (r := ([2], [5], true)) hle hn h2 rfl rfl
  exact orC (C := fun b => C_ops_plain_173 E w0 false _ _ _ _ b S3) (plain_173 hle hn h2 (by omega)) fun h => tEq h
theorem plain_77 (hv : y.op = 21 ∨ y.op = 22 ∨ (23 ≤ y.op ∧ y.op ≤ 35) ∨ y.op = 47 ∨ y.op = 48 ∨ y.op = 49 ∨ y.op = 46 ∨ y.op = 51 ∨ y.op = 52 ∨ (11 ≤ y.op ∧ y.op ≤ 20)) : C_ops_plain_77 E w0 false (FinD E (EfQ S ((plainS y).1, (plainS y).2, true))) (.ptr k 0) (.ptr k2 0) (.int .i64 y.a) (.int .u8 y.op) (.bool (decide (y.op = 21 ∨ y.op = 22))) S3 := by
  refine C_ops_plain_77_ok ?_
  unfold P_ops_plain_77
  rw [cdI]
  refine ⟨fun hf => ?_, fun hf => ?_⟩
  · have e : plainS y = ([y.a], [y.a]) := by
      unfold plainS
      repeat rw [if_neg (by omega)]
      try rw [if_pos (by omega)]
    rw [e]
    exact efLL (r := ([y.a], [y.a], true)) hle hn h2 rfl rfl
  exact orC (C := fun b => C_ops_plain_105 E w0 false _ _ _ _ _ b S3) (plain_105 hle hn h0 h2 (by omega)) fun h => orC h fun h => orC h fun h => orC h fun h => orC h fun h => tEq h
theorem plain_57 (hv : y.op = 8 ∨ y.op = 9 ∨ y.op = 10 ∨ y.op = 21 ∨ y.op = 22 ∨ (23 ≤ y.op ∧ y.op ≤ 35) ∨ y.op = 47 ∨ y.op = 48 ∨ y.op = 49 ∨ y.op = 46 ∨ y.op = 51 ∨ y.op = 52 ∨ (11 ≤ y.op ∧ y.op ≤ 20)) : C_ops_plain_57 E w0 false (FinD E (EfQ S ((plainS y).1, (plainS y).2, true))) (.ptr k 0) (.ptr k2 0) (.int .i64 y.a) (.int .u8 y.op) (.bool (decide (y.op = 8 ∨ y.op = 9))) S3 := by
  refine C_ops_plain_57_ok ?_
  unfold P_ops_plain_57
  rw [cdI]
  refine ⟨fun hf => ?_, fun hf => ?_⟩
  · have e : plainS y = ([0], []) := by
      unfold plainS
      repeat rw [if_neg (by omega)]
      try rw [if_pos (by omega)]
    rw [e]
    exact efLN (r := ([0], [], true)) hle hn h2 rfl rfl rfl
  refine tEq ?_
  rw [cdI]
  refine ⟨fun h10 => ?_, fun h10 => ?_⟩
  · have e : plainS y = ([0], [0, 0]) := by
      unfold plainS
      repeat rw [if_neg (by omega)]
      try rw [if_pos (by omega)]
    rw [e]
    exact efLL (r := ([0], [0, 0], true)) hle hn h2 rfl rfl
  exact orC (C := fun b => C_ops_plain_77 E w0 false _ _ _ _ _ b S3) (plain_77 hle hn h0 h2 (by omega)) fun h => tEq h
theorem plain_37 (hv : y.op = 4 ∨ y.op = 5 ∨ y.op = 7 ∨ y.op = 8 ∨ y.op = 9 ∨ y.op = 10 ∨ y.op = 21 ∨ y.op = 22 ∨ (23 ≤ y.op ∧ y.op ≤ 35) ∨ y.op = 47 ∨ y.op = 48 ∨ y.op = 49 ∨ y.op = 46 ∨ y.op = 51 ∨ y.op = 52 ∨ (11 ≤ y.op ∧ y.op ≤ 20)) : C_ops_plain_37 E w0 false (FinD E (EfQ S ((plainS y).1, (plainS y).2, true))) (.ptr k 0) (.ptr k2 0) (.int .i64 y.a) (.int .u8 y.op) (.bool (decide (y.op = 4 ∨ y.op = 5))) S3 := by
  refine C_ops_plain_37_ok ?_
  unfold P_ops_plain_37
  rw [cdI]
  refine ⟨fun hf => ?_, fun hf => ?_⟩
  · have e : plainS y = ([], [4]) := by
      unfold plainS
      repeat rw [if_neg (by omega)]
      try rw [if_pos (by omega)]
    rw [e]
    exact efNL (r := ([], [4], true)) hle hn h2 rfl rfl rfl
  refine tEq ?_
  rw [cdI]
  refine ⟨fun h7 => ?_, fun h7 => ?_⟩
  · have e : plainS y = ([], [0]) := by
      unfold plainS
      repeat rw [if_neg (by omega)]
      try rw [if_pos (by omega)]
    rw [e]
    exact efNL (r := ([], [0], true)) hle hn h2 rfl rfl rfl
  exact orC (C := fun b => C_ops_plain_57 E w0 false _ _ _ _ _ b S3) (plain_57 hle hn h0 h2 (by omega)) fun h => tEq h
theorem plain_25 (hv : y.op = 1 ∨ y.op = 2 ∨ y.op = 3 ∨ y.op = 4 ∨ y.op = 5 ∨ y.op = 7 ∨ y.op = 8 ∨ y.op = 9 ∨ y.op = 10 ∨ y.op = 21 ∨ y.op = 22 ∨ (23 ≤ y.op ∧ y.op ≤ 35) ∨ y.op = 47 ∨ y.op = 48 ∨ y.op = 49 ∨ y.op = 46 ∨ y.op = 51 ∨ y.op = 52 ∨ (11 ≤ y.op ∧ y.op ≤ 20)) : C_ops_plain_25 E w0 false (FinD E (EfQ S ((plainS y).1, (plainS y).2, true))) (.ptr k 0) (.ptr k2 0) (.int .i64 y.a) (.int .u8 y.op) (.bool (decide (y.op = 1 ∨ y.op = 2 ∨ y.op = 3))) S3 := by
  refine C_ops_plain_25_ok ?_
  unfold P_ops_plain_25
  rw [cdI]
  refine ⟨fun hf => ?_, fun hf => ?_⟩
  · have e : plainS y = ([], [y.op]) := by
      unfold plainS
      rw [if_pos (by omega)]
    have l0 : loadSc S3 (.ptr k 0) = some (.int .u8 y.op) := by rw [ldP h0]; rfl
    have w : IntKind.i64.wrap y.op = y.op := wrap_i64 (by omega) (by omega)
    rw [e]
    refine ⟨rfl, ?_, ?_, trivial⟩
    · refine (ops_of_ok clN).useX ⟨trivial, ?_⟩
      simp only [ofP, oD, orAny, Nat.zero_add, l0, cvI, w]
      refine ⟨⟨⟨by simp, rfl⟩, trivial⟩, lit_own (l := [y.op]) fun v' S6 g2 => ⟨trivial, (ops_gives_ok (a := .nilSlc) (b := .nilSlc) (c := .bool true) g2.cells).useX ⟨trivial, ?_⟩⟩⟩
      exact endEf' hle hn h2 (r := ([], [y.op], true)) ⟨S3, Own.nil _, g2⟩
    · simp only [ofP, oD, Nat.zero_add, l0, cvI, w]
      refine ⟨trivial, lit_own (l := [y.op]) fun v' S4 g1 => ⟨trivial, (ops_of_ok clN).useX ⟨trivial, (ops_gives_ok (a := .nilSlc) (b := .nilSlc) (c := .bool true) g1.cells).useX ⟨trivial, ?_⟩⟩⟩⟩
      exact endEf' hle hn h2 (r := ([], [y.op], true)) ⟨S3, Own.nil _, g1⟩
  exact orC (C := fun b => C_ops_plain_37 E w0 false _ _ _ _ _ b S3) (plain_37 hle hn h0 h2 (by omega)) fun h => tEq h
end
section
variable {E : Env} {w0 : World}
theorem ops_plain_ok {y : In} (hy : y.Ok) (hv : (1 ≤ y.op ∧ y.op ≤ 35 ∧ y.op ≠ 6) ∨ (46 ≤ y.op ∧ y.op ≤ 52 ∧ y.op ≠ 50)) {S : DSt} : DFn Try.prog E w0 false f_ops_plain [inD y] S (EfQ S ((plainS y).1, (plainS y).2, true)) := by
  refine V_ops_plain_ok ?_
  unfold V_ops_plain
  rw [inD, clA, oD]
  intro k a n
  intro k2 a2 n2
  obtain ⟨ne2, n2'⟩ := DSt.fresh n2
  generalize hS3 : (S.set k _).set k2 _ = S3
  have h2 : S3 k2 = some ⟨3, [[.nilSlc, .nilSlc, .bool false]], a2⟩ := by rw [← hS3]; exact DSt.set_same _ _ _
  have h0 : S3 k = some ⟨4, [inC y], a⟩ := by rw [← hS3, DSt.set_ne _ _ _ (Ne.symm ne2)]; exact DSt.set_same _ _ _
  have hle : S.le S3 := by rw [← hS3]; exact DSt.le_set (DSt.le_new n) n2'
  have l0 : loadSc S3 (.ptr k 0) = some (.int .u8 y.op) := by rw [ldP h0]; rfl
  have l1 : loadSc S3 (.ptr k 1) = some (.int .i64 y.a) := by rw [ldP h0]; rfl
  simp only [ofP, Nat.zero_add]
  rw [oD, l1, oD, oD, l0, oD]
  exact orC (C := fun b => C_ops_plain_25 E w0 false _ _ _ _ _ b S3) (plain_25 hle n2' h0 h2 (by omega)) fun h => orC h fun h => tEq h
end
end Go.Proofs.Ytchnpgddpaonhaa.d
end

section
open Go.Proofs Go Go.Am Go.Op
namespace Go.Proofs.Ytchnpgddpaonhaa.d
set_option linter.unusedVariables false
set_option linter.unusedSimpArgs false
set_option maxRecDepth 100000
section
variable {E : Env} {w0 : World} {S S3 : DSt} {k2 : Nat} {a2 : List AV}
variable (hle : S.le S3) (hn : S k2 = none) (h2 : S3 k2 = some ⟨3, [[.nilSlc, .nilSlc, .bool false]], a2⟩) {x : Bool}
include hle hn h2
theorem efLLg {r : List Int × List Int × Bool} : litD S3 1 (some (iC r.1)) r.1.length fun v S4 => DFn Try.prog E w0 x f_ops_of [v] S4 fun w S5 => litD S5 1 (some (iC r.2.1)) r.2.1.length fun v' S6 => DFn Try.prog E w0 x f_ops_effect_gives [w, v'] S6 fun u S7 => DFn Try.prog E w0 x f_ops_effect_given [u, .bool r.2.2] S7 fun u S7 =>
    storeD S7 3 (.ptr k2 0) u fun _ S8 => optW (loadAg S8 3 (.ptr k2 0)) fun z => FinD E (EfQ S r) z S8 := by
  refine lit_own fun v S4 g1 => (ops_of_ok g1.cells).use (lit_own fun v' S6 g2 => ?_)
  refine (ops_gives_ok (a := v) (b := .nilSlc) (c := .bool true) g2.cells).use ?_
  refine (ops_given_ok (a := v) (b := v') (c := .bool true) (clB _)).use ?_
  exact endEf hle hn h2 rfl ⟨S4, g1, g2⟩
theorem efNLg {r : List Int × List Int × Bool} (h1 : r.1 = []) : DFn Try.prog E w0 x f_ops_of [.nilSlc] S3 fun w S5 => litD S5 1 (some (iC r.2.1)) r.2.1.length fun v' S6 => DFn Try.prog E w0 x f_ops_effect_gives [w, v'] S6 fun u S7 => DFn Try.prog E w0 x f_ops_effect_given [u, .bool r.2.2] S7 fun u S7 =>
    storeD S7 3 (.ptr k2 0) u fun _ S8 => optW (loadAg S8 3 (.ptr k2 0)) fun z => FinD E (EfQ S r) z S8 := by
  refine (ops_of_ok clN).use (lit_own fun v' S6 g2 => ?_)
  refine (ops_gives_ok (a := .nilSlc) (b := .nilSlc) (c := .bool true) g2.cells).use ?_
  refine (ops_given_ok (a := .nilSlc) (b := v') (c := .bool true) (clB _)).use ?_
  exact endEf hle hn h2 rfl ⟨S3, by rw [h1]; exact Own.nil _, g2⟩
theorem efLNg {r : List Int × List Int × Bool} (h1 : r.2.1 = []) : litD S3 1 (some (iC r.1)) r.1.length fun v S4 => DFn Try.prog E w0 x f_ops_of [v] S4 fun u S7 => DFn Try.prog E w0 x f_ops_effect_given [u, .bool r.2.2] S7 fun u S7 =>
    storeD S7 3 (.ptr k2 0) u fun _ S8 => optW (loadAg S8 3 (.ptr k2 0)) fun z => FinD E (EfQ S r) z S8 := by
  refine lit_own fun v S4 g1 => (ops_of_ok g1.cells).use ?_
  refine (ops_given_ok (a := v) (b := .nilSlc) (c := .bool true) (clB _)).use ?_
  exact endEf hle hn h2 rfl ⟨S4, g1, by rw [h1]; exact Own.nil _⟩
theorem efXLg {B : DSt} {v : D} {r : List Int × List Int × Bool} (g1 : Own S3 v r.1 B) : DFn Try.prog E w0 x f_ops_of [v] B fun w S5 => litD S5 1 (some (iC r.2.1)) r.2.1.length fun v' S6 => DFn Try.prog E w0 x f_ops_effect_gives [w, v'] S6 fun u S7 => DFn Try.prog E w0 x f_ops_effect_given [u, .bool r.2.2] S7 fun u S7 =>
    storeD S7 3 (.ptr k2 0) u fun _ S8 => optW (loadAg S8 3 (.ptr k2 0)) fun z => FinD E (EfQ S r) z S8 := by
  refine (ops_of_ok g1.cells).use (lit_own fun v' S6 g2 => ?_)
  refine (ops_gives_ok (a := v) (b := .nilSlc) (c := .bool true) g2.cells).use ?_
  refine (ops_given_ok (a := v) (b := v') (c := .bool true) (clB _)).use ?_
  exact endEf hle hn h2 rfl ⟨B, g1, g2⟩
end
theorem lb1 {S : DSt} {a : Int} {K : D → DSt → Prop} (h : K (bD [a]) S) : litD S 1 (fillR 1 (List.replicate 1 [(.int .u8 0)]) [(0, .int .u8 a)]) 1 K := lit_lst (rows := ones ([a].map (D.int .u8))) rfl h
theorem lb2 {S : DSt} {a b : Int} {K : D → DSt → Prop} (h : K (bD [a, b]) S) : litD S 1 (fillR 1 (List.replicate 2 [(.int .u8 0)]) [(0, .int .u8 a), (1, .int .u8 b)]) 2 K := lit_lst (rows := ones ([a, b].map (D.int .u8))) rfl h
section
variable {E : Env} {w0 : World}
set_option maxHeartbeats 400000 in
theorem made_25_ok {y : In} {m : Mo} (hy : y.Ok) (hm : m.Fits) (hb : y.op = 37 ∨ y.op = 38 → 0 ≤ y.b) {S0 S : DSt} (hle : S0.le S) {k k2 k4 : Nat} {a a2 a4 : List AV} (h0 : S k = some ⟨4, [inC y], a⟩) (h2 : S k2 = some ⟨3, [moC m], a2⟩) (hn : S0 k4 = none) (h4 : S k4 = some ⟨3, [[.nilSlc, .nilSlc, .bool false]], a4⟩) :
    C_ops_made_25 E w0 false (FinD E (EfQ S0 (madeS y m))) (.ptr k 0) (.ptr k2 0) (.ptr k4 0) (.int .i64 y.a) (.int .u8 y.op) (.bool (decide (y.op = 36 ∨ y.op = 37 ∨ y.op = 38))) S := by
  refine C_ops_made_25_ok ?_
  unfold P_ops_made_25
  obtain ⟨xi0, xi1, xi2, xi3⟩ := inC_at y
  have hok := hm.ok
  have ha := hy.a
  have lm : loadAg S 3 (.ptr k2 0) = some (moD m) := by rw [laP h2 (by simp [moC])]; rfl
  have l1 : loadSc S (.ptr k 1) = some (.int .i64 y.a) := by rw [ldP h0]; rfl
  have box : ∀ {k5 : Nat} {o : DObj}, S k5 = none → S0.le (S.set k5 o) ∧ (S.set k5 o) k4 = some ⟨3, [[.nilSlc, .nilSlc, .bool false]], a4⟩ ∧ (S.set k5 o) k = some ⟨4, [inC y], a⟩ := fun h => by
    refine ⟨DSt.le_trans hle (DSt.le_new h), ?_, ?_⟩
    · rw [DSt.set_ne _ _ _ (fun e => by rw [← e, h4] at h; cases h)]; exact h4
    · rw [DSt.set_ne _ _ _ (fun e => by rw [← e, h0] at h; cases h)]; exact h0
  have e39 : ∀ (p : Int), binI .eql (.int .u8 y.op) (.int .u8 p) = some (.bool (decide (y.op = p))) := fun p => by rw [biEq, beqD]
  rw [cdI]
  refine ⟨fun h36 => ?_, fun h36 => ?_⟩
  · simp only [lm, oD, ofP, Nat.zero_add, l1]
    refine lb1 ((ops_typed_ok hok ha (by decide)).use ?_)
    obtain ⟨t, ok, ht⟩ : ∃ t ok, typedS m y.a [6] = (t, ok) := ⟨_, _, rfl⟩
    simp only [typedD, ht, exD, List.getElem?_cons_zero, List.getElem?_cons_succ, oD]
    refine tyBox fun k5 a5 n5 => ?_
    obtain ⟨b1, b2, b3⟩ := box (o := ⟨5, [tyR t], a5⟩) n5
    have h5 : (S.set k5 ⟨5, [tyR t], a5⟩) k5 = some ⟨5, [tyR t], a5⟩ := DSt.set_same _ _ _
    have hfl : t.fields.length < 2 ^ 30 := by
      unfold typedS at ht
      split at ht
      · rename_i t' e
        obtain ⟨_, e1, e2⟩ := tyOf_some e
        have : t' = t := (Prod.ext_iff.1 ht).1
        rw [← this]
        exact hm.fields _ (List.mem_of_getElem? e1)
      · have : zeroTy = t := (Prod.ext_iff.1 ht).1
        rw [← this]; decide
    generalize S.set k5 ⟨5, [tyR t], a5⟩ = S5 at b1 b2 b3 h5 ⊢
    have l0 : loadSc S5 (.ptr k 0) = some (.int .u8 y.op) := by rw [ldP b3]; rfl
    have l2 : loadSc S5 (.ptr k 2) = some (.int .i64 y.b) := by rw [ldP b3]; rfl
    have lf : loadSc S5 (.ptr k5 2) = some (fldsD t.fields) := by rw [ldP h5]; rfl
    simp only [ofP, oD, Nat.zero_add, l0, lf, fldsD_len, e39]
    rw [cdI]
    refine ⟨fun e36 => ?_, fun e36 => ?_⟩
    · have em : madeS y m = (t.fields.map (·.2), [y.a], ok) := by
        unfold madeS
        rw [if_pos h36]
        simp only [ht, if_pos e36]
      rw [em]
      refine loop_ops_made_0 (I := fun n x4 x5 x7 x8 x42 x43 x44 S' => x4 = .ptr k4 0 ∧ x5 = .int .i64 y.a ∧ x7 = .bool ok ∧ x42 = fldsD t.fields ∧ x43 = .int .i64 (t.fields.length : Int) ∧ ∃ (i : Nat) (B : DSt), x44 = .int .i64 (i : Int) ∧ i + n = t.fields.length ∧ S0.le B ∧ B k4 = some ⟨3, [[.nilSlc, .nilSlc, .bool false]], a4⟩ ∧ Grw B x8 (iC ((t.fields.take i).map (·.2))) 1 S') ?_ (n := t.fields.length) ⟨rfl, rfl, rfl, rfl, rfl, 0, S5, rfl, by omega, b1, b2, Grw.nil _ _⟩
      rintro n _ _ _ x8 _ _ _ S6 ⟨rfl, rfl, rfl, rfl, rfl, i, B, rfl, hi, c1, c2, g⟩
      unfold B_ops_made_0
      rw [biLt, oD, cdI]
      refine ⟨fun hlt => ?_, fun hge => ?_⟩
      · have hlt : i < t.fields.length := by omega
        obtain ⟨f, hf⟩ : ∃ f, f = t.fields[i] := ⟨_, rfl⟩
        have ea : t.fields[i]? = some f := by rw [List.getElem?_eq_getElem hlt, hf]
        rw [fldsD_at ea, oD, laFld, oD]
        intro k6 a6 n6
        refine stP (ds := fldR f) (DSt.set_same _ _ _) (clA _) ⟨rfl, by decide, by simp [fldR]⟩ fun a7 => ?_
        rw [DSt.set_set, ofP, oD, ldP (DSt.set_same _ _ _), show (setManyD [D.str [], .int .i64 0] 0 (fldR f))[0 + 1]? = some (.int .i64 f.2) from rfl, oD]
        have gu := g.under (o := ⟨[D.str [], .int .i64 0].length, [setManyD [D.str [], .int .i64 0] 0 (fldR f)], a7⟩) n6
        refine li1 (gu.push (news := iC [f.2]) (iD_rows _ _) (by simp; omega) fun t' S' g' => ?_)
        rw [biAdd, oD, wrap_i64 (by omega) (by omega)]
        have z6 : B k6 = none := by
          cases e : B k6 with
          | none => rfl
          | some o => rw [g.le _ _ e] at n6; cases n6
        have zS : S0 k6 = none := by
          cases e : S0 k6 with
          | none => rfl
          | some o => rw [c1 _ _ e] at z6; cases z6
        refine ⟨n - 1, by omega, by trivial, by trivial, by trivial, by trivial, by trivial, i + 1, B.set k6 ⟨[D.str [], .int .i64 0].length, [setManyD [D.str [], .int .i64 0] 0 (fldR f)], a7⟩, rfl, by omega, DSt.le_set c1 zS, ?_, ?_⟩
        · rw [DSt.set_ne _ _ _ (fun e => by rw [← e, c2] at z6; cases z6)]; exact c2
        · rw [List.take_add_one, ea, Option.toList_some, List.map_append, iC_append]
          exact g'
      · have hi : i = t.fields.length := by omega
        subst hi
        rw [List.take_length] at g
        have gg : Own B x8 (t.fields.map (·.2)) S6 := Own.of_grw g
        clear g em hge
        generalize t.fields.map (·.2) = lc at gg ⊢
        exact efXLg (r := (lc, [y.a], ok)) c1 hn c2 gg
    have hm36 : madeS y m = match (if ok then t.fields[y.b.toNat]? else none) with
      | some f => if y.op = 37 then ([y.a], [f.2], true) else ([y.a, f.2], [], true)
      | none => ([], [], false) := by
      unfold madeS
      rw [if_pos h36]
      simp only [ht, if_neg e36]
      try rfl
    have bad : ([], [], false) = madeS y m → optW (aggD (fillD [.nilSlc, .nilSlc, (.bool false)] [])) fun v62 => storeD S5 3 (.ptr k4 0) v62 fun v63 S64 => optW (loadAg S64 3 (.ptr k4 0)) fun v65 => FinD E (EfQ S0 (madeS y m)) v65 S64 := fun e => by
      rw [fiN, agS, oD, ← e]
      exact endEf (r := ([], [], false)) b1 hn b2 rfl ⟨S5, Own.nil _, Own.nil _⟩
    rw [unN, oD]
    cases ok with
    | false =>
      simp only [Bool.not_false, wdB, t1, vdF, oD, pdB, if_true, cdT]
      exact bad (by rw [hm36]; rfl)
    | true =>
      simp only [Bool.not_true, wdB, t2, vdT, oD, l2, lf, fldsD_len, biGe, pdB, Bool.false_eq_true, if_false]
      have hbn : 0 ≤ y.b := hb (by omega)
      rw [cdI]
      refine ⟨fun hbig => bad ?_, fun hsm => ?_⟩
      · rw [hm36, if_pos rfl, List.getElem?_eq_none (by omega)]
      obtain ⟨j, hj⟩ : ∃ j : Nat, j = y.b.toNat := ⟨_, rfl⟩
      have hj' : y.b = (j : Int) := by omega
      have hsm : j < t.fields.length := by omega
      rw [← hj] at hm36
      obtain ⟨f, hf⟩ : ∃ f, f = t.fields[j] := ⟨_, rfl⟩
      have ea : t.fields[j]? = some f := by rw [List.getElem?_eq_getElem hsm, hf]
      rw [if_pos rfl, ea] at hm36
      simp only at hm36
      simp only [hj', fldsD_at ea, oD, ofE, lsE, Nat.zero_add, show (fldR f)[1]? = some (.int .i64 f.2) from rfl, l0, e39]
      rw [cdI]
      refine ⟨fun e38 => ?_, fun e38 => ?_⟩
      · rw [if_neg (by omega)] at hm36
        rw [hm36]
        exact efLN (r := ([y.a, f.2], [], true)) b1 hn b2 rfl rfl rfl
      · rw [if_pos (by omega)] at hm36
        rw [hm36]
        exact efLL (r := ([y.a], [f.2], true)) b1 hn b2 rfl rfl
  simp only [e39, oD]
  rw [cdI]
  refine ⟨fun h39 => ?_, fun h39 => ?_⟩
  · simp only [lm, oD, ofP, Nat.zero_add, l1]
    refine lb1 ((ops_typed_ok hok ha (by decide)).use ?_)
    simp only [typedD, exD, List.getElem?_cons_zero, List.getElem?_cons_succ, oD]
    refine tyBox fun k5 a5 n5 => ?_
    obtain ⟨b1, b2, b3⟩ := box (o := ⟨5, [tyR (typedS m y.a [7]).1], a5⟩) n5
    have lf : loadSc (S.set k5 ⟨5, [tyR (typedS m y.a [7]).1], a5⟩) (.ptr k5 3) = some (.int .i64 (typedS m y.a [7]).1.elem) := by rw [ldP (DSt.set_same _ _ _)]; rfl
    have h5 : (S.set k5 ⟨5, [tyR (typedS m y.a [7]).1], a5⟩) k5 = some ⟨5, [tyR (typedS m y.a [7]).1], a5⟩ := DSt.set_same _ _ _
    generalize S.set k5 ⟨5, [tyR (typedS m y.a [7]).1], a5⟩ = S5 at b1 b2 b3 lf h5 ⊢
    simp only [ofP, oD, Nat.zero_add, lf]
    have em : madeS y m = ([(typedS m y.a [7]).1.elem], [y.a], (typedS m y.a [7]).2) := by
      unfold madeS
      rw [if_neg h36, if_pos h39]
    rw [em]
    exact efLLg (r := ([(typedS m y.a [7]).1.elem], [y.a], (typedS m y.a [7]).2)) b1 hn b2
  rw [cdI]
  refine ⟨fun h40 => ?_, fun h40 => ?_⟩
  · simp only [lm, oD, ofP, Nat.zero_add, l1]
    refine lb1 ((ops_typed_ok hok ha (by decide)).use ?_)
    simp only [typedD, exD, List.getElem?_cons_zero, List.getElem?_cons_succ, oD]
    refine tyBox fun k5 a5 n5 => ?_
    obtain ⟨b1, b2, b3⟩ := box (o := ⟨5, [tyR (typedS m y.a [8]).1], a5⟩) n5
    have lf : loadSc (S.set k5 ⟨5, [tyR (typedS m y.a [8]).1], a5⟩) (.ptr k5 3) = some (.int .i64 (typedS m y.a [8]).1.elem) := by rw [ldP (DSt.set_same _ _ _)]; rfl
    have h5 : (S.set k5 ⟨5, [tyR (typedS m y.a [8]).1], a5⟩) k5 = some ⟨5, [tyR (typedS m y.a [8]).1], a5⟩ := DSt.set_same _ _ _
    generalize S.set k5 ⟨5, [tyR (typedS m y.a [8]).1], a5⟩ = S5 at b1 b2 b3 lf h5 ⊢
    have em : madeS y m = ([], [y.a], (typedS m y.a [8]).2) := by
      unfold madeS
      rw [if_neg h36, if_neg h39, if_pos h40]
    rw [em]
    exact efNLg (r := ([], [y.a], (typedS m y.a [8]).2)) b1 hn b2 rfl
  rw [cdI]
  refine ⟨fun h44 => ?_, fun h44 => ?_⟩
  · simp only [lm, oD, ofP, Nat.zero_add, l1]
    refine lb1 ((ops_typed_ok hok ha (by decide)).use ?_)
    simp only [typedD, exD, List.getElem?_cons_zero, List.getElem?_cons_succ, oD]
    refine tyBox fun k5 a5 n5 => ?_
    obtain ⟨b1, b2, b3⟩ := box (o := ⟨5, [tyR (typedS m y.a [8]).1], a5⟩) n5
    have lf : loadSc (S.set k5 ⟨5, [tyR (typedS m y.a [8]).1], a5⟩) (.ptr k5 3) = some (.int .i64 (typedS m y.a [8]).1.elem) := by rw [ldP (DSt.set_same _ _ _)]; rfl
    have h5 : (S.set k5 ⟨5, [tyR (typedS m y.a [8]).1], a5⟩) k5 = some ⟨5, [tyR (typedS m y.a [8]).1], a5⟩ := DSt.set_same _ _ _
    generalize S.set k5 ⟨5, [tyR (typedS m y.a [8]).1], a5⟩ = S5 at b1 b2 b3 lf h5 ⊢
    simp only [ofP, oD, Nat.zero_add, lf]
    have em : madeS y m = ([y.a, (typedS m y.a [8]).1.elem], [], (typedS m y.a [8]).2) := by
      unfold madeS
      rw [if_neg h36, if_neg h39, if_neg h40, if_pos h44]
    rw [em]
    exact efLNg (r := ([y.a, (typedS m y.a [8]).1.elem], [], (typedS m y.a [8]).2)) b1 hn b2 rfl
  rw [cdI]
  refine ⟨fun h45 => ?_, fun h45 => ?_⟩
  · simp only [lm, oD, ofP, Nat.zero_add, l1]
    refine lb1 ((ops_typed_ok hok ha (by decide)).use ?_)
    simp only [typedD, exD, List.getElem?_cons_zero, List.getElem?_cons_succ, oD]
    refine tyBox fun k5 a5 n5 => ?_
    obtain ⟨b1, b2, b3⟩ := box (o := ⟨5, [tyR (typedS m y.a [8]).1], a5⟩) n5
    have lf : loadSc (S.set k5 ⟨5, [tyR (typedS m y.a [8]).1], a5⟩) (.ptr k5 3) = some (.int .i64 (typedS m y.a [8]).1.elem) := by rw [ldP (DSt.set_same _ _ _)]; rfl
    have h5 : (S.set k5 ⟨5, [tyR (typedS m y.a [8]).1], a5⟩) k5 = some ⟨5, [tyR (typedS m y.a [8]).1], a5⟩ := DSt.set_same _ _ _
    generalize S.set k5 ⟨5, [tyR (typedS m y.a [8]).1], a5⟩ = S5 at b1 b2 b3 lf h5 ⊢
    have em : madeS y m = ([y.a], [(typedS m y.a [8]).1.elem], (typedS m y.a [8]).2) := by
      unfold madeS
      rw [if_neg h36, if_neg h39, if_neg h40, if_neg h44, if_pos h45]
    rw [em]
    refine ⟨by trivial, ?_, ?_, ?_, trivial⟩
    · refine lit_own (l := [y.a]) fun v S4 g1 => ⟨trivial, (ops_of_ok g1.cells).useX ⟨trivial, ?_⟩⟩
      have e4 : S4 k5 = S5 k5 := by rw [g1.le _ _ h5, h5]
      have l4 : loadSc S4 (.ptr k5 3) = some (.int .i64 (typedS m y.a [8]).1.elem) := by rw [ldP (g1.le _ _ h5)]; rfl
      simp only [ofP, oD, orAny, Nat.zero_add, lf, l4]
      refine ⟨⟨⟨by simp, rfl⟩, ⟨by simp, e4⟩, trivial⟩, lit_own (l := [(typedS m y.a [8]).1.elem]) fun v' S6 g2 => ⟨trivial, (ops_gives_ok (a := v) (b := .nilSlc) (c := .bool true) g2.cells).useX ⟨trivial, (ops_given_ok (a := v) (b := v') (c := .bool true) (clB _)).useX ⟨trivial, ?_⟩⟩⟩⟩
      exact endEf' b1 hn b2 (r := ([y.a], [(typedS m y.a [8]).1.elem], (typedS m y.a [8]).2)) ⟨S4, g1, g2⟩
    · refine lit_own (l := [y.a]) fun v S4 g1 => ⟨trivial, ?_⟩
      have e4 : S4 k5 = S5 k5 := by rw [g1.le _ _ h5, h5]
      have l4 : loadSc S4 (.ptr k5 3) = some (.int .i64 (typedS m y.a [8]).1.elem) := by rw [ldP (g1.le _ _ h5)]; rfl
      simp only [ofP, oD, orAny, Nat.zero_add, lf, l4]
      refine ⟨⟨⟨by simp, e4⟩, trivial⟩, lit_own (l := [(typedS m y.a [8]).1.elem]) fun v' S6 g2 => ⟨trivial, (ops_of_ok g1.cells).useX ⟨trivial, (ops_gives_ok (a := v) (b := .nilSlc) (c := .bool true) g2.cells).useX ⟨trivial, (ops_given_ok (a := v) (b := v') (c := .bool true) (clB _)).useX ⟨trivial, ?_⟩⟩⟩⟩⟩
      exact endEf' b1 hn b2 (r := ([y.a], [(typedS m y.a [8]).1.elem], (typedS m y.a [8]).2)) ⟨S4, g1, g2⟩
    · simp only [ofP, oD, Nat.zero_add, lf]
      refine ⟨trivial, lit_own (l := [(typedS m y.a [8]).1.elem]) fun v' S4 g1 => ⟨trivial, lit_own (l := [y.a]) fun v S6 g2 => ⟨trivial, (ops_of_ok g2.cells).useX ⟨trivial, (ops_gives_ok (a := v) (b := .nilSlc) (c := .bool true) g1.cells).useX ⟨trivial, (ops_given_ok (a := v) (b := v') (c := .bool true) (clB _)).useX ⟨trivial, ?_⟩⟩⟩⟩⟩⟩
      obtain ⟨S7, g3, g4⟩ := g1.swap g2
      exact endEf' b1 hn b2 (r := ([y.a], [(typedS m y.a [8]).1.elem], (typedS m y.a [8]).2)) ⟨S7, g3, g4⟩
  simp only [lm, oD, ofP, Nat.zero_add, l1]
  refine lb2 ((ops_typed_ok hok ha (by decide)).use ?_)
  simp only [typedD, exD, List.getElem?_cons_zero, List.getElem?_cons_succ, oD]
  refine tyBox fun k5 a5 n5 => ?_
  obtain ⟨b1, b2, b3⟩ := box (o := ⟨5, [tyR (typedS m y.a [7, 8]).1], a5⟩) n5
  have lf : loadSc (S.set k5 ⟨5, [tyR (typedS m y.a [7, 8]).1], a5⟩) (.ptr k5 3) = some (.int .i64 (typedS m y.a [7, 8]).1.elem) := by rw [ldP (DSt.set_same _ _ _)]; rfl
  have h5 : (S.set k5 ⟨5, [tyR (typedS m y.a [7, 8]).1], a5⟩) k5 = some ⟨5, [tyR (typedS m y.a [7, 8]).1], a5⟩ := DSt.set_same _ _ _
  generalize S.set k5 ⟨5, [tyR (typedS m y.a [7, 8]).1], a5⟩ = S5 at b1 b2 b3 lf h5 ⊢
  have l0 : loadSc S5 (.ptr k 0) = some (.int .u8 y.op) := by rw [ldP b3]; rfl
  simp only [ofP, oD, Nat.zero_add, l0, e39]
  rw [cdI]
  refine ⟨fun h41 => ?_, fun h41 => ?_⟩
  · have em : madeS y m = ([y.a, 3], [(typedS m y.a [7, 8]).1.elem], (typedS m y.a [7, 8]).2) := by
      unfold madeS
      rw [if_neg h36, if_neg h39, if_neg h40, if_neg h44, if_neg h45, if_pos h41]
    rw [em]
    refine ⟨by trivial, ?_, ?_, ?_, trivial⟩
    · refine lit_own (l := [y.a, 3]) fun v S4 g1 => ⟨trivial, (ops_of_ok g1.cells).useX ⟨trivial, ?_⟩⟩
      have e4 : S4 k5 = S5 k5 := by rw [g1.le _ _ h5, h5]
      have l4 : loadSc S4 (.ptr k5 3) = some (.int .i64 (typedS m y.a [7, 8]).1.elem) := by rw [ldP (g1.le _ _ h5)]; rfl
      simp only [ofP, oD, orAny, Nat.zero_add, lf, l4]
      refine ⟨⟨⟨by simp, rfl⟩, ⟨by simp, e4⟩, trivial⟩, lit_own (l := [(typedS m y.a [7, 8]).1.elem]) fun v' S6 g2 => ⟨trivial, (ops_gives_ok (a := v) (b := .nilSlc) (c := .bool true) g2.cells).useX ⟨trivial, (ops_given_ok (a := v) (b := v') (c := .bool true) (clB _)).useX ⟨trivial, ?_⟩⟩⟩⟩
      exact endEf' b1 hn b2 (r := ([y.a, 3], [(typedS m y.a [7, 8]).1.elem], (typedS m y.a [7, 8]).2)) ⟨S4, g1, g2⟩
    · refine lit_own (l := [y.a, 3]) fun v S4 g1 => ⟨trivial, ?_⟩
      have e4 : S4 k5 = S5 k5 := by rw [g1.le _ _ h5, h5]
      have l4 : loadSc S4 (.ptr k5 3) = some (.int .i64 (typedS m y.a [7, 8]).1.elem) := by rw [ldP (g1.le _ _ h5)]; rfl
      simp only [ofP, oD, orAny, Nat.zero_add, lf, l4]
      refine ⟨⟨⟨by simp, e4⟩, trivial⟩, lit_own (l := [(typedS m y.a [7, 8]).1.elem]) fun v' S6 g2 => ⟨trivial, (ops_of_ok g1.cells).useX ⟨trivial, (ops_gives_ok (a := v) (b := .nilSlc) (c := .bool true) g2.cells).useX ⟨trivial, (ops_given_ok (a := v) (b := v') (c := .bool true) (clB _)).useX ⟨trivial, ?_⟩⟩⟩⟩⟩
      exact endEf' b1 hn b2 (r := ([y.a, 3], [(typedS m y.a [7, 8]).1.elem], (typedS m y.a [7, 8]).2)) ⟨S4, g1, g2⟩
    · simp only [ofP, oD, Nat.zero_add, lf]
      refine ⟨trivial, lit_own (l := [(typedS m y.a [7, 8]).1.elem]) fun v' S4 g1 => ⟨trivial, lit_own (l := [y.a, 3]) fun v S6 g2 => ⟨trivial, (ops_of_ok g2.cells).useX ⟨trivial, (ops_gives_ok (a := v) (b := .nilSlc) (c := .bool true) g1.cells).useX ⟨trivial, (ops_given_ok (a := v) (b := v') (c := .bool true) (clB _)).useX ⟨trivial, ?_⟩⟩⟩⟩⟩⟩
      obtain ⟨S7, g3, g4⟩ := g1.swap g2
      exact endEf' b1 hn b2 (r := ([y.a, 3], [(typedS m y.a [7, 8]).1.elem], (typedS m y.a [7, 8]).2)) ⟨S7, g3, g4⟩
  rw [cdI]
  refine ⟨fun h42 => ?_, fun h42 => ?_⟩
  · simp only [ofP, oD, Nat.zero_add, lf]
    have em : madeS y m = ([y.a, 3, (typedS m y.a [7, 8]).1.elem], [], (typedS m y.a [7, 8]).2) := by
      unfold madeS
      rw [if_neg h36, if_neg h39, if_neg h40, if_neg h44, if_neg h45, if_neg h41, if_pos h42]
    rw [em]
    exact efLNg (r := ([y.a, 3, (typedS m y.a [7, 8]).1.elem], [], (typedS m y.a [7, 8]).2)) b1 hn b2 rfl
  · have em : madeS y m = ([y.a], [3], (typedS m y.a [7, 8]).2) := by
      unfold madeS
      rw [if_neg h36, if_neg h39, if_neg h40, if_neg h44, if_neg h45, if_neg h41, if_neg h42]
    rw [em]
    exact efLLg (r := ([y.a], [3], (typedS m y.a [7, 8]).2)) b1 hn b2
theorem ops_made_ok {y : In} {m : Mo} (hy : y.Ok) (hm : m.Fits) (hb : y.op = 37 ∨ y.op = 38 → 0 ≤ y.b) {S : DSt} : DFn Try.prog E w0 false f_ops_made [inD y, moD m] S (EfQ S (madeS y m)) := by
  refine V_ops_made_ok ?_
  unfold V_ops_made
  rw [inD, clA, oD]
  intro k a n
  rw [moD, clA, oD]
  intro k2 a2 n2
  obtain ⟨ne2, n2'⟩ := DSt.fresh n2
  intro k4 a4 n4
  obtain ⟨ne4, n4'⟩ := DSt.fresh n4
  obtain ⟨ne4', n4''⟩ := DSt.fresh n4'
  generalize hS3 : ((S.set k _).set k2 _).set k4 _ = S3
  have h4 : S3 k4 = some ⟨3, [[.nilSlc, .nilSlc, .bool false]], a4⟩ := by rw [← hS3]; exact DSt.set_same _ _ _
  have h2 : S3 k2 = some ⟨3, [moC m], a2⟩ := by rw [← hS3, DSt.set_ne _ _ _ (Ne.symm ne4)]; exact DSt.set_same _ _ _
  have h0 : S3 k = some ⟨4, [inC y], a⟩ := by rw [← hS3, DSt.set_ne _ _ _ (Ne.symm ne4'), DSt.set_ne _ _ _ (Ne.symm ne2)]; exact DSt.set_same _ _ _
  have hle : S.le S3 := by rw [← hS3]; exact DSt.le_set (DSt.le_set (DSt.le_new n) n2') n4''
  have l0 : loadSc S3 (.ptr k 0) = some (.int .u8 y.op) := by rw [ldP h0]; rfl
  have l1 : loadSc S3 (.ptr k 1) = some (.int .i64 y.a) := by rw [ldP h0]; rfl
  simp only [ofP, Nat.zero_add]
  rw [oD, l1, oD, oD, l0, oD]
  exact orC (C := fun b => C_ops_made_25 E w0 false _ _ _ _ _ _ b S3) (made_25_ok hy hm hb hle h0 h2 n4'' h4) fun h => orC h fun h => tEq h
end
end Go.Proofs.Ytchnpgddpaonhaa.d
end
