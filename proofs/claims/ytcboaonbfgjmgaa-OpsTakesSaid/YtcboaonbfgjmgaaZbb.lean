/-
  Texts Cj Ck Cl Cm, as far as they are used.
-/
import Derived.Test.YtcboaonbfgjmgaaZaz
import Derived.Test.YtcboaonbfgjmgaaZba
section
open Go.Proofs Go Go.Am Go.Op
namespace Go.Proofs.Ytcboaonbfgjmgaa.d
set_option linter.unusedVariables false
set_option linter.unusedSimpArgs false
set_option maxRecDepth 100000
/-- Numbers. -/
def iC (l : List Int) : List (List D) := ones (l.map (D.int .i64))
def iD (l : List Int) : D := .lst (iC l) 1
@[simp] theorem iC_length (l : List Int) : (iC l).length = l.length := by simp [iC]
theorem iC_at {l : List Int} {i : Nat} {n : Int} (h : l[i]? = some n) : (iC l)[i]? = some [.int .i64 n] := ones_get (by rw [List.getElem?_map, h]; rfl)
theorem iD_at {l : List Int} {i : Nat} {n : Int} (h : l[i]? = some n) : idxSl 1 (iD l) (.int .i64 (i : Int)) = some (.elt [.int .i64 n] 0) := idxL (iC_at h)
@[simp] theorem iD_len (l : List Int) : lenSl (iD l) = some (.int .i64 l.length) := by simp [iD]
@[simp] theorem iD_rows (S : DSt) (l : List Int) : rowsS S 1 (iD l) = some (iC l) := by simp [iD, rowsS, rowsOf]
theorem iC_append (a b : List Int) : iC (a ++ b) = iC a ++ iC b := by simp [iC, ones]
/-- Numbers that are lent: with marks behind them. -/
def iX (l : List Int) : D := .ext (iC l) (iC [-771, -772, -773]) 1
theorem iX_wk (l : List Int) : Wk (iX l) (iD l) := Wk.ext _ _ _
section
variable {E : Env} {w0 : World}
theorem kit_SameInts_ok {a b : List Int} (hl : a.length < 2 ^ 60) (hb : b.length < 2 ^ 60) : Pure Try.prog E w0 f_kit_SameInts [iD a, iD b] (.bool (decide (a = b))) := fun x S => by
  refine V_kit_SameInts_ok ?_
  unfold V_kit_SameInts
  simp only [iD_len, oD, biNe]
  have e : ((a.length : Int) != b.length) = decide (a.length ≠ b.length) := by
    by_cases h : a.length = b.length <;> simp [h, bne]
    intro h'; exact h (by omega)
  rw [e, cdI]
  refine ⟨fun h => ?_, fun h => ?_⟩
  · rw [decide_eq_false (fun e => h (by rw [e]))]
    exact FinD.pure
  have h : a.length = b.length := by omega
  refine loop_kit_SameInts_0 (I := fun n x0 x1 x5 S' => S' = S ∧ x0 = iD a ∧ x1 = iD b ∧ ∃ i : Nat, x5 = .int .i64 (i : Int) ∧ i + n = a.length ∧ a.take i = b.take i) ?_ (n := a.length) ⟨rfl, rfl, rfl, 0, rfl, by omega, rfl⟩
  rintro n _ _ _ _ ⟨rfl, rfl, rfl, i, rfl, hi, ht⟩
  unfold B_kit_SameInts_0
  simp only [iD_len, oD, biLt]
  rw [cdI]
  refine ⟨fun hlt => ?_, fun hge => ?_⟩
  · have hlt : i < a.length := by omega
    have ea : a[i]? = some a[i] := List.getElem?_eq_getElem hlt
    have eb : b[i]? = some b[i] := List.getElem?_eq_getElem (by omega)
    simp only [iD_at ea, iD_at eb, oD, lsE, List.getElem?_cons_zero, biNe]
    refine ⟨by trivial, by trivial, ?_⟩
    have e : (a[i] != b[i]) = decide (a[i] ≠ b[i]) := by by_cases h : a[i] = b[i] <;> simp [h, bne]
    rw [e, cdI]
    refine ⟨fun hne => ?_, fun he => ?_⟩
    · rw [decide_eq_false (fun e => hne (by simp only [e]))]
      exact FinD.pure
    · rw [biAdd, oD, wrap_i64 (by omega) (by omega)]
      refine ⟨n - 1, by omega, by trivial, by trivial, by trivial, i + 1, rfl, by omega, ?_⟩
      rw [List.take_add_one, List.take_add_one, ht, ea, eb, Classical.not_not.1 he]
  · rw [List.take_of_length_le (by omega), List.take_of_length_le (by omega)] at ht
    rw [decide_eq_true ht]
    exact FinD.pure
theorem kit_LentInts_ok {l : List Int} (hl : l.length < 2 ^ 30) : Pure Try.prog E w0 f_kit_LentInts [iD l] (iX l) := fun x S => by
  refine V_kit_LentInts_ok ?_
  unfold V_kit_LentInts
  refine (Grw.nil S 1).push (iD_rows _ _) (by simp; omega) fun t S1 g => ?_
  refine loop_kit_LentInts_0 (I := fun n x0 x3 x4 S' => x0 = iD l ∧ ∃ j : Nat, x4 = .int .i64 (j : Int) ∧ j + n = 3 ∧ ((j < 3 ∧ Grw S x3 (iC (l ++ [-771, -772, -773].take j)) 1 S') ∨ (j = 3 ∧ x3 = iD (l ++ [-771, -772, -773]) ∧ S' = S))) ?_ (n := 3) ⟨rfl, 0, rfl, by omega, .inl ⟨by omega, by simpa using g⟩⟩
  rintro n _ x3 _ S2 ⟨rfl, j, rfl, hj, hc⟩
  unfold B_kit_LentInts_0
  rw [biLt, oD, cdI]
  refine ⟨fun hlt => ?_, fun hge => ?_⟩
  · obtain ⟨_, g⟩ := hc.resolve_right fun h => by omega
    rw [biSub, oD, wrap_i64 (by omega) (by omega)]
    have hr : fillR 1 (List.replicate 1 [D.int .i64 0]) [(0, .int .i64 (-771 - (j : Int)))] = some (iC [-771 - (j : Int)]) := rfl
    rw [hr]
    refine lit_lst rfl ?_
    have hm : l ++ List.take j [-771, -772, -773] ++ [-771 - (j : Int)] = l ++ List.take (j + 1) [-771, -772, -773] := by
      rcases j with _ | _ | _ | j
      · simp
      · simp
      · simp
      · omega
    by_cases h2 : j = 2
    · subst h2
      refine g.last (news := iC [-771 - ((2 : Nat) : Int)]) rfl (by simp [iC, ones]) (by simp; omega) ?_
      rw [biAdd, oD, wrap_i64 (by omega) (by omega), ← iC_append, hm]
      exact ⟨0, by omega, rfl, 3, rfl, rfl, .inr ⟨rfl, rfl, rfl⟩⟩
    · refine g.push (news := iC [-771 - (j : Int)]) rfl (by simp; omega) fun t' S' g' => ?_
      rw [biAdd, oD, wrap_i64 (by omega) (by omega)]
      rw [← iC_append, hm] at g'
      exact ⟨n - 1, by omega, rfl, j + 1, rfl, by omega, .inl ⟨by omega, g'⟩⟩
  · obtain ⟨h3, rfl, rfl⟩ := hc.resolve_left fun h => by omega
    rw [iD_len, oD, iD, slcL (by simp), oD]
    rw [iC_append, List.take_left' (by simp), List.drop_left' (by simp)]
    exact FinD.pure
theorem kit_KeptInts_ok {l : List Int} (hl : l.length < 2 ^ 60) : Pure Try.prog E w0 f_kit_KeptInts [iX l, iD l] (.bool true) := fun x S => by
  refine V_kit_KeptInts_ok ?_
  unfold V_kit_KeptInts
  refine DF.weak (es := [iD l, iD l]) ⟨iX_wk l, Wk.refl _, trivial⟩ ((kit_SameInts_ok hl hl).use ?_)
  rw [unN, oD, decide_eq_true rfl, Bool.not_true, cdF, iD_len, oD, biAdd, oD, wrap_i64 (by omega) (by omega)]
  have e : ((l.length : Int) + 3) = ((l.length + 3 : Nat) : Int) := by omega
  rw [e, iX, slcE (by simp), oD]
  have e2 : extD ((iC l ++ iC [-771, -772, -773]).take (l.length + 3)) ((iC l ++ iC [-771, -772, -773]).drop (l.length + 3)) 1 = iD (l ++ [-771, -772, -773]) := by
    rw [← iC_append, List.take_of_length_le (by simp), List.drop_of_length_le (by simp)]; rfl
  rw [e2]
  refine loop_kit_KeptInts_0 (I := fun n x1 x5 x6 S' => S' = S ∧ x1 = iD l ∧ x5 = iD (l ++ [-771, -772, -773]) ∧ ∃ j : Nat, x6 = .int .i64 (j : Int) ∧ j + n = 3) ?_ (n := 3) ⟨rfl, rfl, rfl, 0, rfl, rfl⟩
  rintro n _ _ _ _ ⟨rfl, rfl, rfl, j, rfl, hj⟩
  unfold B_kit_KeptInts_0
  rw [biLt, oD, cdI]
  refine ⟨fun hlt => ?_, fun hge => ?_⟩
  · have ej : (l ++ [-771, -772, -773] : List Int)[l.length + j]? = some (-771 - (j : Int)) := by
      rw [List.getElem?_append_right (by omega), Nat.add_sub_cancel_left]
      rcases j with _ | _ | _ | j
      · rfl
      · rfl
      · rfl
      · omega
    rw [iD_len, oD, biAdd, oD, wrap_i64 (by omega) (by omega), show (l.length : Int) + (j : Int) = ((l.length + j : Nat) : Int) by omega, iD_at ej, oD, lsE, List.getElem?_cons_zero, oD, biSub, oD, wrap_i64 (by omega) (by omega), biNe, oD]
    rw [bne_self_eq_false, cdF, biAdd, oD, wrap_i64 (by omega) (by omega)]
    exact ⟨n - 1, by omega, rfl, rfl, rfl, j + 1, rfl, by omega⟩
  · exact FinD.pure
end
end Go.Proofs.Ytcboaonbfgjmgaa.d
end

section
open Go.Proofs Go Go.Am Go.Op
namespace Go.Proofs.Ytcboaonbfgjmgaa.d
set_option linter.unusedVariables false
set_option linter.unusedSimpArgs false
set_option maxRecDepth 100000
def bX (bs : List Int) : D := .ext (ones (bs.map (D.int .u8))) (ones [.int .u8 77]) 1
theorem bX_wk (l : List Int) : Wk (bX l) (bD l) := Wk.ext _ _ _
def strB (bs : List Int) : List UInt8 := bs.map fun b => UInt8.ofNat b.toNat
theorem bytes_of (l : List Int) : (ones (l.map (D.int .u8))).mapM byteD = some (strB l) := by
  induction l with
  | nil => rfl
  | cons b l ih =>
    have : (ones ((b :: l).map (D.int .u8))) = [D.int .u8 b] :: ones (l.map (D.int .u8)) := rfl
    rw [this, List.mapM_cons, ih]
    rfl
theorem convB (S : DSt) (l : List Int) : convBS S (bD l) = some (.str (strB l)) := by
  have : rowsOf S 1 (bD l) = some (ones (l.map (D.int .u8))) := by simp [bD, rowsOf]
  simp only [convBS, this, bytes_of, Option.map_some]
theorem convX (S : DSt) (l : List Int) : convBS S (bX l) = some (.str (strB l)) := by
  have : rowsOf S 1 (bX l) = some (ones (l.map (D.int .u8))) := by simp [bX, rowsOf]
  simp only [convBS, this, bytes_of, Option.map_some]
/-- An instruction that is lent. -/
def armX (arms : List (Int × Int)) : D := .ext (arms.map armR) [armR (77, 0)] 2
def inX (y : In) : D := .agg [.int .u8 y.op, .int .i64 y.a, .int .i64 y.b, armX y.arms]
theorem armX_wk (arms : List (Int × Int)) : Wk (armX arms) (armD arms) := Wk.ext _ _ _
theorem inX_wk (y : In) : Wk (inX y) (inD y) := Wk.agg ⟨Wk.refl _, Wk.refl _, Wk.refl _, armX_wk _, trivial⟩
@[simp] theorem armD_rows (S : DSt) (arms : List (Int × Int)) : rowsS S 2 (armD arms) = some (arms.map armR) := by simp [armD, rowsS, rowsOf]
def andO (r k : Option Bool) : Option Bool := match r with
  | some true => k
  | r => r
theorem andO_b (a b : Bool) : andO (some a) (some b) = some (a && b) := by cases a <;> rfl
theorem eqArm (p q : Int × Int) : eqAg Try.prog t_api_Arm (.agg (armR p)) (.agg (armR q)) = some (decide (p = q)) := by
  have h : eqAg Try.prog t_api_Arm (.agg (armR p)) (.agg (armR q)) = andO (some (p.1 == q.1)) (andO (some (p.2 == q.2)) (some true)) := by kernel_rfl
  rw [h, andO_b, andO_b, Bool.and_true]
  congr 1
  rw [beqD, beqD, ← Bool.decide_and]
  congr 1
  rw [Prod.ext_iff]
/-- Are two instructions the same? -/
def sameIn (y z : In) : Bool := decide (y.op = z.op ∧ y.a = z.a ∧ y.b = z.b ∧ y.arms = z.arms)
theorem sameIn_refl (y : In) : sameIn y y = true := decide_eq_true ⟨rfl, rfl, rfl, rfl⟩
theorem bneD (a b : Int) : (a != b) = decide (a ≠ b) := by by_cases h : a = b <;> simp [h, bne]
section
variable {E : Env} {w0 : World}
theorem kit_LentCode_ok {l : List Int} (hl : l.length < 2 ^ 30) : Pure Try.prog E w0 f_kit_LentCode [bD l] (bX l) := fun x S => by
  refine V_kit_LentCode_ok ?_
  unfold V_kit_LentCode
  refine (Grw.nil S 1).push (bD_rows _ _) (by simp; omega) fun t S1 g => ?_
  refine lit_lst (rows := ones [.int .u8 77]) rfl ?_
  refine g.last (news := ones [.int .u8 77]) rfl (by simp [ones]) (by simp; omega) ?_
  rw [bD_len, oD, List.nil_append, slcL (by simp), oD, List.take_left' (by simp), List.drop_left' (by simp)]
  exact FinD.pure
theorem kit_KeptCode_ok {l : List Int} (hl : l.length < 2 ^ 60) : Pure Try.prog E w0 f_kit_KeptCode [bX l, bD l] (.bool true) := fun x S => by
  refine V_kit_KeptCode_ok ?_
  unfold V_kit_KeptCode
  rw [convX, oD, convB, oD, bsEq, beq_self_eq_true]
  simp only [oD, wdB, beq_self_eq_true, vdT, bD_len, biAdd]
  rw [wrap_i64 (by omega) (by omega), show ((l.length : Int) + 1) = ((l.length + 1 : Nat) : Int) by omega, bX, slcE (by simp), oD]
  have e2 : extD ((ones (l.map (D.int .u8)) ++ ones [.int .u8 77]).take (l.length + 1)) ((ones (l.map (D.int .u8)) ++ ones [.int .u8 77]).drop (l.length + 1)) 1 = bD (l ++ [77]) := by
    rw [List.take_of_length_le (by simp), List.drop_of_length_le (by simp)]
    simp [extD, bD, ones]
  rw [e2, bD_at (i := l.length) (b := 77) (by simp), oD, lsE, List.getElem?_cons_zero, oD, biEq, oD, pdB, oD]
  exact FinD.pure
theorem kit_LentInstr_ok {y : In} (hl : y.arms.length < 2 ^ 30) : Pure Try.prog E w0 f_kit_LentInstr [inD y] (inX y) := fun x S => by
  refine V_kit_LentInstr_ok ?_
  unfold V_kit_LentInstr
  rw [inD, clA, oD]
  intro k a n
  intro k2 a2 n2
  obtain ⟨ne2, n2'⟩ := DSt.fresh n2
  have l0 : ∀ {S' : DSt}, (S.set k ⟨(inC y).length, [inC y], a⟩).le S' → ∀ i, loadSc S' (.ptr k i) = (inC y)[i]? := fun h i => ldP (h _ _ (DSt.set_same _ _ _))
  have hle := DSt.le_new (o := ⟨[D.int .u8 0, .int .i64 0, .int .i64 0, .nilSlc].length, [[D.int .u8 0, .int .i64 0, .int .i64 0, .nilSlc]], a2⟩) n2
  simp only [ofP, oD, l0 hle, show (inC y)[0 + 0]? = some (.int .u8 y.op) from rfl, show (inC y)[0 + 1]? = some (.int .i64 y.a) from rfl, show (inC y)[0 + 2]? = some (.int .i64 y.b) from rfl]
  rw [show aggD (fillD [(.int .u8 0), (.int .i64 0), (.int .i64 0), .nilSlc] [(0, 1, .int .u8 y.op), (1, 1, .int .i64 y.a), (2, 1, .int .i64 y.b)]) = some (.agg [.int .u8 y.op, .int .i64 y.a, .int .i64 y.b, .nilSlc]) from rfl, oD]
  intro k3 a3 n3
  obtain ⟨ne3, n3'⟩ := DSt.fresh n3
  obtain ⟨ne3', n3''⟩ := DSt.fresh n3'
  refine stP (ds := [.int .u8 y.op, .int .i64 y.a, .int .i64 y.b, .nilSlc]) (DSt.set_same _ _ _) (clA _) ⟨rfl, by decide, by simp⟩ fun a3 => ?_
  rw [DSt.set_set]
  generalize hS3 : ((S.set k _).set k2 _).set k3 _ = S3
  have h3 : S3 k3 = some ⟨4, [[.int .u8 y.op, .int .i64 y.a, .int .i64 y.b, .nilSlc]], a3⟩ := by rw [← hS3]; exact DSt.set_same _ _ _
  have h2 : S3 k2 = some ⟨4, [[.int .u8 0, .int .i64 0, .int .i64 0, .nilSlc]], a2⟩ := by rw [← hS3, DSt.set_ne _ _ _ (Ne.symm ne3)]; exact DSt.set_same _ _ _
  have h0 : S3 k = some ⟨(inC y).length, [inC y], a⟩ := by rw [← hS3, DSt.set_ne _ _ _ (Ne.symm ne3'), DSt.set_ne _ _ _ (Ne.symm ne2)]; exact DSt.set_same _ _ _
  have hle : S.le S3 := by rw [← hS3]; exact DSt.le_set (DSt.le_set (DSt.le_new n) n2') n3''
  simp only [ofP, oD, ldP h3, ldP h0, show (inC y)[0 + 3]? = some (armD y.arms) from rfl, List.getElem?_cons_succ, List.getElem?_cons_zero, Nat.zero_add]
  refine (Grw.nil S3 2).push (armD_rows _ _) (by simp; omega) fun t S4 g => ?_
  have h34 : S4 k3 = some ⟨4, [[.int .u8 y.op, .int .i64 y.a, .int .i64 y.b, .nilSlc]], a3⟩ := g.le _ _ h3
  have hc4 : cellsD t = some [t] := by rcases g with ⟨rfl, _⟩ | ⟨_, _, _, rfl, _⟩ <;> rfl
  refine stP (ds := [t]) h34 hc4 ⟨rfl, by decide, by simp⟩ fun a4 => ?_
  have g := g.upd (o := ⟨4, [setManyD [.int .u8 y.op, .int .i64 y.a, .int .i64 y.b, .nilSlc] 3 [t]], a4⟩) h3
  have e4 : setManyD [.int .u8 y.op, .int .i64 y.a, .int .i64 y.b, .nilSlc] 3 [t] = [.int .u8 y.op, .int .i64 y.a, .int .i64 y.b, t] := rfl
  rw [e4] at g ⊢
  rw [ldP (DSt.set_same _ _ _), show ([.int .u8 y.op, .int .i64 y.a, .int .i64 y.b, t] : List D)[3]? = some t from rfl, oD]
  rw [show aggD (fillD [(.int .i64 0), (.int .i64 0)] [(0, 1, (.int .i64 77))]) = some (.agg (armR (77, 0))) from rfl, oD, show fillR 2 (List.replicate 1 [(.int .i64 0), (.int .i64 0)]) [(0, .agg (armR (77, 0)))] = some [armR (77, 0)] from rfl]
  refine lit_lst rfl ?_
  refine g.last (news := [armR (77, 0)]) rfl (by simp) (by simp; omega) ?_
  refine stP (ds := [.lst ([] ++ y.arms.map armR ++ [armR (77, 0)]) 2]) (DSt.set_same _ _ _) (clL _ _) ⟨rfl, by decide, by simp⟩ fun a5 => ?_
  rw [DSt.set_set, ldP (DSt.set_same _ _ _)]
  rw [show (setManyD [.int .u8 y.op, .int .i64 y.a, .int .i64 y.b, t] 3 [D.lst ([] ++ y.arms.map armR ++ [armR (77, 0)]) 2])[3]? = some (D.lst ([] ++ y.arms.map armR ++ [armR (77, 0)]) 2) from rfl, oD]
  have nk3 : k ≠ k3 := Ne.symm ne3'
  have nk2 : k2 ≠ k3 := Ne.symm ne3
  rw [ldP (by rw [DSt.set_ne _ _ _ nk3]; exact h0), show (inC y)[3]? = some (armD y.arms) from rfl, oD, armD_len, oD, List.nil_append, slcL (by simp), oD, List.take_left' (by simp), List.drop_left' (by simp)]
  refine stP (ds := [armX y.arms]) (DSt.set_same _ _ _) (clE _ _ _) ⟨rfl, by decide, by simp [setManyD]⟩ fun a6 => ?_
  rw [DSt.set_set, laP (DSt.set_same _ _ _) (by simp [setManyD]), oD]
  refine stP (ds := [.int .u8 y.op, .int .i64 y.a, .int .i64 y.b, armX y.arms]) (by rw [DSt.set_ne _ _ _ nk2]; exact h2) (clA _) ⟨rfl, by decide, by simp⟩ fun a7 => ?_
  rw [laP (DSt.set_same _ _ _) (by simp [setManyD]), oD]
  refine FinD.less (S' := S) ?_ FinD.pure
  intro j o e
  have z : ∀ {i : Nat}, S i = none → j ≠ i := fun h e' => by rw [e', h] at e; cases e
  rw [DSt.set_ne _ _ _ (z n2'), DSt.set_ne _ _ _ (z n3'')]
  exact hle _ _ e
theorem kit_SameInstr_ok {y z : In} (hy : y.Ok) (hz : z.Ok) : Pure Try.prog E w0 f_kit_SameInstr [inD y, inD z] (.bool (sameIn y z)) := fun x S => by
  refine V_kit_SameInstr_ok ?_
  unfold V_kit_SameInstr
  rw [inD, clA, oD]
  intro k a n
  rw [inD, clA, oD]
  intro k2 a2 n2
  obtain ⟨ne2, n2'⟩ := DSt.fresh n2
  generalize hS3 : (S.set k _).set k2 _ = S3
  have h2 : S3 k2 = some ⟨4, [inC z], a2⟩ := by rw [← hS3]; exact DSt.set_same _ _ _
  have h0 : S3 k = some ⟨4, [inC y], a⟩ := by rw [← hS3, DSt.set_ne _ _ _ (Ne.symm ne2)]; exact DSt.set_same _ _ _
  have hle : S.le S3 := by rw [← hS3]; exact DSt.le_set (DSt.le_new n) n2'
  have hsh := hy.short
  have hsz := hz.short
  simp only [ofP, oD, ldP h2, ldP h0, Nat.zero_add, show ∀ y : In, (inC y)[0]? = some (.int .u8 y.op) from fun _ => rfl, show ∀ y : In, (inC y)[1]? = some (.int .i64 y.a) from fun _ => rfl, show ∀ y : In, (inC y)[2]? = some (.int .i64 y.b) from fun _ => rfl, show ∀ y : In, (inC y)[3]? = some (armD y.arms) from fun _ => rfl, armD_len, biNe, wdB]
  have fin : ∀ b : Bool, sameIn y z = b → FinD E (fun d' S' => d' = D.bool (sameIn y z) ∧ S' = S) (.bool b) S3 := fun b h => by rw [h]; exact FinD.less hle FinD.pure
  have t1 : (true == false) = false := rfl
  have t2 : (false == false) = true := rfl
  have go : ∀ {p q : Bool} {K : D → Prop}, K (.bool (p || q)) → optW (pickD (.bool p) (.bool true) (.bool q)) K := by
    intro p q K h
    cases p <;> simpa using h
  have hx : ∀ y : In, (inC y)[0]? = some (.int .u8 y.op) ∧ (inC y)[1]? = some (.int .i64 y.a) ∧ (inC y)[2]? = some (.int .i64 y.b) ∧ (inC y)[3]? = some (armD y.arms) := fun _ => ⟨rfl, rfl, rfl, rfl⟩
  by_cases c1 : y.op = z.op
  · rw [show (y.op != z.op) = false by simp [c1]]
    simp only [t2, vdT, oD, ldP h2, ldP h0, (hx y).2.1, (hx z).2.1, biNe, pdB, Bool.false_eq_true, if_false, wdB]
    by_cases c2 : y.a = z.a
    · rw [show (y.a != z.a) = false by simp [c2]]
      simp only [t2, vdT, oD, ldP h2, ldP h0, (hx y).2.2.1, (hx z).2.2.1, biNe, pdB, Bool.false_eq_true, if_false, wdB]
      by_cases c3 : y.b = z.b
      · rw [show (y.b != z.b) = false by simp [c3]]
        simp only [t2, vdT, oD, ldP h2, ldP h0, (hx y).2.2.2, (hx z).2.2.2, armD_len, biNe, pdB, Bool.false_eq_true, if_false, wdB]
        rw [bneD, cdI]
        refine ⟨fun hne => fin false (decide_eq_false fun h => hne (by rw [h.2.2.2])), fun he => ?_⟩
        have he : y.arms.length = z.arms.length := by omega
        refine loop_kit_SameInstr_0 (I := fun n x2 x3 x5 S' => S' = S3 ∧ x2 = .ptr k 0 ∧ x3 = .ptr k2 0 ∧ ∃ i : Nat, x5 = .int .i64 (i : Int) ∧ i + n = y.arms.length ∧ y.arms.take i = z.arms.take i) ?_ (n := y.arms.length) ⟨rfl, rfl, rfl, 0, rfl, by omega, rfl⟩
        rintro n _ _ _ _ ⟨rfl, rfl, rfl, i, rfl, hi, ht⟩
        unfold B_kit_SameInstr_0
        simp only [ofP, oD, ldP h2, ldP h0, Nat.zero_add, (hx y).2.2.2, (hx z).2.2.2, armD_len, biLt]
        rw [cdI]
        refine ⟨fun hlt => ?_, fun hge => ?_⟩
        · have hlt : i < y.arms.length := by omega
          have ea : y.arms[i]? = some y.arms[i] := List.getElem?_eq_getElem hlt
          have eb : z.arms[i]? = some z.arms[i] := List.getElem?_eq_getElem (by omega)
          have hag : ∀ (S : DSt) (p : Int × Int), loadAg S 2 (.elt (armR p) 0) = some (.agg (armR p)) := fun _ _ => rfl
          simp only [armD_at ea, armD_at eb, oD, hag, eqArm, eqN]
          refine ⟨by trivial, by trivial, by trivial, by trivial, ?_⟩
          rw [← decide_not, cdI]
          refine ⟨fun hne => fin false (decide_eq_false fun h => hne (by simp only [h.2.2.2])), fun he => ?_⟩
          rw [biAdd, oD, wrap_i64 (by omega) (by omega)]
          refine ⟨n - 1, by omega, by trivial, by trivial, by trivial, i + 1, rfl, by omega, ?_⟩
          rw [List.take_add_one, List.take_add_one, ht, ea, eb, Classical.not_not.1 he]
        · rw [List.take_of_length_le (by omega), List.take_of_length_le (by omega)] at ht
          exact fin true (decide_eq_true ⟨c1, c2, c3, ht⟩)
      · rw [show (y.b != z.b) = true by simp [c3]]
        simp only [t1, vdF, oD, pdB, if_true, wdB, cdT]
        exact fin false (decide_eq_false fun h => c3 h.2.2.1)
    · rw [show (y.a != z.a) = true by simp [c2]]
      simp only [t1, vdF, oD, pdB, if_true, wdB, cdT]
      exact fin false (decide_eq_false fun h => c2 h.2.1)
  · rw [show (y.op != z.op) = true by simp [c1]]
    simp only [t1, vdF, oD, pdB, if_true, wdB, cdT]
    exact fin false (decide_eq_false fun h => c1 h.1)
theorem kit_KeptInstr_ok {y : In} (hy : y.Ok) : Pure Try.prog E w0 f_kit_KeptInstr [inX y, inD y] (.bool true) := fun x S => by
  refine V_kit_KeptInstr_ok ?_
  unfold V_kit_KeptInstr
  rw [inX, clA, oD]
  intro k a n
  rw [inD, clA, oD]
  intro k2 a2 n2
  obtain ⟨ne2, n2'⟩ := DSt.fresh n2
  generalize hS3 : (S.set k _).set k2 _ = S3
  have h2 : S3 k2 = some ⟨4, [inC y], a2⟩ := by rw [← hS3]; exact DSt.set_same _ _ _
  have h0 : S3 k = some ⟨4, [[.int .u8 y.op, .int .i64 y.a, .int .i64 y.b, armX y.arms]], a⟩ := by rw [← hS3, DSt.set_ne _ _ _ (Ne.symm ne2)]; exact DSt.set_same _ _ _
  have hle : S.le S3 := by rw [← hS3]; exact DSt.le_set (DSt.le_new n) n2'
  have hsh := hy.short
  rw [laP h0 (by simp), oD, laP h2 (by simp [inC]), oD]
  refine ⟨by trivial, by trivial, ?_⟩
  refine DF.weak (es := [inD y, inD y]) ⟨inX_wk y, Wk.refl _, trivial⟩ ((kit_SameInstr_ok hy hy).useX ⟨by trivial, ?_⟩)
  rw [sameIn_refl]
  simp only [wdB, beq_self_eq_true, vdT, ofP, oD, ldP h2, ldP h0, Nat.zero_add, show (inC y)[3]? = some (armD y.arms) from rfl, List.getElem?_cons_succ, List.getElem?_cons_zero, armD_len, biAdd]
  refine ⟨by trivial, by trivial, by trivial, ?_⟩
  rw [wrap_i64 (by omega) (by omega), show ((y.arms.length : Int) + 1) = ((y.arms.length + 1 : Nat) : Int) by omega, armX, slcE (by simp), oD]
  have e2 : extD ((y.arms.map armR ++ [armR (77, 0)]).take (y.arms.length + 1)) ((y.arms.map armR ++ [armR (77, 0)]).drop (y.arms.length + 1)) 2 = armD (y.arms ++ [(77, 0)]) := by
    rw [List.take_of_length_le (by simp), List.drop_of_length_le (by simp)]
    simp [extD, armD]
  rw [e2, armD_at (i := y.arms.length) (y := (77, 0)) (by simp)]
  simp only [oD, ofE, lsE, Nat.zero_add, show (armR (77, 0))[0]? = some (.int .i64 77) from rfl, biEq, beq_self_eq_true, pdB, if_true]
  refine ⟨by trivial, by trivial, by trivial, by trivial, ?_⟩
  exact FinD.less hle FinD.pure
end
end Go.Proofs.Ytcboaonbfgjmgaa.d
end

section
open Go.Proofs Go Go.Am Go.Op
namespace Go.Proofs.Ytcboaonbfgjmgaa.d
set_option linter.unusedVariables false
set_option linter.unusedSimpArgs false
set_option maxRecDepth 100000
abbrev Tx := List UInt8
structure Ty where
  kind : Int
  name : Tx
  fields : List (Tx × Int)
  elem : Int
  len : Int
  deriving DecidableEq
structure Ro where
  name : Tx
  params : List Int
  results : List Int
  locals : Int
  stack : Int
  code : List Int
  deriving DecidableEq
structure Mo where
  types : List Ty
  texts : List Tx
  funcs : List Ro
  deriving DecidableEq
structure Ty.Ok (t : Ty) : Prop where
  kind : 0 ≤ t.kind ∧ t.kind ≤ 255
  name : t.name.length < 2 ^ 47
  fields : t.fields.length < 2 ^ 47
  names : ∀ f ∈ t.fields, f.1.length < 2 ^ 47 ∧ I64 f.2
  elem : I64 t.elem
  len : I64 t.len
structure Ro.Ok (r : Ro) : Prop where
  name : r.name.length < 2 ^ 47
  params : r.params.length < 2 ^ 47
  results : r.results.length < 2 ^ 47
  ints : ∀ n ∈ r.params ++ r.results, I64 n
  locals : I64 r.locals
  stack : I64 r.stack
  code : r.code.length < 2 ^ 47
  bytes : ∀ b ∈ r.code, Byte b
structure Mo.Ok (m : Mo) : Prop where
  types : m.types.length < 2 ^ 47
  texts : m.texts.length < 2 ^ 47
  funcs : m.funcs.length < 2 ^ 47
  ty : ∀ t ∈ m.types, t.Ok
  tx : ∀ t ∈ m.texts, t.length < 2 ^ 47
  ro : ∀ r ∈ m.funcs, r.Ok
def fldR (f : Tx × Int) : List D := [.str f.1, .int .i64 f.2]
def fldsD (fs : List (Tx × Int)) : D := .lst (fs.map fldR) 2
def tyR (t : Ty) : List D := [.int .u8 t.kind, .str t.name, fldsD t.fields, .int .i64 t.elem, .int .i64 t.len]
def tysD (l : List Ty) : D := .lst (l.map tyR) 5
def txsD (l : List Tx) : D := .lst (ones (l.map D.str)) 1
def roR (r : Ro) : List D := [.str r.name, iD r.params, iD r.results, .int .i64 r.locals, .int .i64 r.stack, bD r.code]
def rosD (l : List Ro) : D := .lst (l.map roR) 6
def moC (m : Mo) : List D := [tysD m.types, txsD m.texts, rosD m.funcs]
def moD (m : Mo) : D := .agg (moC m)
theorem fldsD_at {l : List (Tx × Int)} {i : Nat} {y : Tx × Int} (h : l[i]? = some y) : idxSl 2 (fldsD l) (.int .i64 (i : Int)) = some (.elt (fldR y) 0) := idxL (by rw [List.getElem?_map, h]; rfl)
theorem tysD_at {l : List Ty} {i : Nat} {y : Ty} (h : l[i]? = some y) : idxSl 5 (tysD l) (.int .i64 (i : Int)) = some (.elt (tyR y) 0) := idxL (by rw [List.getElem?_map, h]; rfl)
theorem txsD_at {l : List Tx} {i : Nat} {y : Tx} (h : l[i]? = some y) : idxSl 1 (txsD l) (.int .i64 (i : Int)) = some (.elt [.str y] 0) := idxL (ones_get (by rw [List.getElem?_map, h]; rfl))
theorem rosD_at {l : List Ro} {i : Nat} {y : Ro} (h : l[i]? = some y) : idxSl 6 (rosD l) (.int .i64 (i : Int)) = some (.elt (roR y) 0) := idxL (by rw [List.getElem?_map, h]; rfl)
@[simp] theorem fldsD_len (l : List (Tx × Int)) : lenSl (fldsD l) = some (.int .i64 l.length) := by simp [fldsD]
@[simp] theorem tysD_len (l : List Ty) : lenSl (tysD l) = some (.int .i64 l.length) := by simp [tysD]
@[simp] theorem txsD_len (l : List Tx) : lenSl (txsD l) = some (.int .i64 l.length) := by simp [txsD]
@[simp] theorem rosD_len (l : List Ro) : lenSl (rosD l) = some (.int .i64 l.length) := by simp [rosD]
@[simp] theorem laFld (S : DSt) (p : Tx × Int) : loadAg S 2 (.elt (fldR p) 0) = some (.agg (fldR p)) := (rfl)
@[simp] theorem laTy (S : DSt) (p : Ty) : loadAg S 5 (.elt (tyR p) 0) = some (.agg (tyR p)) := (rfl)
@[simp] theorem laRo (S : DSt) (p : Ro) : loadAg S 6 (.elt (roR p) 0) = some (.agg (roR p)) := (rfl)
theorem beqT (a b : Tx) : (a == b) = decide (a = b) := by by_cases h : a = b <;> simp [h]
theorem eqFldD (p q : Tx × Int) : eqAg Try.prog t_api_Field (.agg (fldR p)) (.agg (fldR q)) = some (decide (p = q)) := by
  have h : eqAg Try.prog t_api_Field (.agg (fldR p)) (.agg (fldR q)) = andO (some (p.1 == q.1)) (andO (some (p.2 == q.2)) (some true)) := by kernel_rfl
  rw [h, andO_b, andO_b, Bool.and_true]
  congr 1
  rw [beqD, beqT, ← Bool.decide_and]
  congr 1
  rw [Prod.ext_iff]
theorem strB_inj : ∀ {a b : List Int}, (∀ x ∈ a, Byte x) → (∀ x ∈ b, Byte x) → strB a = strB b → a = b
  | [], [], _, _, _ => rfl
  | [], _ :: _, _, _, h => by simp [strB] at h
  | _ :: _, [], _, _, h => by simp [strB] at h
  | x :: a, y :: b, ha, hb, h => by
    simp only [strB, List.map_cons, List.cons.injEq] at h
    obtain ⟨h1, h2⟩ := h
    have hx := ha x List.mem_cons_self
    have hy := hb y List.mem_cons_self
    have e := congrArg UInt8.toNat h1
    obtain ⟨x0, x1⟩ := hx
    obtain ⟨y0, y1⟩ := hy
    simp only [UInt8.toNat_ofNat'] at e
    have hxy : x = y := by omega
    rw [hxy, strB_inj (fun z hz => ha z (List.mem_cons_of_mem _ hz)) (fun z hz => hb z (List.mem_cons_of_mem _ hz)) h2]
section
variable {E : Env} {w0 : World}
theorem t1 : (true == false) = false := rfl
theorem t2 : (false == false) = true := rfl
theorem t3 : (false == true) = false := rfl
theorem t4 : (true == true) = true := rfl
theorem kit_SameFields_ok {a b : List (Tx × Int)} (hl : a.length < 2 ^ 60) (hb : b.length < 2 ^ 60) : Pure Try.prog E w0 f_kit_SameFields [fldsD a, fldsD b] (.bool (decide (a = b))) := fun x S => by
  refine V_kit_SameFields_ok ?_
  unfold V_kit_SameFields
  simp only [fldsD_len, oD, biNe]
  rw [bneD, cdI]
  refine ⟨fun h => ?_, fun h => ?_⟩
  · rw [decide_eq_false (fun e => h (by rw [e]))]
    exact FinD.pure
  have h : a.length = b.length := by omega
  refine loop_kit_SameFields_0 (I := fun n x0 x1 x5 S' => S' = S ∧ x0 = fldsD a ∧ x1 = fldsD b ∧ ∃ i : Nat, x5 = .int .i64 (i : Int) ∧ i + n = a.length ∧ a.take i = b.take i) ?_ (n := a.length) ⟨rfl, rfl, rfl, 0, rfl, by omega, rfl⟩
  rintro n _ _ _ _ ⟨rfl, rfl, rfl, i, rfl, hi, ht⟩
  unfold B_kit_SameFields_0
  simp only [fldsD_len, oD, biLt]
  rw [cdI]
  refine ⟨fun hlt => ?_, fun hge => ?_⟩
  · have hlt : i < a.length := by omega
    have ea : a[i]? = some a[i] := List.getElem?_eq_getElem hlt
    have eb : b[i]? = some b[i] := List.getElem?_eq_getElem (by omega)
    simp only [fldsD_at ea, fldsD_at eb, oD, laFld, eqFldD, eqN]
    refine ⟨by trivial, by trivial, ?_⟩
    rw [← decide_not, cdI]
    refine ⟨fun hne => ?_, fun he => ?_⟩
    · rw [decide_eq_false (fun e => hne (by simp only [e]))]
      exact FinD.pure
    · rw [biAdd, oD, wrap_i64 (by omega) (by omega)]
      refine ⟨n - 1, by omega, by trivial, by trivial, by trivial, i + 1, rfl, by omega, ?_⟩
      rw [List.take_add_one, List.take_add_one, ht, ea, eb, Classical.not_not.1 he]
  · rw [List.take_of_length_le (by omega), List.take_of_length_le (by omega)] at ht
    rw [decide_eq_true ht]
    exact FinD.pure
theorem kit_SameType_ok {y z : Ty} (hy : y.Ok) (hz : z.Ok) : Pure Try.prog E w0 f_kit_SameType [.agg (tyR y), .agg (tyR z)] (.bool (decide (y = z))) := fun x S => by
  refine V_kit_SameType_ok ?_
  unfold V_kit_SameType
  rw [clA, oD]
  intro k a n
  rw [clA, oD]
  intro k2 a2 n2
  obtain ⟨ne2, n2'⟩ := DSt.fresh n2
  generalize hS3 : (S.set k _).set k2 _ = S3
  have h2 : S3 k2 = some ⟨5, [tyR z], a2⟩ := by rw [← hS3]; exact DSt.set_same _ _ _
  have h0 : S3 k = some ⟨5, [tyR y], a⟩ := by rw [← hS3, DSt.set_ne _ _ _ (Ne.symm ne2)]; exact DSt.set_same _ _ _
  have hle : S.le S3 := by rw [← hS3]; exact DSt.le_set (DSt.le_new n) n2'
  have hx : ∀ y : Ty, (tyR y)[0]? = some (.int .u8 y.kind) ∧ (tyR y)[1]? = some (.str y.name) ∧ (tyR y)[2]? = some (fldsD y.fields) ∧ (tyR y)[3]? = some (.int .i64 y.elem) ∧ (tyR y)[4]? = some (.int .i64 y.len) := fun _ => ⟨rfl, rfl, rfl, rfl, rfl⟩
  have fin : ∀ b : Bool, decide (y = z) = b → FinD E (fun d' S' => d' = D.bool (decide (y = z)) ∧ S' = S) (.bool b) S3 := fun b h => by rw [h]; exact FinD.less hle FinD.pure
  simp only [ofP, oD, ldP h2, ldP h0, Nat.zero_add, (hx y).1, (hx z).1, biEq]
  rw [beqD]
  by_cases c1 : y.kind = z.kind
  · rw [decide_eq_true c1]
    simp only [wdB, t4, vdT, oD, ldP h2, ldP h0, (hx y).2.1, (hx z).2.1, bsEq, pdB, if_true]
    rw [beqT]
    by_cases c2 : y.name = z.name
    · rw [decide_eq_true c2]
      simp only [wdB, t4, vdT, oD, ldP h2, ldP h0, (hx y).2.2.2.1, (hx z).2.2.2.1, biEq, pdB, if_true]
      rw [beqD]
      by_cases c3 : y.elem = z.elem
      · rw [decide_eq_true c3]
        simp only [wdB, t4, vdT, oD, ldP h2, ldP h0, (hx y).2.2.2.2, (hx z).2.2.2.2, biEq, pdB, if_true]
        rw [beqD]
        by_cases c4 : y.len = z.len
        · rw [decide_eq_true c4]
          simp only [wdB, t4, vdT, oD, ldP h2, ldP h0, (hx y).2.2.1, (hx z).2.2.1, gdT]
          have := hy.fields; have := hz.fields
          refine (kit_SameFields_ok (by omega) (by omega)).use ?_
          rw [if_pos trivial]
          refine fin _ ?_
          congr 1
          refine propext ⟨fun e => by rw [e], fun e => ?_⟩
          obtain ⟨y1, y2, y3, y4, y5⟩ := y
          obtain ⟨z1, z2, z3, z4, z5⟩ := z
          simp only at c1 c2 c3 c4 e
          simp only [c1, c2, c3, c4, e]
        · rw [decide_eq_false c4]
          simp only [wdB, t3, vdF, gdF, oD, pdB, Bool.false_eq_true, if_false]
          exact fin false (decide_eq_false fun e => c4 (by rw [e]))
      · rw [decide_eq_false c3]
        simp only [wdB, t3, vdF, gdF, oD, pdB, Bool.false_eq_true, if_false]
        exact fin false (decide_eq_false fun e => c3 (by rw [e]))
    · rw [decide_eq_false c2]
      simp only [wdB, t3, vdF, gdF, oD, pdB, Bool.false_eq_true, if_false]
      exact fin false (decide_eq_false fun e => c2 (by rw [e]))
  · rw [decide_eq_false c1]
    simp only [wdB, t3, vdF, gdF, oD, pdB, Bool.false_eq_true, if_false]
    exact fin false (decide_eq_false fun e => c1 (by rw [e]))
theorem kit_SameRoutine_ok {y z : Ro} (hy : y.Ok) (hz : z.Ok) : Pure Try.prog E w0 f_kit_SameRoutine [.agg (roR y), .agg (roR z)] (.bool (decide (y = z))) := fun x S => by
  refine V_kit_SameRoutine_ok ?_
  unfold V_kit_SameRoutine
  rw [clA, oD]
  intro k a n
  rw [clA, oD]
  intro k2 a2 n2
  obtain ⟨ne2, n2'⟩ := DSt.fresh n2
  generalize hS3 : (S.set k _).set k2 _ = S3
  have h2 : S3 k2 = some ⟨6, [roR z], a2⟩ := by rw [← hS3]; exact DSt.set_same _ _ _
  have h0 : S3 k = some ⟨6, [roR y], a⟩ := by rw [← hS3, DSt.set_ne _ _ _ (Ne.symm ne2)]; exact DSt.set_same _ _ _
  have hle : S.le S3 := by rw [← hS3]; exact DSt.le_set (DSt.le_new n) n2'
  have hx : ∀ y : Ro, (roR y)[0]? = some (.str y.name) ∧ (roR y)[1]? = some (iD y.params) ∧ (roR y)[2]? = some (iD y.results) ∧ (roR y)[3]? = some (.int .i64 y.locals) ∧ (roR y)[4]? = some (.int .i64 y.stack) ∧ (roR y)[5]? = some (bD y.code) := fun _ => ⟨rfl, rfl, rfl, rfl, rfl, rfl⟩
  have fin : ∀ b : Bool, decide (y = z) = b → FinD E (fun d' S' => d' = D.bool (decide (y = z)) ∧ S' = S) (.bool b) S3 := fun b h => by rw [h]; exact FinD.less hle FinD.pure
  have hp1 := hy.params; have hp2 := hz.params; have hr1 := hy.results; have hr2 := hz.results
  simp only [ofP, oD, ldP h2, ldP h0, Nat.zero_add, (hx y).1, (hx z).1, bsEq]
  rw [beqT]
  by_cases c1 : y.name = z.name
  · rw [decide_eq_true c1]
    simp only [wdB, t4, vdT, oD, ldP h2, ldP h0, (hx y).2.2.2.1, (hx z).2.2.2.1, biEq, pdB, if_true]
    rw [beqD]
    by_cases c2 : y.locals = z.locals
    · rw [decide_eq_true c2]
      simp only [wdB, t4, vdT, oD, ldP h2, ldP h0, (hx y).2.2.2.2.1, (hx z).2.2.2.2.1, biEq, pdB, if_true]
      rw [beqD]
      by_cases c3 : y.stack = z.stack
      · rw [decide_eq_true c3]
        simp only [wdB, t4, vdT, oD, ldP h2, ldP h0, (hx y).2.1, (hx z).2.1, gdT, pdB, if_true]
        refine (kit_SameInts_ok (by omega) (by omega)).use ?_
        by_cases c4 : y.params = z.params
        · rw [decide_eq_true c4]
          simp only [wdB, t4, vdT, oD, ldP h2, ldP h0, (hx y).2.2.1, (hx z).2.2.1, gdT, pdB, if_true]
          refine (kit_SameInts_ok (by omega) (by omega)).use ?_
          by_cases c5 : y.results = z.results
          · rw [decide_eq_true c5]
            simp only [wdB, t4, vdT, oD, ldP h2, ldP h0, (hx y).2.2.2.2.2, (hx z).2.2.2.2.2, convB, bsEq, pdB, if_true]
            rw [beqT]
            refine fin _ ?_
            congr 1
            refine propext ⟨fun e => by rw [e], fun e => ?_⟩
            have e := strB_inj hy.bytes hz.bytes e
            obtain ⟨y1, y2, y3, y4, y5, y6⟩ := y
            obtain ⟨z1, z2, z3, z4, z5, z6⟩ := z
            simp only at c1 c2 c3 c4 c5 e
            simp only [c1, c2, c3, c4, c5, e]
          · rw [decide_eq_false c5]
            simp only [wdB, t3, vdF, gdF, oD, pdB, Bool.false_eq_true, if_false]
            exact fin false (decide_eq_false fun e => c5 (by rw [e]))
        · rw [decide_eq_false c4]
          simp only [wdB, t3, vdF, gdF, oD, pdB, Bool.false_eq_true, if_false]
          exact fin false (decide_eq_false fun e => c4 (by rw [e]))
      · rw [decide_eq_false c3]
        simp only [wdB, t3, vdF, gdF, oD, pdB, Bool.false_eq_true, if_false]
        exact fin false (decide_eq_false fun e => c3 (by rw [e]))
    · rw [decide_eq_false c2]
      simp only [wdB, t3, vdF, gdF, oD, pdB, Bool.false_eq_true, if_false]
      exact fin false (decide_eq_false fun e => c2 (by rw [e]))
  · rw [decide_eq_false c1]
    simp only [wdB, t3, vdF, gdF, oD, pdB, Bool.false_eq_true, if_false]
    exact fin false (decide_eq_false fun e => c1 (by rw [e]))
end
end Go.Proofs.Ytcboaonbfgjmgaa.d
end

section
open Go.Proofs Go Go.Am Go.Op
namespace Go.Proofs.Ytcboaonbfgjmgaa.d
set_option linter.unusedVariables false
set_option linter.unusedSimpArgs false
set_option maxRecDepth 100000
section
variable {E : Env} {w0 : World}
theorem moC_at (m : Mo) : (moC m)[0]? = some (tysD m.types) ∧ (moC m)[1]? = some (txsD m.texts) ∧ (moC m)[2]? = some (rosD m.funcs) := ⟨rfl, rfl, rfl⟩
theorem kit_SameModule_ok {a b : Mo} (ha : a.Ok) (hb : b.Ok) : Pure Try.prog E w0 f_kit_SameModule [moD a, moD b] (.bool (decide (a = b))) := fun x S => by
  refine V_kit_SameModule_ok ?_
  unfold V_kit_SameModule
  rw [moD, clA, oD]
  intro k c n
  rw [moD, clA, oD]
  intro k2 c2 n2
  obtain ⟨ne2, n2'⟩ := DSt.fresh n2
  generalize hS3 : (S.set k _).set k2 _ = S3
  have h2 : S3 k2 = some ⟨3, [moC b], c2⟩ := by rw [← hS3]; exact DSt.set_same _ _ _
  have h0 : S3 k = some ⟨3, [moC a], c⟩ := by rw [← hS3, DSt.set_ne _ _ _ (Ne.symm ne2)]; exact DSt.set_same _ _ _
  have hle : S.le S3 := by rw [← hS3]; exact DSt.le_set (DSt.le_new n) n2'
  have fin : ∀ v : Bool, decide (a = b) = v → FinD E (fun d' S' => d' = D.bool (decide (a = b)) ∧ S' = S) (.bool v) S3 := fun v h => by rw [h]; exact FinD.less hle FinD.pure
  obtain ⟨xa0, xa1, xa2⟩ := moC_at a
  obtain ⟨xb0, xb1, xb2⟩ := moC_at b
  have := ha.types; have := hb.types; have := ha.texts; have := hb.texts; have := ha.funcs; have := hb.funcs
  simp only [ofP, oD, ldP h2, ldP h0, Nat.zero_add, xa0, xb0, tysD_len, biNe]
  rw [bneD]
  by_cases e0 : a.types.length = b.types.length
  · rw [decide_eq_false (show ¬ ((a.types.length : Int) ≠ b.types.length) by omega)]
    simp only [wdB, t2, vdT, oD, ldP h2, ldP h0, xa1, xb1, txsD_len, biNe, pdB, Bool.false_eq_true, if_false]
    rw [bneD]
    by_cases e1 : a.texts.length = b.texts.length
    · rw [decide_eq_false (show ¬ ((a.texts.length : Int) ≠ b.texts.length) by omega)]
      simp only [wdB, t2, vdT, oD, ldP h2, ldP h0, xa2, xb2, rosD_len, biNe, pdB, Bool.false_eq_true, if_false]
      rw [bneD, cdI]
      refine ⟨fun hne => fin false (decide_eq_false fun h => hne (by rw [h])), fun he => ?_⟩
      have e2 : a.funcs.length = b.funcs.length := by omega
      refine loop_kit_SameModule_0 (I := fun n x2 x3 x5 S' => S3 = S' ∧ x2 = .ptr k 0 ∧ x3 = .ptr k2 0 ∧ ∃ i : Nat, x5 = .int .i64 (i : Int) ∧ i + n = a.types.length ∧ a.types.take i = b.types.take i) ?_ (n := a.types.length) ⟨rfl, rfl, rfl, 0, rfl, by omega, rfl⟩
      rintro n _ _ _ _ ⟨rfl, rfl, rfl, i, rfl, hi, ht⟩
      unfold B_kit_SameModule_0
      simp only [ofP, oD, ldP h2, ldP h0, Nat.zero_add, xa0, xb0, tysD_len, biLt]
      rw [cdI]
      refine ⟨fun hlt => ?_, fun hge => ?_⟩
      · have hlt : i < a.types.length := by omega
        have ea : a.types[i]? = some a.types[i] := List.getElem?_eq_getElem hlt
        have eb : b.types[i]? = some b.types[i] := List.getElem?_eq_getElem (by omega)
        simp only [tysD_at ea, tysD_at eb, oD, laTy]
        refine ⟨by trivial, by trivial, by trivial, by trivial, (kit_SameType_ok (ha.ty _ (List.getElem_mem _)) (hb.ty _ (List.getElem_mem _))).useX ⟨by trivial, ?_⟩⟩
        rw [unN, oD, ← decide_not, cdI]
        refine ⟨fun hne => fin false (decide_eq_false fun h => hne (by simp only [h])), fun he => ?_⟩
        rw [biAdd, oD, wrap_i64 (by omega) (by omega)]
        refine ⟨n - 1, by omega, by trivial, by trivial, by trivial, i + 1, rfl, by omega, ?_⟩
        rw [List.take_add_one, List.take_add_one, ht, ea, eb, Classical.not_not.1 he]
      · rw [List.take_of_length_le (by omega), List.take_of_length_le (by omega)] at ht
        refine loop_kit_SameModule_1 (I := fun n x2 x3 x5 S' => S3 = S' ∧ x2 = .ptr k 0 ∧ x3 = .ptr k2 0 ∧ ∃ i : Nat, x5 = .int .i64 (i : Int) ∧ i + n = a.texts.length ∧ a.texts.take i = b.texts.take i) ?_ (n := a.texts.length) ⟨rfl, rfl, rfl, 0, rfl, by omega, rfl⟩
        clear hi hge
        rintro n _ _ _ _ ⟨rfl, rfl, rfl, i, rfl, hi, ht1⟩
        unfold B_kit_SameModule_1
        simp only [ofP, oD, ldP h2, ldP h0, Nat.zero_add, xa1, xb1, txsD_len, biLt]
        rw [cdI]
        refine ⟨fun hlt => ?_, fun hge => ?_⟩
        · have hlt : i < a.texts.length := by omega
          have ea : a.texts[i]? = some a.texts[i] := List.getElem?_eq_getElem hlt
          have eb : b.texts[i]? = some b.texts[i] := List.getElem?_eq_getElem (by omega)
          simp only [txsD_at ea, txsD_at eb, oD, lsE, List.getElem?_cons_zero, bsNe]
          refine ⟨by trivial, by trivial, by trivial, by trivial, ?_⟩
          rw [beqT, ← decide_not, cdI]
          refine ⟨fun hne => fin false (decide_eq_false fun h => hne (by simp only [h])), fun he => ?_⟩
          rw [biAdd, oD, wrap_i64 (by omega) (by omega)]
          refine ⟨n - 1, by omega, by trivial, by trivial, by trivial, i + 1, rfl, by omega, ?_⟩
          rw [List.take_add_one, List.take_add_one, ht1, ea, eb, Classical.not_not.1 he]
        · rw [List.take_of_length_le (by omega), List.take_of_length_le (by omega)] at ht1
          refine loop_kit_SameModule_2 (I := fun n x2 x3 x5 S' => S3 = S' ∧ x2 = .ptr k 0 ∧ x3 = .ptr k2 0 ∧ ∃ i : Nat, x5 = .int .i64 (i : Int) ∧ i + n = a.funcs.length ∧ a.funcs.take i = b.funcs.take i) ?_ (n := a.funcs.length) ⟨rfl, rfl, rfl, 0, rfl, by omega, rfl⟩
          clear hi hge
          rintro n _ _ _ _ ⟨rfl, rfl, rfl, i, rfl, hi, ht2⟩
          unfold B_kit_SameModule_2
          simp only [ofP, oD, ldP h2, ldP h0, Nat.zero_add, xa2, xb2, rosD_len, biLt]
          rw [cdI]
          refine ⟨fun hlt => ?_, fun hge => ?_⟩
          · have hlt : i < a.funcs.length := by omega
            have ea : a.funcs[i]? = some a.funcs[i] := List.getElem?_eq_getElem hlt
            have eb : b.funcs[i]? = some b.funcs[i] := List.getElem?_eq_getElem (by omega)
            simp only [rosD_at ea, rosD_at eb, oD, laRo]
            refine ⟨by trivial, by trivial, by trivial, by trivial, (kit_SameRoutine_ok (ha.ro _ (List.getElem_mem _)) (hb.ro _ (List.getElem_mem _))).useX ⟨by trivial, ?_⟩⟩
            rw [unN, oD, ← decide_not, cdI]
            refine ⟨fun hne => fin false (decide_eq_false fun h => hne (by simp only [h])), fun he => ?_⟩
            rw [biAdd, oD, wrap_i64 (by omega) (by omega)]
            refine ⟨n - 1, by omega, by trivial, by trivial, by trivial, i + 1, rfl, by omega, ?_⟩
            rw [List.take_add_one, List.take_add_one, ht2, ea, eb, Classical.not_not.1 he]
          · rw [List.take_of_length_le (by omega), List.take_of_length_le (by omega)] at ht2
            refine fin true (decide_eq_true ?_)
            obtain ⟨a1, a2, a3⟩ := a
            obtain ⟨b1, b2, b3⟩ := b
            simp only at ht ht1 ht2
            rw [ht, ht1, ht2]
    · rw [decide_eq_true (show ((a.texts.length : Int) ≠ b.texts.length) by omega)]
      simp only [wdB, t1, vdF, oD, pdB, if_true, cdT]
      exact fin false (decide_eq_false fun h => e1 (by rw [h]))
  · rw [decide_eq_true (show ((a.types.length : Int) ≠ b.types.length) by omega)]
    simp only [wdB, t1, vdF, oD, pdB, if_true, cdT]
    exact fin false (decide_eq_false fun h => e0 (by rw [h]))
theorem whileAnd {b : Bool} {s N : Int} {K : D → Prop} (h : K (.bool (b && decide (s ≤ N)))) : optW (valGD (wantsD (.bool b) true) (some (.int .i64 s))) fun v17 => optW (valGD (wantsD (.bool b) true) (some (.int .i64 N))) fun v18 => optW (valGD (wantsD (.bool b) true) (binI .leq v17 v18)) fun v19 => optW (pickD (.bool b) v19 (.bool false)) fun v20 => K v20 := by
  cases b <;> simpa using h
/-- What a module has at most. -/
structure Mo.Small (m : Mo) (N : Nat) : Prop where
  types : m.types.length ≤ N
  texts : m.texts.length ≤ N
  funcs : m.funcs.length ≤ N
  fields : ∀ t ∈ m.types, t.fields.length ≤ N
  params : ∀ r ∈ m.funcs, r.params.length ≤ N ∧ r.results.length ≤ N ∧ r.code.length ≤ N
theorem kit_Bulk_ok {m : Mo} (hm : m.Ok) {N : Nat} (hN : N < 2 ^ 40) {x : Bool} {S : DSt} : DFn Try.prog E w0 x f_kit_Bulk [moD m, .int .i64 (N : Int)] S fun d S' => S' = S ∧ ∃ b : Int, d = .int .i64 b ∧ (b ≤ N → m.Small N) := by
  refine V_kit_Bulk_ok ?_
  unfold V_kit_Bulk
  rw [moD, clA, oD]
  intro k c n
  have h0 : (S.set k ⟨3, [moC m], c⟩) k = some ⟨3, [moC m], c⟩ := DSt.set_same _ _ _
  have hle : S.le (S.set k ⟨3, [moC m], c⟩) := DSt.le_new n
  have e3 : (moC m).length = 3 := rfl
  rw [e3]
  generalize S.set k ⟨3, [moC m], c⟩ = S3 at h0 hle ⊢
  obtain ⟨xa0, xa1, xa2⟩ := moC_at m
  have := hm.types; have := hm.texts; have := hm.funcs
  simp only [ofP, oD, ldP h0, Nat.zero_add, xa0, xa1, xa2, tysD_len, txsD_len, rosD_len, biAdd]
  rw [show IntKind.i64.wrap ((m.types.length : Int) + m.texts.length) = _ from wrap_i64 (by omega) (by omega), show IntKind.i64.wrap ((m.types.length : Int) + m.texts.length + m.funcs.length) = _ from wrap_i64 (by omega) (by omega)]
  refine loop_kit_Bulk_0 (I := fun n x1 x2 x5 x6 S' => S3 = S' ∧ x1 = .int .i64 (N : Int) ∧ x2 = .ptr k 0 ∧ ∃ (i : Nat) (s : Int), x6 = .int .i64 (i : Int) ∧ x5 = .int .i64 s ∧ i + n = m.types.length ∧ m.types.length ≤ s ∧ m.texts.length ≤ s ∧ m.funcs.length ≤ s ∧ s < 2 ^ 50 ∧ ∀ t ∈ m.types.take i, (t.fields.length : Int) ≤ s) ?_ (n := m.types.length)
    ⟨rfl, rfl, rfl, 0, _, rfl, rfl, by omega, by omega, by omega, by omega, by omega, by simp⟩
  rintro n _ _ _ _ _ ⟨rfl, rfl, rfl, i, s, rfl, rfl, hi, s1, s2, s3, s4, hs⟩
  unfold B_kit_Bulk_0
  simp only [ofP, oD, ldP h0, Nat.zero_add, xa0, tysD_len, biLt]
  refine whileAnd ?_
  rw [← Bool.decide_and, cdI]
  refine ⟨fun ⟨hlt, hsN⟩ => ?_, fun hge => ?_⟩
  · have hlt : i < m.types.length := by omega
    obtain ⟨t, ht⟩ : ∃ t, t = m.types[i] := ⟨_, rfl⟩
    have ea : m.types[i]? = some t := by rw [List.getElem?_eq_getElem hlt, ht]
    have htk := hm.ty t (by rw [ht]; exact List.getElem_mem _)
    have l1 := htk.name
    have l2 := htk.fields
    simp only [tysD_at ea, oD, ofE, lsE, show (tyR t)[0 + 1]? = some (.str t.name) from rfl, show (tyR t)[0 + 2]? = some (fldsD t.fields) from rfl, show (tyR t)[1]? = some (.str t.name) from rfl, show (tyR t)[2]? = some (fldsD t.fields) from rfl, Nat.zero_add, lnS, fldsD_len, biAdd]
    refine ⟨by trivial, by trivial, by trivial, by trivial, by trivial, by trivial, ?_⟩
    rw [show IntKind.i64.wrap (s + t.name.length) = _ from wrap_i64 (by omega) (by omega), show IntKind.i64.wrap (s + t.name.length + t.fields.length) = _ from wrap_i64 (by omega) (by omega)]
    refine loop_kit_Bulk_1 (I := fun n' x1 x2 x5 x6 x7 S' => S3 = S' ∧ x1 = .int .i64 (N : Int) ∧ x2 = .ptr k 0 ∧ x6 = .int .i64 (i : Int) ∧ ∃ (j : Nat) (q : Int), x7 = .int .i64 (j : Int) ∧ x5 = .int .i64 q ∧ j + n' = t.fields.length ∧ s ≤ q ∧ t.fields.length ≤ q ∧ q < 2 ^ 50) ?_ (n := t.fields.length)
      ⟨rfl, rfl, rfl, rfl, 0, _, rfl, rfl, by omega, by omega, by omega, by omega⟩
    rintro n' _ _ _ _ _ _ ⟨rfl, rfl, rfl, rfl, j, q, rfl, rfl, hj, q1, q2, q3⟩
    unfold B_kit_Bulk_1
    simp only [ofP, oD, ldP h0, Nat.zero_add, xa0, tysD_at ea, ofE, lsE, show (tyR t)[2]? = some (fldsD t.fields) from rfl, fldsD_len, biLt]
    refine whileAnd ?_
    rw [← Bool.decide_and, cdI]
    refine ⟨fun ⟨hlt', hqN⟩ => ?_, fun hge => ?_⟩
    · have hlt' : j < t.fields.length := by omega
      obtain ⟨f, hf⟩ : ∃ f, f = t.fields[j] := ⟨_, rfl⟩
      have eb : t.fields[j]? = some f := by rw [List.getElem?_eq_getElem hlt', hf]
      have l3 := (htk.names f (by rw [hf]; exact List.getElem_mem _)).1
      simp only [fldsD_at eb, oD, ofE, lsE, Nat.zero_add, show (fldR f)[0]? = some (.str f.1) from rfl, lnS, biAdd]
      rw [show IntKind.i64.wrap (q + f.1.length) = _ from wrap_i64 (by omega) (by omega), show IntKind.i64.wrap ((j : Int) + 1) = _ from wrap_i64 (by omega) (by omega)]
      exact ⟨n' - 1, by omega, by trivial, by trivial, by trivial, by trivial, j + 1, _, rfl, rfl, by omega, by omega, by omega, by omega⟩
    · rw [biAdd, oD, wrap_i64 (by omega) (by omega)]
      refine ⟨n - 1, by omega, by trivial, by trivial, by trivial, i + 1, q, rfl, rfl, by omega, by omega, by omega, by omega, by omega, fun t' ht' => ?_⟩
      rw [List.take_add_one, ea, Option.toList_some] at ht'
      rcases List.mem_append.1 ht' with h | h
      · have := hs t' h; omega
      · rw [List.mem_singleton.1 h]; exact q2
  have hs : s ≤ N → ∀ t ∈ m.types, (t.fields.length : Int) ≤ s := fun h => by
    have : i = m.types.length := by
      by_cases c : i < m.types.length
      · exact (hge ⟨by omega, h⟩).elim
      · omega
    rw [this, List.take_length] at hs
    exact hs
  clear hge hi
  refine loop_kit_Bulk_2 (I := fun n x1 x2 x5 x6 S' => S3 = S' ∧ x1 = .int .i64 (N : Int) ∧ x2 = .ptr k 0 ∧ ∃ (i : Nat) (q : Int), x6 = .int .i64 (i : Int) ∧ x5 = .int .i64 q ∧ i + n = m.texts.length ∧ s ≤ q ∧ q < 2 ^ 50) ?_ (n := m.texts.length)
    ⟨rfl, rfl, rfl, 0, _, rfl, rfl, by omega, by omega, by omega⟩
  rintro n _ _ _ _ _ ⟨rfl, rfl, rfl, i, q, rfl, rfl, hi, q1, q2⟩
  unfold B_kit_Bulk_2
  simp only [ofP, oD, ldP h0, Nat.zero_add, xa1, txsD_len, biLt]
  refine whileAnd ?_
  rw [← Bool.decide_and, cdI]
  refine ⟨fun ⟨hlt, hsN⟩ => ?_, fun hge => ?_⟩
  · have hlt : i < m.texts.length := by omega
    obtain ⟨t, ht⟩ : ∃ t, t = m.texts[i] := ⟨_, rfl⟩
    have ea : m.texts[i]? = some t := by rw [List.getElem?_eq_getElem hlt, ht]
    have l1 := hm.tx t (by rw [ht]; exact List.getElem_mem _)
    simp only [txsD_at ea, oD, lsE, List.getElem?_cons_zero, lnS, biAdd]
    rw [show IntKind.i64.wrap (q + t.length) = _ from wrap_i64 (by omega) (by omega), show IntKind.i64.wrap ((i : Int) + 1) = _ from wrap_i64 (by omega) (by omega)]
    exact ⟨n - 1, by omega, by trivial, by trivial, by trivial, i + 1, _, rfl, rfl, by omega, by omega, by omega⟩
  clear hge hi
  refine loop_kit_Bulk_3 (I := fun n x1 x2 x5 x6 S' => S3.le S' ∧ x1 = .int .i64 (N : Int) ∧ x2 = .ptr k 0 ∧ ∃ (i : Nat) (p : Int), x6 = .int .i64 (i : Int) ∧ x5 = .int .i64 p ∧ i + n = m.funcs.length ∧ q ≤ p ∧ p < 2 ^ 50 ∧ ∀ r ∈ m.funcs.take i, (r.params.length : Int) ≤ p ∧ r.results.length ≤ p ∧ r.code.length ≤ p) ?_ (n := m.funcs.length)
    ⟨DSt.le_refl _, rfl, rfl, 0, _, rfl, rfl, by omega, by omega, by omega, by simp⟩
  rintro n _ _ _ _ S4 ⟨hle4, rfl, rfl, i, p, rfl, rfl, hi, p1, p2, hp⟩
  have h04 := hle4 _ _ h0
  unfold B_kit_Bulk_3
  simp only [ofP, oD, ldP h04, Nat.zero_add, xa2, rosD_len, biLt]
  refine whileAnd ?_
  rw [← Bool.decide_and, cdI]
  refine ⟨fun ⟨hlt, hsN⟩ => ?_, fun hge => ?_⟩
  · have hlt : i < m.funcs.length := by omega
    obtain ⟨r, hr⟩ : ∃ r, r = m.funcs[i] := ⟨_, rfl⟩
    have ea : m.funcs[i]? = some r := by rw [List.getElem?_eq_getElem hlt, hr]
    have hrk := hm.ro r (by rw [hr]; exact List.getElem_mem _)
    have l1 := hrk.name; have l2 := hrk.params; have l3 := hrk.results; have l4 := hrk.code
    simp only [rosD_at ea, oD, laRo]
    intro k5 a5 n5
    refine stP (ds := roR r) (DSt.set_same _ _ _) (clA _) ⟨rfl, by decide, by simp [roR]⟩ fun a6 => ?_
    rw [DSt.set_set]
    have h5 : ∀ j, loadSc (S4.set k5 ⟨[D.str [], .nilSlc, .nilSlc, .int .i64 0, .int .i64 0, .nilSlc].length, [setManyD [D.str [], .nilSlc, .nilSlc, .int .i64 0, .int .i64 0, .nilSlc] 0 (roR r)], a6⟩) (.ptr k5 j) = (roR r)[j]? := fun j => ldP (DSt.set_same _ _ _)
    simp only [ofP, oD, h5, Nat.zero_add, show (roR r)[0]? = some (.str r.name) from rfl, show (roR r)[1]? = some (iD r.params) from rfl, show (roR r)[2]? = some (iD r.results) from rfl, show (roR r)[5]? = some (bD r.code) from rfl, lnS, iD_len, bD_len, biAdd]
    rw [show IntKind.i64.wrap (p + r.name.length) = _ from wrap_i64 (by omega) (by omega), show IntKind.i64.wrap (p + r.name.length + r.params.length) = _ from wrap_i64 (by omega) (by omega), show IntKind.i64.wrap (p + r.name.length + r.params.length + r.results.length) = _ from wrap_i64 (by omega) (by omega), show IntKind.i64.wrap (p + r.name.length + r.params.length + r.results.length + r.code.length) = _ from wrap_i64 (by omega) (by omega), show IntKind.i64.wrap ((i : Int) + 1) = _ from wrap_i64 (by omega) (by omega)]
    refine ⟨n - 1, by omega, DSt.le_trans hle4 (DSt.le_new n5), by trivial, by trivial, i + 1, _, rfl, rfl, by omega, by omega, by omega, fun r' hr' => ?_⟩
    rw [List.take_add_one, ea, Option.toList_some] at hr'
    rcases List.mem_append.1 hr' with h | h
    · have := hp r' h; omega
    · rw [List.mem_singleton.1 h]; omega
  · refine FinD.less (DSt.le_trans hle hle4) (FinD.here ⟨rfl, p, rfl, fun hpN => ?_⟩)
    have : i = m.funcs.length := by
      by_cases c : i < m.funcs.length
      · exact (hge ⟨by omega, hpN⟩).elim
      · omega
    rw [this, List.take_length] at hp
    exact ⟨by omega, by omega, by omega, fun t ht => by have := hs (by omega) t ht; omega, fun r hr => by have := hp r hr; omega⟩
end
end Go.Proofs.Ytcboaonbfgjmgaa.d
end
