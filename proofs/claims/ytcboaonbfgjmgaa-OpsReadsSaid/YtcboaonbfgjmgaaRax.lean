/-
  Texts Ve Cj Ck Cl, as far as they are used.
-/
import Derived.Test.YtcboaonbfgjmgaaRows
import Derived.Test.YtcboaonbfgjmgaaRau
import Derived.KernelRfl
import Derived.Test.YtcboaonbfgjmgaaRaw
section
open Go.Proofs Go Go.Am
namespace Go.Proofs.Ytcboaonbfgjmgaa.d
set_option linter.unusedVariables false
set_option maxRecDepth 100000
/- trammel/trammelkit.SameInts -/
def lo_kit_SameInts : List (Nat × List Nat) := [(8, [0, 1, 5])]
def cu_kit_SameInts : List (Nat × List Nat) := []
noncomputable def L_kit_SameInts_0 : Code := (codeAt [1, 1, 0, 1, 0, 0] (Try.f28.body.getD .skip))
def K_kit_SameInts_0 (E : Env) (w0 : World) (x : Bool) (Q : D → DSt → Prop) : AExit → List D → DSt → Prop :=
  (blockD 0 (seqD Try.prog E w0 x lo_kit_SameInts cu_kit_SameInts (codeAt [1, 1, 1] (Try.f28.body.getD .skip)) (retD Try.prog Try.f28 Q)))
def B_kit_SameInts_0 (E : Env) (w0 : World) (x : Bool) (N0 : D → D → D → DSt → Prop) (Q : D → DSt → Prop) (x0 x1 x5 : D) (S : DSt) : Prop :=
  optW (lenSl x0) fun v3 =>
  optW (binI .lss x5 v3) fun v4 =>
  condD v4
  (optW (idxSl 1 x0 x5) fun v5 =>
  optW (loadSc S v5) fun v6 => (True) ∧
  optW (idxSl 1 x1 x5) fun v7 =>
  optW (loadSc S v7) fun v8 => (True) ∧
  optW (binI .neq v6 v8) fun v9 =>
  condD v9
  (Q (.bool false) S)
  (optW (binI .add x5 (.int .i64 1)) fun v10 =>
  N0 x0 x1 v10 S))
  (Q (.bool true) S)
theorem B_kit_SameInts_0_ok {E : Env} {w0 : World} {x : Bool} {N0 : D → D → D → DSt → Prop} {Q : D → DSt → Prop} {x0 x1 x5 : D} {S : DSt} (h : B_kit_SameInts_0 E w0 x N0 Q x0 x1 x5 S) :
    CodeD Try.prog E w0 x L_kit_SameInts_0 (mkRow 26 [0, 1, 5] [x0, x1, x5]) S (loopKD (fun T S => N0 (T.getD 0 undefD) (T.getD 1 undefD) (T.getD 5 undefD) S) (K_kit_SameInts_0 E w0 x Q)) := codeD_of_vc lo_kit_SameInts cu_kit_SameInts mixed (by kernel_rfl) h
theorem loop_kit_SameInts_0 {E : Env} {w0 : World} {x : Bool} {Q : D → DSt → Prop} (I : Nat → D → D → D → DSt → Prop)
    (step : ∀ n x0 x1 x5 S, I n x0 x1 x5 S → B_kit_SameInts_0 E w0 x (fun x0 x1 x5 S => ∃ m, m < n ∧ I m x0 x1 x5 S) Q x0 x1 x5 S)
    {n : Nat} {x0 x1 x5 : D} {S : DSt} (h : I n x0 x1 x5 S) : CodeD Try.prog E w0 x (.loop L_kit_SameInts_0) (mkRow 26 [0, 1, 5] [x0, x1, x5]) S (K_kit_SameInts_0 E w0 x Q) :=
  codeD_loop (k := 26) (n := n) (I := fun n T S => I n (T.getD 0 undefD) (T.getD 1 undefD) (T.getD 5 undefD) S) (fun n T S hl hI => codeD_row [0, 1, 5] hl (CodeD.mono (B_kit_SameInts_0_ok (step n _ _ _ S hI)) fun ex T' S' _ hq => by cases ex <;> exact hq)) (mkRow_length ..) (Eq.mp (by kernel_rfl) h)
def V_kit_SameInts (E : Env) (w0 : World) (x : Bool) (Q : D → DSt → Prop) (a0 a1 : D) (S : DSt) : Prop :=
  optW (lenSl a0) fun v0 =>
  optW (lenSl a1) fun v1 =>
  optW (binI .neq v0 v1) fun v2 =>
  condD v2
  (Q (.bool false) S)
  (CodeD Try.prog E w0 x (.loop L_kit_SameInts_0) (mkRow 26 [0, 1, 5] [a0, a1, (.int .i64 0)]) S (K_kit_SameInts_0 E w0 x Q))
theorem V_kit_SameInts_ok {E : Env} {w0 : World} {x : Bool} {Q : D → DSt → Prop} {a0 a1 : D} {S : DSt} (h : V_kit_SameInts E w0 x (FinD E Q) a0 a1 S) : DFn Try.prog E w0 x f_kit_SameInts [a0, a1] S Q :=
  fnD_of_vc lo_kit_SameInts cu_kit_SameInts (fn := Try.f28) (c := Try.f28.body.getD .skip) mixed Try.func28 (by kernel_rfl) (by kernel_rfl) h

/- trammel/trammelkit.LentInts -/
def lo_kit_LentCode : List (Nat × List Nat) := []
def cu_kit_LentCode : List (Nat × List Nat) := []
def V_kit_LentCode (E : Env) (w0 : World) (x : Bool) (Q : D → DSt → Prop) (a0 : D) (S : DSt) : Prop :=
  appendD S 1 1 .nilSlc a0 fun v0 S1 =>
  litD S1 1 (fillR 1 (List.replicate 1 [(.int .u8 0)]) [(0, (.int .u8 77))]) 1 fun v2 S3 =>
  appendD S3 1 1 v0 v2 fun v4 S5 =>
  optW (lenSl a0) fun v6 =>
  optW (sliceSl 1 v4 none (some v6) none) fun v7 =>
  Q v7 S5
theorem V_kit_LentCode_ok {E : Env} {w0 : World} {x : Bool} {Q : D → DSt → Prop} {a0 : D} {S : DSt} (h : V_kit_LentCode E w0 x (FinD E Q) a0 S) : DFn Try.prog E w0 x f_kit_LentCode [a0] S Q :=
  fnD_of_vc lo_kit_LentCode cu_kit_LentCode (fn := Try.f23) (c := Try.f23.body.getD .skip) mixed Try.func23 (by kernel_rfl) (by kernel_rfl) h

/- trammel/trammelkit.KeptCode -/
def lo_kit_KeptCode : List (Nat × List Nat) := []
def cu_kit_KeptCode : List (Nat × List Nat) := []
def V_kit_KeptCode (E : Env) (w0 : World) (x : Bool) (Q : D → DSt → Prop) (a0 a1 : D) (S : DSt) : Prop :=
  optW (convBS S a0) fun v0 =>
  optW (convBS S a1) fun v1 =>
  optW (binS .eql v0 v1) fun v2 =>
  optW (valGD (wantsD v2 true) (some a0)) fun v3 =>
  optW (valGD (wantsD v2 true) (some a1)) fun v4 =>
  optW (valGD (wantsD v2 true) (lenSl v4)) fun v5 =>
  optW (valGD (wantsD v2 true) (binI .add v5 (.int .i64 1))) fun v6 =>
  optW (valGD (wantsD v2 true) (sliceSl 1 v3 none (some v6) none)) fun v7 =>
  optW (valGD (wantsD v2 true) (some a1)) fun v8 =>
  optW (valGD (wantsD v2 true) (lenSl v8)) fun v9 =>
  optW (valGD (wantsD v2 true) (idxSl 1 v7 v9)) fun v10 =>
  optW (valGD (wantsD v2 true) (loadSc S v10)) fun v11 =>
  optW (valGD (wantsD v2 true) (binI .eql v11 (.int .u8 77))) fun v12 =>
  optW (pickD v2 v12 (.bool false)) fun v13 =>
  Q v13 S
theorem V_kit_KeptCode_ok {E : Env} {w0 : World} {x : Bool} {Q : D → DSt → Prop} {a0 a1 : D} {S : DSt} (h : V_kit_KeptCode E w0 x (FinD E Q) a0 a1 S) : DFn Try.prog E w0 x f_kit_KeptCode [a0, a1] S Q :=
  fnD_of_vc lo_kit_KeptCode cu_kit_KeptCode (fn := Try.f29) (c := Try.f29.body.getD .skip) mixed Try.func29 (by kernel_rfl) (by kernel_rfl) h

/- trammel/trammelkit.LentInstr -/
def lo_kit_SameInstr : List (Nat × List Nat) := [(8, [2, 3, 5])]
def cu_kit_SameInstr : List (Nat × List Nat) := []
noncomputable def L_kit_SameInstr_0 : Code := (codeAt [1, 1, 0, 1, 0, 0] (Try.f21.body.getD .skip))
def K_kit_SameInstr_0 (E : Env) (w0 : World) (x : Bool) (Q : D → DSt → Prop) : AExit → List D → DSt → Prop :=
  (blockD 0 (seqD Try.prog E w0 x lo_kit_SameInstr cu_kit_SameInstr (codeAt [1, 1, 1] (Try.f21.body.getD .skip)) (retD Try.prog Try.f21 Q)))
def B_kit_SameInstr_0 (E : Env) (w0 : World) (x : Bool) (N0 : D → D → D → DSt → Prop) (Q : D → DSt → Prop) (x2 x3 x5 : D) (S : DSt) : Prop :=
  optW (offD 3 x2) fun v29 =>
  optW (loadSc S v29) fun v30 =>
  optW (lenSl v30) fun v31 =>
  optW (binI .lss x5 v31) fun v32 =>
  condD v32
  (optW (offD 3 x2) fun v33 =>
  optW (loadSc S v33) fun v34 => (True) ∧
  optW (idxSl 2 v34 x5) fun v35 =>
  optW (loadAg S 2 v35) fun v36 => (True) ∧
  optW (offD 3 x3) fun v37 =>
  optW (loadSc S v37) fun v38 => (True) ∧
  optW (idxSl 2 v38 x5) fun v39 =>
  optW (loadAg S 2 v39) fun v40 => (True) ∧
  optW (eqOp .neq (eqAg Try.prog t_api_Arm v36 v40)) fun v41 =>
  condD v41
  (Q (.bool false) S)
  (optW (binI .add x5 (.int .i64 1)) fun v42 =>
  N0 x2 x3 v42 S))
  (Q (.bool true) S)
theorem B_kit_SameInstr_0_ok {E : Env} {w0 : World} {x : Bool} {N0 : D → D → D → DSt → Prop} {Q : D → DSt → Prop} {x2 x3 x5 : D} {S : DSt} (h : B_kit_SameInstr_0 E w0 x N0 Q x2 x3 x5 S) :
    CodeD Try.prog E w0 x L_kit_SameInstr_0 (mkRow 52 [2, 3, 5] [x2, x3, x5]) S (loopKD (fun T S => N0 (T.getD 2 undefD) (T.getD 3 undefD) (T.getD 5 undefD) S) (K_kit_SameInstr_0 E w0 x Q)) := codeD_of_vc lo_kit_SameInstr cu_kit_SameInstr mixed (by kernel_rfl) h
theorem loop_kit_SameInstr_0 {E : Env} {w0 : World} {x : Bool} {Q : D → DSt → Prop} (I : Nat → D → D → D → DSt → Prop)
    (step : ∀ n x2 x3 x5 S, I n x2 x3 x5 S → B_kit_SameInstr_0 E w0 x (fun x2 x3 x5 S => ∃ m, m < n ∧ I m x2 x3 x5 S) Q x2 x3 x5 S)
    {n : Nat} {x2 x3 x5 : D} {S : DSt} (h : I n x2 x3 x5 S) : CodeD Try.prog E w0 x (.loop L_kit_SameInstr_0) (mkRow 52 [2, 3, 5] [x2, x3, x5]) S (K_kit_SameInstr_0 E w0 x Q) :=
  codeD_loop (k := 52) (n := n) (I := fun n T S => I n (T.getD 2 undefD) (T.getD 3 undefD) (T.getD 5 undefD) S) (fun n T S hl hI => codeD_row [2, 3, 5] hl (CodeD.mono (B_kit_SameInstr_0_ok (step n _ _ _ S hI)) fun ex T' S' _ hq => by cases ex <;> exact hq)) (mkRow_length ..) (Eq.mp (by kernel_rfl) h)
def V_kit_SameInstr (E : Env) (w0 : World) (x : Bool) (Q : D → DSt → Prop) (a0 a1 : D) (S : DSt) : Prop :=
  optW (cellsD a0) fun cs => allocD S cs fun v0 S1 =>
  optW (cellsD a1) fun cs => allocD S1 cs fun v2 S3 =>
  optW (offD 0 v0) fun v4 =>
  optW (loadSc S3 v4) fun v5 =>
  optW (offD 0 v2) fun v6 =>
  optW (loadSc S3 v6) fun v7 =>
  optW (binI .neq v5 v7) fun v8 =>
  optW (valGD (wantsD v8 false) (offD 1 v0)) fun v9 =>
  optW (valGD (wantsD v8 false) (loadSc S3 v9)) fun v10 =>
  optW (valGD (wantsD v8 false) (offD 1 v2)) fun v11 =>
  optW (valGD (wantsD v8 false) (loadSc S3 v11)) fun v12 =>
  optW (valGD (wantsD v8 false) (binI .neq v10 v12)) fun v13 =>
  optW (pickD v8 (.bool true) v13) fun v14 =>
  optW (valGD (wantsD v14 false) (offD 2 v0)) fun v15 =>
  optW (valGD (wantsD v14 false) (loadSc S3 v15)) fun v16 =>
  optW (valGD (wantsD v14 false) (offD 2 v2)) fun v17 =>
  optW (valGD (wantsD v14 false) (loadSc S3 v17)) fun v18 =>
  optW (valGD (wantsD v14 false) (binI .neq v16 v18)) fun v19 =>
  optW (pickD v14 (.bool true) v19) fun v20 =>
  optW (valGD (wantsD v20 false) (offD 3 v0)) fun v21 =>
  optW (valGD (wantsD v20 false) (loadSc S3 v21)) fun v22 =>
  optW (valGD (wantsD v20 false) (lenSl v22)) fun v23 =>
  optW (valGD (wantsD v20 false) (offD 3 v2)) fun v24 =>
  optW (valGD (wantsD v20 false) (loadSc S3 v24)) fun v25 =>
  optW (valGD (wantsD v20 false) (lenSl v25)) fun v26 =>
  optW (valGD (wantsD v20 false) (binI .neq v23 v26)) fun v27 =>
  optW (pickD v20 (.bool true) v27) fun v28 =>
  condD v28
  (Q (.bool false) S3)
  (CodeD Try.prog E w0 x (.loop L_kit_SameInstr_0) (mkRow 52 [2, 3, 5] [v0, v2, (.int .i64 0)]) S3 (K_kit_SameInstr_0 E w0 x Q))
theorem V_kit_SameInstr_ok {E : Env} {w0 : World} {x : Bool} {Q : D → DSt → Prop} {a0 a1 : D} {S : DSt} (h : V_kit_SameInstr E w0 x (FinD E Q) a0 a1 S) : DFn Try.prog E w0 x f_kit_SameInstr [a0, a1] S Q :=
  fnD_of_vc lo_kit_SameInstr cu_kit_SameInstr (fn := Try.f21) (c := Try.f21.body.getD .skip) mixed Try.func21 (by kernel_rfl) (by kernel_rfl) h

/- trammel/trammelkit.KeptInstr -/
end Go.Proofs.Ytcboaonbfgjmgaa.d
end

section
open Go.Proofs Go Go.Am Go.Op
namespace Go.Proofs.Ytcboaonbfgjmgaa.d
set_option linter.unusedVariables false
set_option linter.unusedSimpArgs false
set_option maxRecDepth 100000
/-- Numbers. -/
def iC (l : List Int) : List (List D) := ones (l.map (D.int .i64))
def iD (l : List Int) : D := .lst (iC l) 1
@[simp] theorem iC_length (l : List Int) : (iC l).length = l.length := by simp [iC]
theorem iC_at {l : List Int} {i : Nat} {n : Int} (h : l[i]? = some n) : (iC l)[i]? = some [.int .i64 n] := ones_get (by rw [List.getElem?_map, h]; rfl)
theorem iD_at {l : List Int} {i : Nat} {n : Int} (h : l[i]? = some n) : idxSl 1 (iD l) (.int .i64 (i : Int)) = some (.elt [.int .i64 n] 0) := idxL (iC_at h)
@[simp] theorem iD_len (l : List Int) : lenSl (iD l) = some (.int .i64 l.length) := by simp [iD]
@[simp] theorem iD_rows (S : DSt) (l : List Int) : rowsS S 1 (iD l) = some (iC l) := by simp [iD, rowsS, rowsOf]
theorem iC_append (a b : List Int) : iC (a ++ b) = iC a ++ iC b := by simp [iC, ones]
section
variable {E : Env} {w0 : World}
end
end Go.Proofs.Ytcboaonbfgjmgaa.d
end

section
open Go.Proofs Go Go.Am Go.Op
namespace Go.Proofs.Ytcboaonbfgjmgaa.d
set_option linter.unusedVariables false
set_option linter.unusedSimpArgs false
set_option maxRecDepth 100000
def bX (bs : List Int) : D := .ext (ones (bs.map (D.int .u8))) (ones [.int .u8 77]) 1
theorem bX_wk (l : List Int) : Wk (bX l) (bD l) := Wk.ext _ _ _
def strB (bs : List Int) : List UInt8 := bs.map fun b => UInt8.ofNat b.toNat
theorem bytes_of (l : List Int) : (ones (l.map (D.int .u8))).mapM byteD = some (strB l) := by
  induction l with
  | nil => rfl
  | cons b l ih =>
    have : (ones ((b :: l).map (D.int .u8))) = [D.int .u8 b] :: ones (l.map (D.int .u8)) := rfl
    rw [this, List.mapM_cons, ih]
    rfl
theorem convB (S : DSt) (l : List Int) : convBS S (bD l) = some (.str (strB l)) := by
  have : rowsOf S 1 (bD l) = some (ones (l.map (D.int .u8))) := by simp [bD, rowsOf]
  simp only [convBS, this, bytes_of, Option.map_some]
theorem convX (S : DSt) (l : List Int) : convBS S (bX l) = some (.str (strB l)) := by
  have : rowsOf S 1 (bX l) = some (ones (l.map (D.int .u8))) := by simp [bX, rowsOf]
  simp only [convBS, this, bytes_of, Option.map_some]
@[simp] theorem armD_rows (S : DSt) (arms : List (Int × Int)) : rowsS S 2 (armD arms) = some (arms.map armR) := by simp [armD, rowsS, rowsOf]
def andO (r k : Option Bool) : Option Bool := match r with
  | some true => k
  | r => r
theorem andO_b (a b : Bool) : andO (some a) (some b) = some (a && b) := by cases a <;> rfl
theorem eqArm (p q : Int × Int) : eqAg Try.prog t_api_Arm (.agg (armR p)) (.agg (armR q)) = some (decide (p = q)) := by
  have h : eqAg Try.prog t_api_Arm (.agg (armR p)) (.agg (armR q)) = andO (some (p.1 == q.1)) (andO (some (p.2 == q.2)) (some true)) := by kernel_rfl
  rw [h, andO_b, andO_b, Bool.and_true]
  congr 1
  rw [beqD, beqD, ← Bool.decide_and]
  congr 1
  rw [Prod.ext_iff]
/-- Are two instructions the same? -/
def sameIn (y z : In) : Bool := decide (y.op = z.op ∧ y.a = z.a ∧ y.b = z.b ∧ y.arms = z.arms)
theorem sameIn_refl (y : In) : sameIn y y = true := decide_eq_true ⟨rfl, rfl, rfl, rfl⟩
theorem bneD (a b : Int) : (a != b) = decide (a ≠ b) := by by_cases h : a = b <;> simp [h, bne]
section
variable {E : Env} {w0 : World}
theorem kit_LentCode_ok {l : List Int} (hl : l.length < 2 ^ 30) : Pure Try.prog E w0 f_kit_LentCode [bD l] (bX l) := fun x S => by
  refine V_kit_LentCode_ok ?_
  unfold V_kit_LentCode
  refine (Grw.nil S 1).push (bD_rows _ _) (by simp; omega) fun t S1 g => ?_
  refine lit_lst (rows := ones [.int .u8 77]) rfl ?_
  refine g.last (news := ones [.int .u8 77]) rfl (by simp [ones]) (by simp; omega) ?_
  rw [bD_len, oD, List.nil_append, slcL (by simp), oD, List.take_left' (by simp), List.drop_left' (by simp)]
  exact FinD.pure
theorem kit_KeptCode_ok {l : List Int} (hl : l.length < 2 ^ 60) : Pure Try.prog E w0 f_kit_KeptCode [bX l, bD l] (.bool true) := fun x S => by
  refine V_kit_KeptCode_ok ?_
  unfold V_kit_KeptCode
  rw [convX, oD, convB, oD, bsEq, beq_self_eq_true]
  simp only [oD, wdB, beq_self_eq_true, vdT, bD_len, biAdd]
  rw [wrap_i64 (by omega) (by omega), show ((l.length : Int) + 1) = ((l.length + 1 : Nat) : Int) by omega, bX, slcE (by simp), oD]
  have e2 : extD ((ones (l.map (D.int .u8)) ++ ones [.int .u8 77]).take (l.length + 1)) ((ones (l.map (D.int .u8)) ++ ones [.int .u8 77]).drop (l.length + 1)) 1 = bD (l ++ [77]) := by
    rw [List.take_of_length_le (by simp), List.drop_of_length_le (by simp)]
    simp [extD, bD, ones]
  rw [e2, bD_at (i := l.length) (b := 77) (by simp), oD, lsE, List.getElem?_cons_zero, oD, biEq, oD, pdB, oD]
  exact FinD.pure
end
end Go.Proofs.Ytcboaonbfgjmgaa.d
end

section
open Go.Proofs Go Go.Am Go.Op
namespace Go.Proofs.Ytcboaonbfgjmgaa.d
set_option linter.unusedVariables false
set_option linter.unusedSimpArgs false
set_option maxRecDepth 100000
abbrev Tx := List UInt8
structure Ty where
  kind : Int
  name : Tx
  fields : List (Tx × Int)
  elem : Int
  len : Int
  deriving DecidableEq
structure Ro where
  name : Tx
  params : List Int
  results : List Int
  locals : Int
  stack : Int
  code : List Int
  deriving DecidableEq
structure Mo where
  types : List Ty
  texts : List Tx
  funcs : List Ro
  deriving DecidableEq
structure Ty.Ok (t : Ty) : Prop where
  kind : 0 ≤ t.kind ∧ t.kind ≤ 255
  name : t.name.length < 2 ^ 47
  fields : t.fields.length < 2 ^ 47
  names : ∀ f ∈ t.fields, f.1.length < 2 ^ 47 ∧ I64 f.2
  elem : I64 t.elem
  len : I64 t.len
structure Ro.Ok (r : Ro) : Prop where
  name : r.name.length < 2 ^ 47
  params : r.params.length < 2 ^ 47
  results : r.results.length < 2 ^ 47
  ints : ∀ n ∈ r.params ++ r.results, I64 n
  locals : I64 r.locals
  stack : I64 r.stack
  code : r.code.length < 2 ^ 47
  bytes : ∀ b ∈ r.code, Byte b
structure Mo.Ok (m : Mo) : Prop where
  types : m.types.length < 2 ^ 47
  texts : m.texts.length < 2 ^ 47
  funcs : m.funcs.length < 2 ^ 47
  ty : ∀ t ∈ m.types, t.Ok
  tx : ∀ t ∈ m.texts, t.length < 2 ^ 47
  ro : ∀ r ∈ m.funcs, r.Ok
def fldR (f : Tx × Int) : List D := [.str f.1, .int .i64 f.2]
def fldsD (fs : List (Tx × Int)) : D := .lst (fs.map fldR) 2
def tyR (t : Ty) : List D := [.int .u8 t.kind, .str t.name, fldsD t.fields, .int .i64 t.elem, .int .i64 t.len]
def tysD (l : List Ty) : D := .lst (l.map tyR) 5
def txsD (l : List Tx) : D := .lst (ones (l.map D.str)) 1
def roR (r : Ro) : List D := [.str r.name, iD r.params, iD r.results, .int .i64 r.locals, .int .i64 r.stack, bD r.code]
def rosD (l : List Ro) : D := .lst (l.map roR) 6
@[simp] theorem fldsD_len (l : List (Tx × Int)) : lenSl (fldsD l) = some (.int .i64 l.length) := by simp [fldsD]
@[simp] theorem tysD_len (l : List Ty) : lenSl (tysD l) = some (.int .i64 l.length) := by simp [tysD]
@[simp] theorem txsD_len (l : List Tx) : lenSl (txsD l) = some (.int .i64 l.length) := by simp [txsD]
@[simp] theorem rosD_len (l : List Ro) : lenSl (rosD l) = some (.int .i64 l.length) := by simp [rosD]
@[simp] theorem laFld (S : DSt) (p : Tx × Int) : loadAg S 2 (.elt (fldR p) 0) = some (.agg (fldR p)) := (rfl)
@[simp] theorem laTy (S : DSt) (p : Ty) : loadAg S 5 (.elt (tyR p) 0) = some (.agg (tyR p)) := (rfl)
@[simp] theorem laRo (S : DSt) (p : Ro) : loadAg S 6 (.elt (roR p) 0) = some (.agg (roR p)) := (rfl)
section
variable {E : Env} {w0 : World}
theorem t1 : (true == false) = false := rfl
theorem t2 : (false == false) = true := rfl
theorem t3 : (false == true) = false := rfl
theorem t4 : (true == true) = true := rfl
end
end Go.Proofs.Ytcboaonbfgjmgaa.d
end
