/-
  Texts Ve Cj Ck, as far as they are used.
-/
import Derived.Test.YtchnpgddpaonhaaRows
import Derived.Test.YtchnpgddpaonhaaSau
import Derived.KernelRfl
section
open Go.Proofs Go Go.Am
namespace Go.Proofs.Ytchnpgddpaonhaa.d
set_option linter.unusedVariables false
set_option maxRecDepth 100000
/- trammel/trammelkit.SameInts -/
def lo_kit_SameInts : List (Nat × List Nat) := [(8, [0, 1, 5])]
def cu_kit_SameInts : List (Nat × List Nat) := []
noncomputable def L_kit_SameInts_0 : Code := (codeAt [1, 1, 0, 1, 0, 0] (Try.f55.body.getD .skip))
def K_kit_SameInts_0 (E : Env) (w0 : World) (x : Bool) (Q : D → DSt → Prop) : AExit → List D → DSt → Prop :=
  (blockD 0 (seqD Try.prog E w0 x lo_kit_SameInts cu_kit_SameInts (codeAt [1, 1, 1] (Try.f55.body.getD .skip)) (retD Try.prog Try.f55 Q)))
def B_kit_SameInts_0 (E : Env) (w0 : World) (x : Bool) (N0 : D → D → D → DSt → Prop) (Q : D → DSt → Prop) (x0 x1 x5 : D) (S : DSt) : Prop :=
  optW (lenSl x0) fun v3 =>
  optW (binI .lss x5 v3) fun v4 =>
  condD v4
  (optW (idxSl 1 x0 x5) fun v5 =>
  optW (loadSc S v5) fun v6 => (True) ∧
  optW (idxSl 1 x1 x5) fun v7 =>
  optW (loadSc S v7) fun v8 => (True) ∧
  optW (binI .neq v6 v8) fun v9 =>
  condD v9
  (Q (.bool false) S)
  (optW (binI .add x5 (.int .i64 1)) fun v10 =>
  N0 x0 x1 v10 S))
  (Q (.bool true) S)
theorem B_kit_SameInts_0_ok {E : Env} {w0 : World} {x : Bool} {N0 : D → D → D → DSt → Prop} {Q : D → DSt → Prop} {x0 x1 x5 : D} {S : DSt} (h : B_kit_SameInts_0 E w0 x N0 Q x0 x1 x5 S) :
    CodeD Try.prog E w0 x L_kit_SameInts_0 (mkRow 26 [0, 1, 5] [x0, x1, x5]) S (loopKD (fun T S => N0 (T.getD 0 undefD) (T.getD 1 undefD) (T.getD 5 undefD) S) (K_kit_SameInts_0 E w0 x Q)) := codeD_of_vc lo_kit_SameInts cu_kit_SameInts mixed (by kernel_rfl) h
theorem loop_kit_SameInts_0 {E : Env} {w0 : World} {x : Bool} {Q : D → DSt → Prop} (I : Nat → D → D → D → DSt → Prop)
    (step : ∀ n x0 x1 x5 S, I n x0 x1 x5 S → B_kit_SameInts_0 E w0 x (fun x0 x1 x5 S => ∃ m, m < n ∧ I m x0 x1 x5 S) Q x0 x1 x5 S)
    {n : Nat} {x0 x1 x5 : D} {S : DSt} (h : I n x0 x1 x5 S) : CodeD Try.prog E w0 x (.loop L_kit_SameInts_0) (mkRow 26 [0, 1, 5] [x0, x1, x5]) S (K_kit_SameInts_0 E w0 x Q) :=
  codeD_loop (k := 26) (n := n) (I := fun n T S => I n (T.getD 0 undefD) (T.getD 1 undefD) (T.getD 5 undefD) S) (fun n T S hl hI => codeD_row [0, 1, 5] hl (CodeD.mono (B_kit_SameInts_0_ok (step n _ _ _ S hI)) fun ex T' S' _ hq => by cases ex <;> exact hq)) (mkRow_length ..) (Eq.mp (by kernel_rfl) h)
def V_kit_SameInts (E : Env) (w0 : World) (x : Bool) (Q : D → DSt → Prop) (a0 a1 : D) (S : DSt) : Prop :=
  optW (lenSl a0) fun v0 =>
  optW (lenSl a1) fun v1 =>
  optW (binI .neq v0 v1) fun v2 =>
  condD v2
  (Q (.bool false) S)
  (CodeD Try.prog E w0 x (.loop L_kit_SameInts_0) (mkRow 26 [0, 1, 5] [a0, a1, (.int .i64 0)]) S (K_kit_SameInts_0 E w0 x Q))
theorem V_kit_SameInts_ok {E : Env} {w0 : World} {x : Bool} {Q : D → DSt → Prop} {a0 a1 : D} {S : DSt} (h : V_kit_SameInts E w0 x (FinD E Q) a0 a1 S) : DFn Try.prog E w0 x f_kit_SameInts [a0, a1] S Q :=
  fnD_of_vc lo_kit_SameInts cu_kit_SameInts (fn := Try.f55) (c := Try.f55.body.getD .skip) mixed Try.func55 (by kernel_rfl) (by kernel_rfl) h

/- trammel/trammelkit.LentInts -/
def lo_kit_LentInts : List (Nat × List Nat) := [(8, [0, 3, 4])]
def cu_kit_LentInts : List (Nat × List Nat) := []
noncomputable def L_kit_LentInts_0 : Code := (codeAt [1, 1, 1, 0, 1, 0, 0] (Try.f37.body.getD .skip))
def K_kit_LentInts_0 (E : Env) (w0 : World) (x : Bool) (Q : D → DSt → Prop) : AExit → List D → DSt → Prop :=
  (blockD 0 (seqD Try.prog E w0 x lo_kit_LentInts cu_kit_LentInts (codeAt [1, 1, 1, 1] (Try.f37.body.getD .skip)) (retD Try.prog Try.f37 Q)))
def B_kit_LentInts_0 (E : Env) (w0 : World) (x : Bool) (N0 : D → D → D → DSt → Prop) (Q : D → DSt → Prop) (x0 x3 x4 : D) (S : DSt) : Prop :=
  optW (binI .lss x4 (.int .i64 3)) fun v2 =>
  condD v2
  (optW (binI .sub (.int .i64 (-771)) x4) fun v3 =>
  litD S 1 (fillR 1 (List.replicate 1 [(.int .i64 0)]) [(0, v3)]) 1 fun v4 S5 =>
  appendD S5 1 8 x3 v4 fun v6 S7 =>
  optW (binI .add x4 (.int .i64 1)) fun v8 =>
  N0 x0 v6 v8 S7)
  (optW (lenSl x0) fun v9 =>
  optW (sliceSl 1 x3 none (some v9) none) fun v10 =>
  Q v10 S)
theorem B_kit_LentInts_0_ok {E : Env} {w0 : World} {x : Bool} {N0 : D → D → D → DSt → Prop} {Q : D → DSt → Prop} {x0 x3 x4 : D} {S : DSt} (h : B_kit_LentInts_0 E w0 x N0 Q x0 x3 x4 S) :
    CodeD Try.prog E w0 x L_kit_LentInts_0 (mkRow 21 [0, 3, 4] [x0, x3, x4]) S (loopKD (fun T S => N0 (T.getD 0 undefD) (T.getD 3 undefD) (T.getD 4 undefD) S) (K_kit_LentInts_0 E w0 x Q)) := codeD_of_vc lo_kit_LentInts cu_kit_LentInts mixed (by kernel_rfl) h
theorem loop_kit_LentInts_0 {E : Env} {w0 : World} {x : Bool} {Q : D → DSt → Prop} (I : Nat → D → D → D → DSt → Prop)
    (step : ∀ n x0 x3 x4 S, I n x0 x3 x4 S → B_kit_LentInts_0 E w0 x (fun x0 x3 x4 S => ∃ m, m < n ∧ I m x0 x3 x4 S) Q x0 x3 x4 S)
    {n : Nat} {x0 x3 x4 : D} {S : DSt} (h : I n x0 x3 x4 S) : CodeD Try.prog E w0 x (.loop L_kit_LentInts_0) (mkRow 21 [0, 3, 4] [x0, x3, x4]) S (K_kit_LentInts_0 E w0 x Q) :=
  codeD_loop (k := 21) (n := n) (I := fun n T S => I n (T.getD 0 undefD) (T.getD 3 undefD) (T.getD 4 undefD) S) (fun n T S hl hI => codeD_row [0, 3, 4] hl (CodeD.mono (B_kit_LentInts_0_ok (step n _ _ _ S hI)) fun ex T' S' _ hq => by cases ex <;> exact hq)) (mkRow_length ..) (Eq.mp (by kernel_rfl) h)
def V_kit_LentInts (E : Env) (w0 : World) (x : Bool) (Q : D → DSt → Prop) (a0 : D) (S : DSt) : Prop :=
  appendD S 1 8 .nilSlc a0 fun v0 S1 =>
  CodeD Try.prog E w0 x (.loop L_kit_LentInts_0) (mkRow 21 [0, 3, 4] [a0, v0, (.int .i64 0)]) S1 (K_kit_LentInts_0 E w0 x Q)
theorem V_kit_LentInts_ok {E : Env} {w0 : World} {x : Bool} {Q : D → DSt → Prop} {a0 : D} {S : DSt} (h : V_kit_LentInts E w0 x (FinD E Q) a0 S) : DFn Try.prog E w0 x f_kit_LentInts [a0] S Q :=
  fnD_of_vc lo_kit_LentInts cu_kit_LentInts (fn := Try.f37) (c := Try.f37.body.getD .skip) mixed Try.func37 (by kernel_rfl) (by kernel_rfl) h

/- trammel/trammelkit.LentCode -/
def lo_kit_LentCode : List (Nat × List Nat) := []
def cu_kit_LentCode : List (Nat × List Nat) := []
def V_kit_LentCode (E : Env) (w0 : World) (x : Bool) (Q : D → DSt → Prop) (a0 : D) (S : DSt) : Prop :=
  appendD S 1 1 .nilSlc a0 fun v0 S1 =>
  litD S1 1 (fillR 1 (List.replicate 1 [(.int .u8 0)]) [(0, (.int .u8 77))]) 1 fun v2 S3 =>
  appendD S3 1 1 v0 v2 fun v4 S5 =>
  optW (lenSl a0) fun v6 =>
  optW (sliceSl 1 v4 none (some v6) none) fun v7 =>
  Q v7 S5
theorem V_kit_LentCode_ok {E : Env} {w0 : World} {x : Bool} {Q : D → DSt → Prop} {a0 : D} {S : DSt} (h : V_kit_LentCode E w0 x (FinD E Q) a0 S) : DFn Try.prog E w0 x f_kit_LentCode [a0] S Q :=
  fnD_of_vc lo_kit_LentCode cu_kit_LentCode (fn := Try.f38) (c := Try.f38.body.getD .skip) mixed Try.func38 (by kernel_rfl) (by kernel_rfl) h

/- trammel/trammelkit.SameFields -/
def lo_kit_SameFields : List (Nat × List Nat) := [(8, [0, 1, 5])]
def cu_kit_SameFields : List (Nat × List Nat) := []
noncomputable def L_kit_SameFields_0 : Code := (codeAt [1, 1, 0, 1, 0, 0] (Try.f54.body.getD .skip))
def K_kit_SameFields_0 (E : Env) (w0 : World) (x : Bool) (Q : D → DSt → Prop) : AExit → List D → DSt → Prop :=
  (blockD 0 (seqD Try.prog E w0 x lo_kit_SameFields cu_kit_SameFields (codeAt [1, 1, 1] (Try.f54.body.getD .skip)) (retD Try.prog Try.f54 Q)))
def B_kit_SameFields_0 (E : Env) (w0 : World) (x : Bool) (N0 : D → D → D → DSt → Prop) (Q : D → DSt → Prop) (x0 x1 x5 : D) (S : DSt) : Prop :=
  optW (lenSl x0) fun v3 =>
  optW (binI .lss x5 v3) fun v4 =>
  condD v4
  (optW (idxSl 2 x0 x5) fun v5 =>
  optW (loadAg S 2 v5) fun v6 => (True) ∧
  optW (idxSl 2 x1 x5) fun v7 =>
  optW (loadAg S 2 v7) fun v8 => (True) ∧
  optW (eqOp .neq (eqAg Try.prog t_api_Field v6 v8)) fun v9 =>
  condD v9
  (Q (.bool false) S)
  (optW (binI .add x5 (.int .i64 1)) fun v10 =>
  N0 x0 x1 v10 S))
  (Q (.bool true) S)
theorem B_kit_SameFields_0_ok {E : Env} {w0 : World} {x : Bool} {N0 : D → D → D → DSt → Prop} {Q : D → DSt → Prop} {x0 x1 x5 : D} {S : DSt} (h : B_kit_SameFields_0 E w0 x N0 Q x0 x1 x5 S) :
    CodeD Try.prog E w0 x L_kit_SameFields_0 (mkRow 26 [0, 1, 5] [x0, x1, x5]) S (loopKD (fun T S => N0 (T.getD 0 undefD) (T.getD 1 undefD) (T.getD 5 undefD) S) (K_kit_SameFields_0 E w0 x Q)) := codeD_of_vc lo_kit_SameFields cu_kit_SameFields mixed (by kernel_rfl) h
theorem loop_kit_SameFields_0 {E : Env} {w0 : World} {x : Bool} {Q : D → DSt → Prop} (I : Nat → D → D → D → DSt → Prop)
    (step : ∀ n x0 x1 x5 S, I n x0 x1 x5 S → B_kit_SameFields_0 E w0 x (fun x0 x1 x5 S => ∃ m, m < n ∧ I m x0 x1 x5 S) Q x0 x1 x5 S)
    {n : Nat} {x0 x1 x5 : D} {S : DSt} (h : I n x0 x1 x5 S) : CodeD Try.prog E w0 x (.loop L_kit_SameFields_0) (mkRow 26 [0, 1, 5] [x0, x1, x5]) S (K_kit_SameFields_0 E w0 x Q) :=
  codeD_loop (k := 26) (n := n) (I := fun n T S => I n (T.getD 0 undefD) (T.getD 1 undefD) (T.getD 5 undefD) S) (fun n T S hl hI => codeD_row [0, 1, 5] hl (CodeD.mono (B_kit_SameFields_0_ok (step n _ _ _ S hI)) fun ex T' S' _ hq => by cases ex <;> exact hq)) (mkRow_length ..) (Eq.mp (by kernel_rfl) h)
def V_kit_SameFields (E : Env) (w0 : World) (x : Bool) (Q : D → DSt → Prop) (a0 a1 : D) (S : DSt) : Prop :=
  optW (lenSl a0) fun v0 =>
  optW (lenSl a1) fun v1 =>
  optW (binI .neq v0 v1) fun v2 =>
  condD v2
  (Q (.bool false) S)
  (CodeD Try.prog E w0 x (.loop L_kit_SameFields_0) (mkRow 26 [0, 1, 5] [a0, a1, (.int .i64 0)]) S (K_kit_SameFields_0 E w0 x Q))
theorem V_kit_SameFields_ok {E : Env} {w0 : World} {x : Bool} {Q : D → DSt → Prop} {a0 a1 : D} {S : DSt} (h : V_kit_SameFields E w0 x (FinD E Q) a0 a1 S) : DFn Try.prog E w0 x f_kit_SameFields [a0, a1] S Q :=
  fnD_of_vc lo_kit_SameFields cu_kit_SameFields (fn := Try.f54) (c := Try.f54.body.getD .skip) mixed Try.func54 (by kernel_rfl) (by kernel_rfl) h

/- trammel/trammelkit.SameType -/
def lo_kit_SameType : List (Nat × List Nat) := []
def cu_kit_SameType : List (Nat × List Nat) := []
def V_kit_SameType (E : Env) (w0 : World) (x : Bool) (Q : D → DSt → Prop) (a0 a1 : D) (S : DSt) : Prop :=
  optW (cellsD a0) fun cs => allocD S cs fun v0 S1 =>
  optW (cellsD a1) fun cs => allocD S1 cs fun v2 S3 =>
  optW (offD 0 v0) fun v4 =>
  optW (loadSc S3 v4) fun v5 =>
  optW (offD 0 v2) fun v6 =>
  optW (loadSc S3 v6) fun v7 =>
  optW (binI .eql v5 v7) fun v8 =>
  optW (valGD (wantsD v8 true) (offD 1 v0)) fun v9 =>
  optW (valGD (wantsD v8 true) (loadSc S3 v9)) fun v10 =>
  optW (valGD (wantsD v8 true) (offD 1 v2)) fun v11 =>
  optW (valGD (wantsD v8 true) (loadSc S3 v11)) fun v12 =>
  optW (valGD (wantsD v8 true) (binS .eql v10 v12)) fun v13 =>
  optW (pickD v8 v13 (.bool false)) fun v14 =>
  optW (valGD (wantsD v14 true) (offD 3 v0)) fun v15 =>
  optW (valGD (wantsD v14 true) (loadSc S3 v15)) fun v16 =>
  optW (valGD (wantsD v14 true) (offD 3 v2)) fun v17 =>
  optW (valGD (wantsD v14 true) (loadSc S3 v17)) fun v18 =>
  optW (valGD (wantsD v14 true) (binI .eql v16 v18)) fun v19 =>
  optW (pickD v14 v19 (.bool false)) fun v20 =>
  optW (valGD (wantsD v20 true) (offD 4 v0)) fun v21 =>
  optW (valGD (wantsD v20 true) (loadSc S3 v21)) fun v22 =>
  optW (valGD (wantsD v20 true) (offD 4 v2)) fun v23 =>
  optW (valGD (wantsD v20 true) (loadSc S3 v23)) fun v24 =>
  optW (valGD (wantsD v20 true) (binI .eql v22 v24)) fun v25 =>
  optW (pickD v20 v25 (.bool false)) fun v26 =>
  optW (valGD (wantsD v26 true) (offD 2 v0)) fun v27 =>
  optW (valGD (wantsD v26 true) (loadSc S3 v27)) fun v28 =>
  optW (valGD (wantsD v26 true) (offD 2 v2)) fun v29 =>
  optW (valGD (wantsD v26 true) (loadSc S3 v29)) fun v30 =>
  guardD (wantsD v26 true) (fun K => DFn Try.prog E w0 x f_kit_SameFields [v28, v30] S3 K) S3 fun v31 S32 =>
  optW (pickD v26 v31 (.bool false)) fun v33 =>
  Q v33 S32
theorem V_kit_SameType_ok {E : Env} {w0 : World} {x : Bool} {Q : D → DSt → Prop} {a0 a1 : D} {S : DSt} (h : V_kit_SameType E w0 x (FinD E Q) a0 a1 S) : DFn Try.prog E w0 x f_kit_SameType [a0, a1] S Q :=
  fnD_of_vc lo_kit_SameType cu_kit_SameType (fn := Try.f27) (c := Try.f27.body.getD .skip) mixed Try.func27 (by kernel_rfl) (by kernel_rfl) h

/- trammel/trammelkit.SameRoutine -/
def lo_kit_SameRoutine : List (Nat × List Nat) := []
def cu_kit_SameRoutine : List (Nat × List Nat) := []
def V_kit_SameRoutine (E : Env) (w0 : World) (x : Bool) (Q : D → DSt → Prop) (a0 a1 : D) (S : DSt) : Prop :=
  optW (cellsD a0) fun cs => allocD S cs fun v0 S1 =>
  optW (cellsD a1) fun cs => allocD S1 cs fun v2 S3 =>
  optW (offD 0 v0) fun v4 =>
  optW (loadSc S3 v4) fun v5 =>
  optW (offD 0 v2) fun v6 =>
  optW (loadSc S3 v6) fun v7 =>
  optW (binS .eql v5 v7) fun v8 =>
  optW (valGD (wantsD v8 true) (offD 3 v0)) fun v9 =>
  optW (valGD (wantsD v8 true) (loadSc S3 v9)) fun v10 =>
  optW (valGD (wantsD v8 true) (offD 3 v2)) fun v11 =>
  optW (valGD (wantsD v8 true) (loadSc S3 v11)) fun v12 =>
  optW (valGD (wantsD v8 true) (binI .eql v10 v12)) fun v13 =>
  optW (pickD v8 v13 (.bool false)) fun v14 =>
  optW (valGD (wantsD v14 true) (offD 4 v0)) fun v15 =>
  optW (valGD (wantsD v14 true) (loadSc S3 v15)) fun v16 =>
  optW (valGD (wantsD v14 true) (offD 4 v2)) fun v17 =>
  optW (valGD (wantsD v14 true) (loadSc S3 v17)) fun v18 =>
  optW (valGD (wantsD v14 true) (binI .eql v16 v18)) fun v19 =>
  optW (pickD v14 v19 (.bool false)) fun v20 =>
  optW (valGD (wantsD v20 true) (offD 1 v0)) fun v21 =>
  optW (valGD (wantsD v20 true) (loadSc S3 v21)) fun v22 =>
  optW (valGD (wantsD v20 true) (offD 1 v2)) fun v23 =>
  optW (valGD (wantsD v20 true) (loadSc S3 v23)) fun v24 =>
  guardD (wantsD v20 true) (fun K => DFn Try.prog E w0 x f_kit_SameInts [v22, v24] S3 K) S3 fun v25 S26 =>
  optW (pickD v20 v25 (.bool false)) fun v27 =>
  optW (valGD (wantsD v27 true) (offD 2 v0)) fun v28 =>
  optW (valGD (wantsD v27 true) (loadSc S26 v28)) fun v29 =>
  optW (valGD (wantsD v27 true) (offD 2 v2)) fun v30 =>
  optW (valGD (wantsD v27 true) (loadSc S26 v30)) fun v31 =>
  guardD (wantsD v27 true) (fun K => DFn Try.prog E w0 x f_kit_SameInts [v29, v31] S26 K) S26 fun v32 S33 =>
  optW (pickD v27 v32 (.bool false)) fun v34 =>
  optW (valGD (wantsD v34 true) (offD 5 v0)) fun v35 =>
  optW (valGD (wantsD v34 true) (loadSc S33 v35)) fun v36 =>
  optW (valGD (wantsD v34 true) (convBS S33 v36)) fun v37 =>
  optW (valGD (wantsD v34 true) (offD 5 v2)) fun v38 =>
  optW (valGD (wantsD v34 true) (loadSc S33 v38)) fun v39 =>
  optW (valGD (wantsD v34 true) (convBS S33 v39)) fun v40 =>
  optW (valGD (wantsD v34 true) (binS .eql v37 v40)) fun v41 =>
  optW (pickD v34 v41 (.bool false)) fun v42 =>
  Q v42 S33
theorem V_kit_SameRoutine_ok {E : Env} {w0 : World} {x : Bool} {Q : D → DSt → Prop} {a0 a1 : D} {S : DSt} (h : V_kit_SameRoutine E w0 x (FinD E Q) a0 a1 S) : DFn Try.prog E w0 x f_kit_SameRoutine [a0, a1] S Q :=
  fnD_of_vc lo_kit_SameRoutine cu_kit_SameRoutine (fn := Try.f28) (c := Try.f28.body.getD .skip) mixed Try.func28 (by kernel_rfl) (by kernel_rfl) h

/- trammel/trammelkit.SameModule -/
def lo_kit_SameModule : List (Nat × List Nat) := [(8, [2, 3, 5]), (18, [2, 3, 6]), (28, [2, 3, 7])]
def cu_kit_SameModule : List (Nat × List Nat) := []
noncomputable def L_kit_SameModule_2 : Code := (codeAt [1, 1, 1, 1, 0, 1, 0, 0] (Try.f12.body.getD .skip))
def K_kit_SameModule_2 (E : Env) (w0 : World) (x : Bool) (Q : D → DSt → Prop) : AExit → List D → DSt → Prop :=
  (blockD 4 (seqD Try.prog E w0 x lo_kit_SameModule cu_kit_SameModule (codeAt [1, 1, 1, 1, 1] (Try.f12.body.getD .skip)) (retD Try.prog Try.f12 Q)))
def B_kit_SameModule_2 (E : Env) (w0 : World) (x : Bool) (N2 : D → D → D → DSt → Prop) (Q : D → DSt → Prop) (x2 x3 x7 : D) (S : DSt) : Prop :=
  optW (offD 2 x2) fun v57 =>
  optW (loadSc S v57) fun v58 =>
  optW (lenSl v58) fun v59 =>
  optW (binI .lss x7 v59) fun v60 =>
  condD v60
  (optW (offD 2 x2) fun v61 =>
  optW (loadSc S v61) fun v62 => (True) ∧
  optW (idxSl 6 v62 x7) fun v63 =>
  optW (loadAg S 6 v63) fun v64 => (True) ∧
  optW (offD 2 x3) fun v65 =>
  optW (loadSc S v65) fun v66 => (True) ∧
  optW (idxSl 6 v66 x7) fun v67 =>
  optW (loadAg S 6 v67) fun v68 => (True) ∧
  DF E (FnX Try.prog E w0) f_kit_SameRoutine [v64, v68] S fun v69 S70 => (True) ∧
  optW (unD .not v69) fun v71 =>
  condD v71
  (Q (.bool false) S70)
  (optW (binI .add x7 (.int .i64 1)) fun v72 =>
  N2 x2 x3 v72 S70))
  (Q (.bool true) S)
theorem B_kit_SameModule_2_ok {E : Env} {w0 : World} {x : Bool} {N2 : D → D → D → DSt → Prop} {Q : D → DSt → Prop} {x2 x3 x7 : D} {S : DSt} (h : B_kit_SameModule_2 E w0 x N2 Q x2 x3 x7 S) :
    CodeD Try.prog E w0 x L_kit_SameModule_2 (mkRow 89 [2, 3, 7] [x2, x3, x7]) S (loopKD (fun T S => N2 (T.getD 2 undefD) (T.getD 3 undefD) (T.getD 7 undefD) S) (K_kit_SameModule_2 E w0 x Q)) := codeD_of_vc lo_kit_SameModule cu_kit_SameModule mixed (by kernel_rfl) h
theorem loop_kit_SameModule_2 {E : Env} {w0 : World} {x : Bool} {Q : D → DSt → Prop} (I : Nat → D → D → D → DSt → Prop)
    (step : ∀ n x2 x3 x7 S, I n x2 x3 x7 S → B_kit_SameModule_2 E w0 x (fun x2 x3 x7 S => ∃ m, m < n ∧ I m x2 x3 x7 S) Q x2 x3 x7 S)
    {n : Nat} {x2 x3 x7 : D} {S : DSt} (h : I n x2 x3 x7 S) : CodeD Try.prog E w0 x (.loop L_kit_SameModule_2) (mkRow 89 [2, 3, 7] [x2, x3, x7]) S (K_kit_SameModule_2 E w0 x Q) :=
  codeD_loop (k := 89) (n := n) (I := fun n T S => I n (T.getD 2 undefD) (T.getD 3 undefD) (T.getD 7 undefD) S) (fun n T S hl hI => codeD_row [2, 3, 7] hl (CodeD.mono (B_kit_SameModule_2_ok (step n _ _ _ S hI)) fun ex T' S' _ hq => by cases ex <;> exact hq)) (mkRow_length ..) (Eq.mp (by kernel_rfl) h)
noncomputable def L_kit_SameModule_1 : Code := (codeAt [1, 1, 1, 0, 1, 0, 0] (Try.f12.body.getD .skip))
def K_kit_SameModule_1 (E : Env) (w0 : World) (x : Bool) (Q : D → DSt → Prop) : AExit → List D → DSt → Prop :=
  (blockD 2 (seqD Try.prog E w0 x lo_kit_SameModule cu_kit_SameModule (codeAt [1, 1, 1, 1] (Try.f12.body.getD .skip)) (retD Try.prog Try.f12 Q)))
def B_kit_SameModule_1 (E : Env) (w0 : World) (x : Bool) (N1 : D → D → D → DSt → Prop) (Q : D → DSt → Prop) (x2 x3 x6 : D) (S : DSt) : Prop :=
  optW (offD 1 x2) fun v43 =>
  optW (loadSc S v43) fun v44 =>
  optW (lenSl v44) fun v45 =>
  optW (binI .lss x6 v45) fun v46 =>
  condD v46
  (optW (offD 1 x2) fun v47 =>
  optW (loadSc S v47) fun v48 => (True) ∧
  optW (idxSl 1 v48 x6) fun v49 =>
  optW (loadSc S v49) fun v50 => (True) ∧
  optW (offD 1 x3) fun v51 =>
  optW (loadSc S v51) fun v52 => (True) ∧
  optW (idxSl 1 v52 x6) fun v53 =>
  optW (loadSc S v53) fun v54 => (True) ∧
  optW (binS .neq v50 v54) fun v55 =>
  condD v55
  (Q (.bool false) S)
  (optW (binI .add x6 (.int .i64 1)) fun v56 =>
  N1 x2 x3 v56 S))
  (CodeD Try.prog E w0 x (.loop L_kit_SameModule_2) (mkRow 89 [2, 3, 7] [x2, x3, (.int .i64 0)]) S (K_kit_SameModule_2 E w0 x Q))
theorem B_kit_SameModule_1_ok {E : Env} {w0 : World} {x : Bool} {N1 : D → D → D → DSt → Prop} {Q : D → DSt → Prop} {x2 x3 x6 : D} {S : DSt} (h : B_kit_SameModule_1 E w0 x N1 Q x2 x3 x6 S) :
    CodeD Try.prog E w0 x L_kit_SameModule_1 (mkRow 89 [2, 3, 6] [x2, x3, x6]) S (loopKD (fun T S => N1 (T.getD 2 undefD) (T.getD 3 undefD) (T.getD 6 undefD) S) (K_kit_SameModule_1 E w0 x Q)) := codeD_of_vc lo_kit_SameModule cu_kit_SameModule mixed (by kernel_rfl) h
theorem loop_kit_SameModule_1 {E : Env} {w0 : World} {x : Bool} {Q : D → DSt → Prop} (I : Nat → D → D → D → DSt → Prop)
    (step : ∀ n x2 x3 x6 S, I n x2 x3 x6 S → B_kit_SameModule_1 E w0 x (fun x2 x3 x6 S => ∃ m, m < n ∧ I m x2 x3 x6 S) Q x2 x3 x6 S)
    {n : Nat} {x2 x3 x6 : D} {S : DSt} (h : I n x2 x3 x6 S) : CodeD Try.prog E w0 x (.loop L_kit_SameModule_1) (mkRow 89 [2, 3, 6] [x2, x3, x6]) S (K_kit_SameModule_1 E w0 x Q) :=
  codeD_loop (k := 89) (n := n) (I := fun n T S => I n (T.getD 2 undefD) (T.getD 3 undefD) (T.getD 6 undefD) S) (fun n T S hl hI => codeD_row [2, 3, 6] hl (CodeD.mono (B_kit_SameModule_1_ok (step n _ _ _ S hI)) fun ex T' S' _ hq => by cases ex <;> exact hq)) (mkRow_length ..) (Eq.mp (by kernel_rfl) h)
noncomputable def L_kit_SameModule_0 : Code := (codeAt [1, 1, 0, 1, 0, 0] (Try.f12.body.getD .skip))
def K_kit_SameModule_0 (E : Env) (w0 : World) (x : Bool) (Q : D → DSt → Prop) : AExit → List D → DSt → Prop :=
  (blockD 0 (seqD Try.prog E w0 x lo_kit_SameModule cu_kit_SameModule (codeAt [1, 1, 1] (Try.f12.body.getD .skip)) (retD Try.prog Try.f12 Q)))
def B_kit_SameModule_0 (E : Env) (w0 : World) (x : Bool) (N0 : D → D → D → DSt → Prop) (Q : D → DSt → Prop) (x2 x3 x5 : D) (S : DSt) : Prop :=
  optW (offD 0 x2) fun v27 =>
  optW (loadSc S v27) fun v28 =>
  optW (lenSl v28) fun v29 =>
  optW (binI .lss x5 v29) fun v30 =>
  condD v30
  (optW (offD 0 x2) fun v31 =>
  optW (loadSc S v31) fun v32 => (True) ∧
  optW (idxSl 5 v32 x5) fun v33 =>
  optW (loadAg S 5 v33) fun v34 => (True) ∧
  optW (offD 0 x3) fun v35 =>
  optW (loadSc S v35) fun v36 => (True) ∧
  optW (idxSl 5 v36 x5) fun v37 =>
  optW (loadAg S 5 v37) fun v38 => (True) ∧
  DF E (FnX Try.prog E w0) f_kit_SameType [v34, v38] S fun v39 S40 => (True) ∧
  optW (unD .not v39) fun v41 =>
  condD v41
  (Q (.bool false) S40)
  (optW (binI .add x5 (.int .i64 1)) fun v42 =>
  N0 x2 x3 v42 S40))
  (CodeD Try.prog E w0 x (.loop L_kit_SameModule_1) (mkRow 89 [2, 3, 6] [x2, x3, (.int .i64 0)]) S (K_kit_SameModule_1 E w0 x Q))
theorem B_kit_SameModule_0_ok {E : Env} {w0 : World} {x : Bool} {N0 : D → D → D → DSt → Prop} {Q : D → DSt → Prop} {x2 x3 x5 : D} {S : DSt} (h : B_kit_SameModule_0 E w0 x N0 Q x2 x3 x5 S) :
    CodeD Try.prog E w0 x L_kit_SameModule_0 (mkRow 89 [2, 3, 5] [x2, x3, x5]) S (loopKD (fun T S => N0 (T.getD 2 undefD) (T.getD 3 undefD) (T.getD 5 undefD) S) (K_kit_SameModule_0 E w0 x Q)) := codeD_of_vc lo_kit_SameModule cu_kit_SameModule mixed (by kernel_rfl) h
theorem loop_kit_SameModule_0 {E : Env} {w0 : World} {x : Bool} {Q : D → DSt → Prop} (I : Nat → D → D → D → DSt → Prop)
    (step : ∀ n x2 x3 x5 S, I n x2 x3 x5 S → B_kit_SameModule_0 E w0 x (fun x2 x3 x5 S => ∃ m, m < n ∧ I m x2 x3 x5 S) Q x2 x3 x5 S)
    {n : Nat} {x2 x3 x5 : D} {S : DSt} (h : I n x2 x3 x5 S) : CodeD Try.prog E w0 x (.loop L_kit_SameModule_0) (mkRow 89 [2, 3, 5] [x2, x3, x5]) S (K_kit_SameModule_0 E w0 x Q) :=
  codeD_loop (k := 89) (n := n) (I := fun n T S => I n (T.getD 2 undefD) (T.getD 3 undefD) (T.getD 5 undefD) S) (fun n T S hl hI => codeD_row [2, 3, 5] hl (CodeD.mono (B_kit_SameModule_0_ok (step n _ _ _ S hI)) fun ex T' S' _ hq => by cases ex <;> exact hq)) (mkRow_length ..) (Eq.mp (by kernel_rfl) h)
def V_kit_SameModule (E : Env) (w0 : World) (x : Bool) (Q : D → DSt → Prop) (a0 a1 : D) (S : DSt) : Prop :=
  optW (cellsD a0) fun cs => allocD S cs fun v0 S1 =>
  optW (cellsD a1) fun cs => allocD S1 cs fun v2 S3 =>
  optW (offD 0 v0) fun v4 =>
  optW (loadSc S3 v4) fun v5 =>
  optW (lenSl v5) fun v6 =>
  optW (offD 0 v2) fun v7 =>
  optW (loadSc S3 v7) fun v8 =>
  optW (lenSl v8) fun v9 =>
  optW (binI .neq v6 v9) fun v10 =>
  optW (valGD (wantsD v10 false) (offD 1 v0)) fun v11 =>
  optW (valGD (wantsD v10 false) (loadSc S3 v11)) fun v12 =>
  optW (valGD (wantsD v10 false) (lenSl v12)) fun v13 =>
  optW (valGD (wantsD v10 false) (offD 1 v2)) fun v14 =>
  optW (valGD (wantsD v10 false) (loadSc S3 v14)) fun v15 =>
  optW (valGD (wantsD v10 false) (lenSl v15)) fun v16 =>
  optW (valGD (wantsD v10 false) (binI .neq v13 v16)) fun v17 =>
  optW (pickD v10 (.bool true) v17) fun v18 =>
  optW (valGD (wantsD v18 false) (offD 2 v0)) fun v19 =>
  optW (valGD (wantsD v18 false) (loadSc S3 v19)) fun v20 =>
  optW (valGD (wantsD v18 false) (lenSl v20)) fun v21 =>
  optW (valGD (wantsD v18 false) (offD 2 v2)) fun v22 =>
  optW (valGD (wantsD v18 false) (loadSc S3 v22)) fun v23 =>
  optW (valGD (wantsD v18 false) (lenSl v23)) fun v24 =>
  optW (valGD (wantsD v18 false) (binI .neq v21 v24)) fun v25 =>
  optW (pickD v18 (.bool true) v25) fun v26 =>
  condD v26
  (Q (.bool false) S3)
  (CodeD Try.prog E w0 x (.loop L_kit_SameModule_0) (mkRow 89 [2, 3, 5] [v0, v2, (.int .i64 0)]) S3 (K_kit_SameModule_0 E w0 x Q))
theorem V_kit_SameModule_ok {E : Env} {w0 : World} {x : Bool} {Q : D → DSt → Prop} {a0 a1 : D} {S : DSt} (h : V_kit_SameModule E w0 x (FinD E Q) a0 a1 S) : DFn Try.prog E w0 x f_kit_SameModule [a0, a1] S Q :=
  fnD_of_vc lo_kit_SameModule cu_kit_SameModule (fn := Try.f12) (c := Try.f12.body.getD .skip) mixed Try.func12 (by kernel_rfl) (by kernel_rfl) h

/- trammel/trammelkit.LentModule -/
def lo_kit_LentModule : List (Nat × List Nat) := [(6, [1, 2, 3, 4]), (34, [1, 2, 3, 7])]
def cu_kit_LentModule : List (Nat × List Nat) := []
noncomputable def L_kit_LentModule_1 : Code := (codeAt [1, 1, 1, 1, 1, 1, 1, 1, 0, 1, 0, 0] (Try.f14.body.getD .skip))
def K_kit_LentModule_1 (E : Env) (w0 : World) (x : Bool) (Q : D → DSt → Prop) : AExit → List D → DSt → Prop :=
  (blockD 2 (seqD Try.prog E w0 x lo_kit_LentModule cu_kit_LentModule (codeAt [1, 1, 1, 1, 1, 1, 1, 1, 1] (Try.f14.body.getD .skip)) (retD Try.prog Try.f14 Q)))
def B_kit_LentModule_1 (E : Env) (w0 : World) (x : Bool) (N1 : D → D → D → D → DSt → Prop) (Q : D → DSt → Prop) (x1 x2 x3 x7 : D) (S : DSt) : Prop :=
  optW (offD 2 x1) fun v91 =>
  optW (loadSc S v91) fun v92 =>
  optW (lenSl v92) fun v93 =>
  optW (binI .lss x7 v93) fun v94 =>
  condD v94
  (optW (offD 2 x1) fun v95 =>
  optW (loadSc S v95) fun v96 =>
  optW (idxSl 6 v96 x7) fun v97 =>
  optW (loadAg S 6 v97) fun v98 =>
  allocD S [(.str []), .nilSlc, .nilSlc, (.int .i64 0), (.int .i64 0), .nilSlc] fun v99 S100 =>
  storeD S100 6 v99 v98 fun v101 S102 =>
  optW (offD 1 v99) fun v103 =>
  optW (loadSc S102 v103) fun v104 =>
  DFn Try.prog E w0 x f_kit_LentInts [v104] S102 fun v105 S106 =>
  optW (offD 1 v99) fun v107 =>
  storeD S106 1 v107 v105 fun v108 S109 =>
  optW (offD 2 v99) fun v110 =>
  optW (loadSc S109 v110) fun v111 =>
  DFn Try.prog E w0 x f_kit_LentInts [v111] S109 fun v112 S113 =>
  optW (offD 2 v99) fun v114 =>
  storeD S113 1 v114 v112 fun v115 S116 =>
  optW (offD 5 v99) fun v117 =>
  optW (loadSc S116 v117) fun v118 =>
  DFn Try.prog E w0 x f_kit_LentCode [v118] S116 fun v119 S120 =>
  optW (offD 5 v99) fun v121 =>
  storeD S120 1 v121 v119 fun v122 S123 =>
  optW (offD 2 x3) fun v124 =>
  optW (loadSc S123 v124) fun v125 =>
  optW (loadAg S123 6 v99) fun v126 =>
  litD S123 6 (fillR 6 (List.replicate 1 [(.str []), .nilSlc, .nilSlc, (.int .i64 0), (.int .i64 0), .nilSlc]) [(0, v126)]) 1 fun v127 S128 =>
  appendD S128 6 104 v125 v127 fun v129 S130 =>
  optW (offD 2 x3) fun v131 =>
  storeD S130 1 v131 v129 fun v132 S133 =>
  optW (binI .add x7 (.int .i64 1)) fun v134 =>
  N1 x1 x2 x3 v134 S133)
  (optW (offD 2 x3) fun v135 =>
  optW (loadSc S v135) fun v136 =>
  optW (aggD (fillD [(.str []), .nilSlc, .nilSlc, (.int .i64 0), (.int .i64 0), .nilSlc] [(0, 1, (.str [109, 97, 114, 107]))])) fun v137 =>
  litD S 6 (fillR 6 (List.replicate 1 [(.str []), .nilSlc, .nilSlc, (.int .i64 0), (.int .i64 0), .nilSlc]) [(0, v137)]) 1 fun v138 S139 =>
  appendD S139 6 104 v136 v138 fun v140 S141 =>
  optW (offD 2 x3) fun v142 =>
  storeD S141 1 v142 v140 fun v143 S144 =>
  optW (offD 2 x3) fun v145 =>
  optW (loadSc S144 v145) fun v146 =>
  optW (offD 2 x1) fun v147 =>
  optW (loadSc S144 v147) fun v148 =>
  optW (lenSl v148) fun v149 =>
  optW (sliceSl 6 v146 none (some v149) none) fun v150 =>
  optW (offD 2 x3) fun v151 =>
  storeD S144 1 v151 v150 fun v152 S153 =>
  optW (loadAg S153 3 x3) fun v154 =>
  storeD S153 3 x2 v154 fun v155 S156 =>
  optW (loadAg S156 3 x2) fun v157 => Q v157 S156)
theorem B_kit_LentModule_1_ok {E : Env} {w0 : World} {x : Bool} {N1 : D → D → D → D → DSt → Prop} {Q : D → DSt → Prop} {x1 x2 x3 x7 : D} {S : DSt} (h : B_kit_LentModule_1 E w0 x N1 Q x1 x2 x3 x7 S) :
    CodeD Try.prog E w0 x L_kit_LentModule_1 (mkRow 116 [1, 2, 3, 7] [x1, x2, x3, x7]) S (loopKD (fun T S => N1 (T.getD 1 undefD) (T.getD 2 undefD) (T.getD 3 undefD) (T.getD 7 undefD) S) (K_kit_LentModule_1 E w0 x Q)) := codeD_of_vc lo_kit_LentModule cu_kit_LentModule mixed (by kernel_rfl) h
theorem loop_kit_LentModule_1 {E : Env} {w0 : World} {x : Bool} {Q : D → DSt → Prop} (I : Nat → D → D → D → D → DSt → Prop)
    (step : ∀ n x1 x2 x3 x7 S, I n x1 x2 x3 x7 S → B_kit_LentModule_1 E w0 x (fun x1 x2 x3 x7 S => ∃ m, m < n ∧ I m x1 x2 x3 x7 S) Q x1 x2 x3 x7 S)
    {n : Nat} {x1 x2 x3 x7 : D} {S : DSt} (h : I n x1 x2 x3 x7 S) : CodeD Try.prog E w0 x (.loop L_kit_LentModule_1) (mkRow 116 [1, 2, 3, 7] [x1, x2, x3, x7]) S (K_kit_LentModule_1 E w0 x Q) :=
  codeD_loop (k := 116) (n := n) (I := fun n T S => I n (T.getD 1 undefD) (T.getD 2 undefD) (T.getD 3 undefD) (T.getD 7 undefD) S) (fun n T S hl hI => codeD_row [1, 2, 3, 7] hl (CodeD.mono (B_kit_LentModule_1_ok (step n _ _ _ _ S hI)) fun ex T' S' _ hq => by cases ex <;> exact hq)) (mkRow_length ..) (Eq.mp (by kernel_rfl) h)
noncomputable def L_kit_LentModule_0 : Code := (codeAt [1, 1, 0, 1, 0, 0] (Try.f14.body.getD .skip))
def K_kit_LentModule_0 (E : Env) (w0 : World) (x : Bool) (Q : D → DSt → Prop) : AExit → List D → DSt → Prop :=
  (blockD 0 (seqD Try.prog E w0 x lo_kit_LentModule cu_kit_LentModule (codeAt [1, 1, 1] (Try.f14.body.getD .skip)) (retD Try.prog Try.f14 Q)))
def B_kit_LentModule_0 (E : Env) (w0 : World) (x : Bool) (N0 : D → D → D → D → DSt → Prop) (Q : D → DSt → Prop) (x1 x2 x3 x4 : D) (S : DSt) : Prop :=
  optW (offD 0 x1) fun v6 =>
  optW (loadSc S v6) fun v7 =>
  optW (lenSl v7) fun v8 =>
  optW (binI .lss x4 v8) fun v9 =>
  condD v9
  (optW (offD 0 x1) fun v10 =>
  optW (loadSc S v10) fun v11 =>
  optW (idxSl 5 v11 x4) fun v12 =>
  optW (loadAg S 5 v12) fun v13 =>
  allocD S [(.int .u8 0), (.str []), .nilSlc, (.int .i64 0), (.int .i64 0)] fun v14 S15 =>
  storeD S15 5 v14 v13 fun v16 S17 =>
  optW (offD 2 v14) fun v18 =>
  optW (loadSc S17 v18) fun v19 =>
  appendD S17 2 24 .nilSlc v19 fun v20 S21 =>
  optW (aggD (fillD [(.str []), (.int .i64 0)] [(0, 1, (.str [109, 97, 114, 107]))])) fun v22 =>
  litD S21 2 (fillR 2 (List.replicate 1 [(.str []), (.int .i64 0)]) [(0, v22)]) 1 fun v23 S24 =>
  appendD S24 2 24 v20 v23 fun v25 S26 =>
  optW (offD 2 v14) fun v27 =>
  optW (loadSc S26 v27) fun v28 =>
  optW (lenSl v28) fun v29 =>
  optW (sliceSl 2 v25 none (some v29) none) fun v30 =>
  optW (offD 2 v14) fun v31 =>
  storeD S26 1 v31 v30 fun v32 S33 =>
  optW (offD 0 x3) fun v34 =>
  optW (loadSc S33 v34) fun v35 =>
  optW (loadAg S33 5 v14) fun v36 =>
  litD S33 5 (fillR 5 (List.replicate 1 [(.int .u8 0), (.str []), .nilSlc, (.int .i64 0), (.int .i64 0)]) [(0, v36)]) 1 fun v37 S38 =>
  appendD S38 5 64 v35 v37 fun v39 S40 =>
  optW (offD 0 x3) fun v41 =>
  storeD S40 1 v41 v39 fun v42 S43 =>
  optW (binI .add x4 (.int .i64 1)) fun v44 =>
  N0 x1 x2 x3 v44 S43)
  (optW (offD 0 x3) fun v45 =>
  optW (loadSc S v45) fun v46 =>
  optW (aggD (fillD [(.int .u8 0), (.str []), .nilSlc, (.int .i64 0), (.int .i64 0)] [(1, 1, (.str [109, 97, 114, 107]))])) fun v47 =>
  litD S 5 (fillR 5 (List.replicate 1 [(.int .u8 0), (.str []), .nilSlc, (.int .i64 0), (.int .i64 0)]) [(0, v47)]) 1 fun v48 S49 =>
  appendD S49 5 64 v46 v48 fun v50 S51 =>
  optW (offD 0 x3) fun v52 =>
  storeD S51 1 v52 v50 fun v53 S54 =>
  optW (offD 0 x3) fun v55 =>
  optW (loadSc S54 v55) fun v56 =>
  optW (offD 0 x1) fun v57 =>
  optW (loadSc S54 v57) fun v58 =>
  optW (lenSl v58) fun v59 =>
  optW (sliceSl 5 v56 none (some v59) none) fun v60 =>
  optW (offD 0 x3) fun v61 =>
  storeD S54 1 v61 v60 fun v62 S63 =>
  optW (offD 1 x3) fun v64 =>
  optW (loadSc S63 v64) fun v65 =>
  optW (offD 1 x1) fun v66 =>
  optW (loadSc S63 v66) fun v67 =>
  appendD S63 1 16 v65 v67 fun v68 S69 =>
  optW (offD 1 x3) fun v70 =>
  storeD S69 1 v70 v68 fun v71 S72 =>
  optW (offD 1 x3) fun v73 =>
  optW (loadSc S72 v73) fun v74 =>
  litD S72 1 (fillR 1 (List.replicate 1 [(.str [])]) [(0, (.str [109, 97, 114, 107]))]) 1 fun v75 S76 =>
  appendD S76 1 16 v74 v75 fun v77 S78 =>
  optW (offD 1 x3) fun v79 =>
  storeD S78 1 v79 v77 fun v80 S81 =>
  optW (offD 1 x3) fun v82 =>
  optW (loadSc S81 v82) fun v83 =>
  optW (offD 1 x1) fun v84 =>
  optW (loadSc S81 v84) fun v85 =>
  optW (lenSl v85) fun v86 =>
  optW (sliceSl 1 v83 none (some v86) none) fun v87 =>
  optW (offD 1 x3) fun v88 =>
  storeD S81 1 v88 v87 fun v89 S90 =>
  CodeD Try.prog E w0 x (.loop L_kit_LentModule_1) (mkRow 116 [1, 2, 3, 7] [x1, x2, x3, (.int .i64 0)]) S90 (K_kit_LentModule_1 E w0 x Q))
theorem B_kit_LentModule_0_ok {E : Env} {w0 : World} {x : Bool} {N0 : D → D → D → D → DSt → Prop} {Q : D → DSt → Prop} {x1 x2 x3 x4 : D} {S : DSt} (h : B_kit_LentModule_0 E w0 x N0 Q x1 x2 x3 x4 S) :
    CodeD Try.prog E w0 x L_kit_LentModule_0 (mkRow 116 [1, 2, 3, 4] [x1, x2, x3, x4]) S (loopKD (fun T S => N0 (T.getD 1 undefD) (T.getD 2 undefD) (T.getD 3 undefD) (T.getD 4 undefD) S) (K_kit_LentModule_0 E w0 x Q)) := codeD_of_vc lo_kit_LentModule cu_kit_LentModule mixed (by kernel_rfl) h
theorem loop_kit_LentModule_0 {E : Env} {w0 : World} {x : Bool} {Q : D → DSt → Prop} (I : Nat → D → D → D → D → DSt → Prop)
    (step : ∀ n x1 x2 x3 x4 S, I n x1 x2 x3 x4 S → B_kit_LentModule_0 E w0 x (fun x1 x2 x3 x4 S => ∃ m, m < n ∧ I m x1 x2 x3 x4 S) Q x1 x2 x3 x4 S)
    {n : Nat} {x1 x2 x3 x4 : D} {S : DSt} (h : I n x1 x2 x3 x4 S) : CodeD Try.prog E w0 x (.loop L_kit_LentModule_0) (mkRow 116 [1, 2, 3, 4] [x1, x2, x3, x4]) S (K_kit_LentModule_0 E w0 x Q) :=
  codeD_loop (k := 116) (n := n) (I := fun n T S => I n (T.getD 1 undefD) (T.getD 2 undefD) (T.getD 3 undefD) (T.getD 4 undefD) S) (fun n T S hl hI => codeD_row [1, 2, 3, 4] hl (CodeD.mono (B_kit_LentModule_0_ok (step n _ _ _ _ S hI)) fun ex T' S' _ hq => by cases ex <;> exact hq)) (mkRow_length ..) (Eq.mp (by kernel_rfl) h)
def V_kit_LentModule (E : Env) (w0 : World) (x : Bool) (Q : D → DSt → Prop) (a0 : D) (S : DSt) : Prop :=
  optW (cellsD a0) fun cs => allocD S cs fun v0 S1 =>
  allocD S1 [.nilSlc, .nilSlc, .nilSlc] fun v2 S3 =>
  allocD S3 [.nilSlc, .nilSlc, .nilSlc] fun v4 S5 =>
  CodeD Try.prog E w0 x (.loop L_kit_LentModule_0) (mkRow 116 [1, 2, 3, 4] [v0, v2, v4, (.int .i64 0)]) S5 (K_kit_LentModule_0 E w0 x Q)
theorem V_kit_LentModule_ok {E : Env} {w0 : World} {x : Bool} {Q : D → DSt → Prop} {a0 : D} {S : DSt} (h : V_kit_LentModule E w0 x (FinD E Q) a0 S) : DFn Try.prog E w0 x f_kit_LentModule [a0] S Q :=
  fnD_of_vc lo_kit_LentModule cu_kit_LentModule (fn := Try.f14) (c := Try.f14.body.getD .skip) mixed Try.func14 (by kernel_rfl) (by kernel_rfl) h

/- trammel/trammelkit.Bulk -/
def lo_kit_Bulk : List (Nat × List Nat) := [(6, [1, 2, 5, 6]), (14, [1, 2, 5, 6, 7]), (22, [1, 2, 5, 8]), (30, [1, 2, 5, 9])]
def cu_kit_Bulk : List (Nat × List Nat) := []
noncomputable def L_kit_Bulk_1 : Code := (codeAt [1, 1, 0, 1, 0, 0, 1, 0, 0, 1, 1, 0, 0] (Try.f9.body.getD .skip))
def K_kit_Bulk_1 (E : Env) (w0 : World) (x : Bool) (N0 : D → D → D → D → DSt → Prop) (Q : D → DSt → Prop) : AExit → List D → DSt → Prop :=
  (blockD 2 (blockD 1 (seqD Try.prog E w0 x lo_kit_Bulk cu_kit_Bulk (codeAt [1, 1, 0, 1, 0, 0, 1, 1] (Try.f9.body.getD .skip)) (loopKD (fun T S => N0 (T.getD 1 undefD) (T.getD 2 undefD) (T.getD 5 undefD) (T.getD 6 undefD) S) (blockD 0 (seqD Try.prog E w0 x lo_kit_Bulk cu_kit_Bulk (codeAt [1, 1, 1] (Try.f9.body.getD .skip)) (retD Try.prog Try.f9 Q)))))))
def B_kit_Bulk_1 (E : Env) (w0 : World) (x : Bool) (N0 : D → D → D → D → DSt → Prop) (N1 : D → D → D → D → D → DSt → Prop) (Q : D → DSt → Prop) (x1 x2 x5 x6 x7 : D) (S : DSt) : Prop :=
  optW (offD 0 x2) fun v35 =>
  optW (loadSc S v35) fun v36 =>
  optW (idxSl 5 v36 x6) fun v37 =>
  optW (offD 2 v37) fun v38 =>
  optW (loadSc S v38) fun v39 =>
  optW (lenSl v39) fun v40 =>
  optW (binI .lss x7 v40) fun v41 =>
  optW (valGD (wantsD v41 true) (some x5)) fun v42 =>
  optW (valGD (wantsD v41 true) (some x1)) fun v43 =>
  optW (valGD (wantsD v41 true) (binI .leq v42 v43)) fun v44 =>
  optW (pickD v41 v44 (.bool false)) fun v45 =>
  condD v45
  (optW (offD 0 x2) fun v46 =>
  optW (loadSc S v46) fun v47 =>
  optW (idxSl 5 v47 x6) fun v48 =>
  optW (offD 2 v48) fun v49 =>
  optW (loadSc S v49) fun v50 =>
  optW (idxSl 2 v50 x7) fun v51 =>
  optW (offD 0 v51) fun v52 =>
  optW (loadSc S v52) fun v53 =>
  optW (lenStr v53) fun v54 =>
  optW (binI .add x5 v54) fun v55 =>
  optW (binI .add x7 (.int .i64 1)) fun v56 =>
  N1 x1 x2 v55 x6 v56 S)
  (optW (binI .add x6 (.int .i64 1)) fun v57 =>
  N0 x1 x2 x5 v57 S)
theorem B_kit_Bulk_1_ok {E : Env} {w0 : World} {x : Bool} {N0 : D → D → D → D → DSt → Prop} {N1 : D → D → D → D → D → DSt → Prop} {Q : D → DSt → Prop} {x1 x2 x5 x6 x7 : D} {S : DSt} (h : B_kit_Bulk_1 E w0 x N0 N1 Q x1 x2 x5 x6 x7 S) :
    CodeD Try.prog E w0 x L_kit_Bulk_1 (mkRow 135 [1, 2, 5, 6, 7] [x1, x2, x5, x6, x7]) S (loopKD (fun T S => N1 (T.getD 1 undefD) (T.getD 2 undefD) (T.getD 5 undefD) (T.getD 6 undefD) (T.getD 7 undefD) S) (K_kit_Bulk_1 E w0 x N0 Q)) := codeD_of_vc lo_kit_Bulk cu_kit_Bulk mixed (by kernel_rfl) h
theorem loop_kit_Bulk_1 {E : Env} {w0 : World} {x : Bool} {N0 : D → D → D → D → DSt → Prop} {Q : D → DSt → Prop} (I : Nat → D → D → D → D → D → DSt → Prop)
    (step : ∀ n x1 x2 x5 x6 x7 S, I n x1 x2 x5 x6 x7 S → B_kit_Bulk_1 E w0 x N0 (fun x1 x2 x5 x6 x7 S => ∃ m, m < n ∧ I m x1 x2 x5 x6 x7 S) Q x1 x2 x5 x6 x7 S)
    {n : Nat} {x1 x2 x5 x6 x7 : D} {S : DSt} (h : I n x1 x2 x5 x6 x7 S) : CodeD Try.prog E w0 x (.loop L_kit_Bulk_1) (mkRow 135 [1, 2, 5, 6, 7] [x1, x2, x5, x6, x7]) S (K_kit_Bulk_1 E w0 x N0 Q) :=
  codeD_loop (k := 135) (n := n) (I := fun n T S => I n (T.getD 1 undefD) (T.getD 2 undefD) (T.getD 5 undefD) (T.getD 6 undefD) (T.getD 7 undefD) S) (fun n T S hl hI => codeD_row [1, 2, 5, 6, 7] hl (CodeD.mono (B_kit_Bulk_1_ok (step n _ _ _ _ _ S hI)) fun ex T' S' _ hq => by cases ex <;> exact hq)) (mkRow_length ..) (Eq.mp (by kernel_rfl) h)
noncomputable def L_kit_Bulk_3 : Code := (codeAt [1, 1, 1, 1, 0, 1, 0, 0] (Try.f9.body.getD .skip))
def K_kit_Bulk_3 (E : Env) (w0 : World) (x : Bool) (Q : D → DSt → Prop) : AExit → List D → DSt → Prop :=
  (blockD 6 (seqD Try.prog E w0 x lo_kit_Bulk cu_kit_Bulk (codeAt [1, 1, 1, 1, 1] (Try.f9.body.getD .skip)) (retD Try.prog Try.f9 Q)))
def B_kit_Bulk_3 (E : Env) (w0 : World) (x : Bool) (N3 : D → D → D → D → DSt → Prop) (Q : D → DSt → Prop) (x1 x2 x5 x9 : D) (S : DSt) : Prop :=
  optW (offD 2 x2) fun v73 =>
  optW (loadSc S v73) fun v74 =>
  optW (lenSl v74) fun v75 =>
  optW (binI .lss x9 v75) fun v76 =>
  optW (valGD (wantsD v76 true) (some x5)) fun v77 =>
  optW (valGD (wantsD v76 true) (some x1)) fun v78 =>
  optW (valGD (wantsD v76 true) (binI .leq v77 v78)) fun v79 =>
  optW (pickD v76 v79 (.bool false)) fun v80 =>
  condD v80
  (optW (offD 2 x2) fun v81 =>
  optW (loadSc S v81) fun v82 =>
  optW (idxSl 6 v82 x9) fun v83 =>
  optW (loadAg S 6 v83) fun v84 =>
  allocD S [(.str []), .nilSlc, .nilSlc, (.int .i64 0), (.int .i64 0), .nilSlc] fun v85 S86 =>
  storeD S86 6 v85 v84 fun v87 S88 =>
  optW (offD 0 v85) fun v89 =>
  optW (loadSc S88 v89) fun v90 =>
  optW (lenStr v90) fun v91 =>
  optW (binI .add x5 v91) fun v92 =>
  optW (offD 1 v85) fun v93 =>
  optW (loadSc S88 v93) fun v94 =>
  optW (lenSl v94) fun v95 =>
  optW (binI .add v92 v95) fun v96 =>
  optW (offD 2 v85) fun v97 =>
  optW (loadSc S88 v97) fun v98 =>
  optW (lenSl v98) fun v99 =>
  optW (binI .add v96 v99) fun v100 =>
  optW (offD 5 v85) fun v101 =>
  optW (loadSc S88 v101) fun v102 =>
  optW (lenSl v102) fun v103 =>
  optW (binI .add v100 v103) fun v104 =>
  optW (binI .add x9 (.int .i64 1)) fun v105 =>
  N3 x1 x2 v104 v105 S88)
  (Q x5 S)
theorem B_kit_Bulk_3_ok {E : Env} {w0 : World} {x : Bool} {N3 : D → D → D → D → DSt → Prop} {Q : D → DSt → Prop} {x1 x2 x5 x9 : D} {S : DSt} (h : B_kit_Bulk_3 E w0 x N3 Q x1 x2 x5 x9 S) :
    CodeD Try.prog E w0 x L_kit_Bulk_3 (mkRow 135 [1, 2, 5, 9] [x1, x2, x5, x9]) S (loopKD (fun T S => N3 (T.getD 1 undefD) (T.getD 2 undefD) (T.getD 5 undefD) (T.getD 9 undefD) S) (K_kit_Bulk_3 E w0 x Q)) := codeD_of_vc lo_kit_Bulk cu_kit_Bulk mixed (by kernel_rfl) h
theorem loop_kit_Bulk_3 {E : Env} {w0 : World} {x : Bool} {Q : D → DSt → Prop} (I : Nat → D → D → D → D → DSt → Prop)
    (step : ∀ n x1 x2 x5 x9 S, I n x1 x2 x5 x9 S → B_kit_Bulk_3 E w0 x (fun x1 x2 x5 x9 S => ∃ m, m < n ∧ I m x1 x2 x5 x9 S) Q x1 x2 x5 x9 S)
    {n : Nat} {x1 x2 x5 x9 : D} {S : DSt} (h : I n x1 x2 x5 x9 S) : CodeD Try.prog E w0 x (.loop L_kit_Bulk_3) (mkRow 135 [1, 2, 5, 9] [x1, x2, x5, x9]) S (K_kit_Bulk_3 E w0 x Q) :=
  codeD_loop (k := 135) (n := n) (I := fun n T S => I n (T.getD 1 undefD) (T.getD 2 undefD) (T.getD 5 undefD) (T.getD 9 undefD) S) (fun n T S hl hI => codeD_row [1, 2, 5, 9] hl (CodeD.mono (B_kit_Bulk_3_ok (step n _ _ _ _ S hI)) fun ex T' S' _ hq => by cases ex <;> exact hq)) (mkRow_length ..) (Eq.mp (by kernel_rfl) h)
noncomputable def L_kit_Bulk_2 : Code := (codeAt [1, 1, 1, 0, 1, 0, 0] (Try.f9.body.getD .skip))
def K_kit_Bulk_2 (E : Env) (w0 : World) (x : Bool) (Q : D → DSt → Prop) : AExit → List D → DSt → Prop :=
  (blockD 4 (seqD Try.prog E w0 x lo_kit_Bulk cu_kit_Bulk (codeAt [1, 1, 1, 1] (Try.f9.body.getD .skip)) (retD Try.prog Try.f9 Q)))
def B_kit_Bulk_2 (E : Env) (w0 : World) (x : Bool) (N2 : D → D → D → D → DSt → Prop) (Q : D → DSt → Prop) (x1 x2 x5 x8 : D) (S : DSt) : Prop :=
  optW (offD 1 x2) fun v58 =>
  optW (loadSc S v58) fun v59 =>
  optW (lenSl v59) fun v60 =>
  optW (binI .lss x8 v60) fun v61 =>
  optW (valGD (wantsD v61 true) (some x5)) fun v62 =>
  optW (valGD (wantsD v61 true) (some x1)) fun v63 =>
  optW (valGD (wantsD v61 true) (binI .leq v62 v63)) fun v64 =>
  optW (pickD v61 v64 (.bool false)) fun v65 =>
  condD v65
  (optW (offD 1 x2) fun v66 =>
  optW (loadSc S v66) fun v67 =>
  optW (idxSl 1 v67 x8) fun v68 =>
  optW (loadSc S v68) fun v69 =>
  optW (lenStr v69) fun v70 =>
  optW (binI .add x5 v70) fun v71 =>
  optW (binI .add x8 (.int .i64 1)) fun v72 =>
  N2 x1 x2 v71 v72 S)
  (CodeD Try.prog E w0 x (.loop L_kit_Bulk_3) (mkRow 135 [1, 2, 5, 9] [x1, x2, x5, (.int .i64 0)]) S (K_kit_Bulk_3 E w0 x Q))
theorem B_kit_Bulk_2_ok {E : Env} {w0 : World} {x : Bool} {N2 : D → D → D → D → DSt → Prop} {Q : D → DSt → Prop} {x1 x2 x5 x8 : D} {S : DSt} (h : B_kit_Bulk_2 E w0 x N2 Q x1 x2 x5 x8 S) :
    CodeD Try.prog E w0 x L_kit_Bulk_2 (mkRow 135 [1, 2, 5, 8] [x1, x2, x5, x8]) S (loopKD (fun T S => N2 (T.getD 1 undefD) (T.getD 2 undefD) (T.getD 5 undefD) (T.getD 8 undefD) S) (K_kit_Bulk_2 E w0 x Q)) := codeD_of_vc lo_kit_Bulk cu_kit_Bulk mixed (by kernel_rfl) h
theorem loop_kit_Bulk_2 {E : Env} {w0 : World} {x : Bool} {Q : D → DSt → Prop} (I : Nat → D → D → D → D → DSt → Prop)
    (step : ∀ n x1 x2 x5 x8 S, I n x1 x2 x5 x8 S → B_kit_Bulk_2 E w0 x (fun x1 x2 x5 x8 S => ∃ m, m < n ∧ I m x1 x2 x5 x8 S) Q x1 x2 x5 x8 S)
    {n : Nat} {x1 x2 x5 x8 : D} {S : DSt} (h : I n x1 x2 x5 x8 S) : CodeD Try.prog E w0 x (.loop L_kit_Bulk_2) (mkRow 135 [1, 2, 5, 8] [x1, x2, x5, x8]) S (K_kit_Bulk_2 E w0 x Q) :=
  codeD_loop (k := 135) (n := n) (I := fun n T S => I n (T.getD 1 undefD) (T.getD 2 undefD) (T.getD 5 undefD) (T.getD 8 undefD) S) (fun n T S hl hI => codeD_row [1, 2, 5, 8] hl (CodeD.mono (B_kit_Bulk_2_ok (step n _ _ _ _ S hI)) fun ex T' S' _ hq => by cases ex <;> exact hq)) (mkRow_length ..) (Eq.mp (by kernel_rfl) h)
noncomputable def L_kit_Bulk_0 : Code := (codeAt [1, 1, 0, 1, 0, 0] (Try.f9.body.getD .skip))
def K_kit_Bulk_0 (E : Env) (w0 : World) (x : Bool) (Q : D → DSt → Prop) : AExit → List D → DSt → Prop :=
  (blockD 0 (seqD Try.prog E w0 x lo_kit_Bulk cu_kit_Bulk (codeAt [1, 1, 1] (Try.f9.body.getD .skip)) (retD Try.prog Try.f9 Q)))
def B_kit_Bulk_0 (E : Env) (w0 : World) (x : Bool) (N0 : D → D → D → D → DSt → Prop) (Q : D → DSt → Prop) (x1 x2 x5 x6 : D) (S : DSt) : Prop :=
  optW (offD 0 x2) fun v13 =>
  optW (loadSc S v13) fun v14 =>
  optW (lenSl v14) fun v15 =>
  optW (binI .lss x6 v15) fun v16 =>
  optW (valGD (wantsD v16 true) (some x5)) fun v17 =>
  optW (valGD (wantsD v16 true) (some x1)) fun v18 =>
  optW (valGD (wantsD v16 true) (binI .leq v17 v18)) fun v19 =>
  optW (pickD v16 v19 (.bool false)) fun v20 =>
  condD v20
  (optW (offD 0 x2) fun v21 =>
  optW (loadSc S v21) fun v22 => (True) ∧
  optW (idxSl 5 v22 x6) fun v23 =>
  optW (offD 1 v23) fun v24 =>
  optW (loadSc S v24) fun v25 => (True) ∧
  optW (lenStr v25) fun v26 => (True) ∧
  optW (binI .add x5 v26) fun v27 =>
  optW (offD 0 x2) fun v28 =>
  optW (loadSc S v28) fun v29 => (True) ∧
  optW (idxSl 5 v29 x6) fun v30 =>
  optW (offD 2 v30) fun v31 =>
  optW (loadSc S v31) fun v32 => (True) ∧
  optW (lenSl v32) fun v33 => (True) ∧
  optW (binI .add v27 v33) fun v34 =>
  CodeD Try.prog E w0 x (.loop L_kit_Bulk_1) (mkRow 135 [1, 2, 5, 6, 7] [x1, x2, v34, x6, (.int .i64 0)]) S (K_kit_Bulk_1 E w0 x N0 Q))
  (CodeD Try.prog E w0 x (.loop L_kit_Bulk_2) (mkRow 135 [1, 2, 5, 8] [x1, x2, x5, (.int .i64 0)]) S (K_kit_Bulk_2 E w0 x Q))
theorem B_kit_Bulk_0_ok {E : Env} {w0 : World} {x : Bool} {N0 : D → D → D → D → DSt → Prop} {Q : D → DSt → Prop} {x1 x2 x5 x6 : D} {S : DSt} (h : B_kit_Bulk_0 E w0 x N0 Q x1 x2 x5 x6 S) :
    CodeD Try.prog E w0 x L_kit_Bulk_0 (mkRow 135 [1, 2, 5, 6] [x1, x2, x5, x6]) S (loopKD (fun T S => N0 (T.getD 1 undefD) (T.getD 2 undefD) (T.getD 5 undefD) (T.getD 6 undefD) S) (K_kit_Bulk_0 E w0 x Q)) := codeD_of_vc lo_kit_Bulk cu_kit_Bulk mixed (by kernel_rfl) h
theorem loop_kit_Bulk_0 {E : Env} {w0 : World} {x : Bool} {Q : D → DSt → Prop} (I : Nat → D → D → D → D → DSt → Prop)
    (step : ∀ n x1 x2 x5 x6 S, I n x1 x2 x5 x6 S → B_kit_Bulk_0 E w0 x (fun x1 x2 x5 x6 S => ∃ m, m < n ∧ I m x1 x2 x5 x6 S) Q x1 x2 x5 x6 S)
    {n : Nat} {x1 x2 x5 x6 : D} {S : DSt} (h : I n x1 x2 x5 x6 S) : CodeD Try.prog E w0 x (.loop L_kit_Bulk_0) (mkRow 135 [1, 2, 5, 6] [x1, x2, x5, x6]) S (K_kit_Bulk_0 E w0 x Q) :=
  codeD_loop (k := 135) (n := n) (I := fun n T S => I n (T.getD 1 undefD) (T.getD 2 undefD) (T.getD 5 undefD) (T.getD 6 undefD) S) (fun n T S hl hI => codeD_row [1, 2, 5, 6] hl (CodeD.mono (B_kit_Bulk_0_ok (step n _ _ _ _ S hI)) fun ex T' S' _ hq => by cases ex <;> exact hq)) (mkRow_length ..) (Eq.mp (by kernel_rfl) h)
def V_kit_Bulk (E : Env) (w0 : World) (x : Bool) (Q : D → DSt → Prop) (a0 a1 : D) (S : DSt) : Prop :=
  optW (cellsD a0) fun cs => allocD S cs fun v0 S1 =>
  optW (offD 0 v0) fun v2 =>
  optW (loadSc S1 v2) fun v3 =>
  optW (lenSl v3) fun v4 =>
  optW (offD 1 v0) fun v5 =>
  optW (loadSc S1 v5) fun v6 =>
  optW (lenSl v6) fun v7 =>
  optW (binI .add v4 v7) fun v8 =>
  optW (offD 2 v0) fun v9 =>
  optW (loadSc S1 v9) fun v10 =>
  optW (lenSl v10) fun v11 =>
  optW (binI .add v8 v11) fun v12 =>
  CodeD Try.prog E w0 x (.loop L_kit_Bulk_0) (mkRow 135 [1, 2, 5, 6] [a1, v0, v12, (.int .i64 0)]) S1 (K_kit_Bulk_0 E w0 x Q)
theorem V_kit_Bulk_ok {E : Env} {w0 : World} {x : Bool} {Q : D → DSt → Prop} {a0 a1 : D} {S : DSt} (h : V_kit_Bulk E w0 x (FinD E Q) a0 a1 S) : DFn Try.prog E w0 x f_kit_Bulk [a0, a1] S Q :=
  fnD_of_vc lo_kit_Bulk cu_kit_Bulk (fn := Try.f9) (c := Try.f9.body.getD .skip) mixed Try.func9 (by kernel_rfl) (by kernel_rfl) h
end Go.Proofs.Ytchnpgddpaonhaa.d
end

section
open Go.Proofs Go Go.Am Go.Op
namespace Go.Proofs.Ytchnpgddpaonhaa.d
set_option linter.unusedVariables false
set_option linter.unusedSimpArgs false
set_option maxRecDepth 100000
/-- Numbers. -/
def iC (l : List Int) : List (List D) := ones (l.map (D.int .i64))
def iD (l : List Int) : D := .lst (iC l) 1
@[simp] theorem iC_length (l : List Int) : (iC l).length = l.length := by simp [iC]
theorem iC_at {l : List Int} {i : Nat} {n : Int} (h : l[i]? = some n) : (iC l)[i]? = some [.int .i64 n] := ones_get (by rw [List.getElem?_map, h]; rfl)
theorem iD_at {l : List Int} {i : Nat} {n : Int} (h : l[i]? = some n) : idxSl 1 (iD l) (.int .i64 (i : Int)) = some (.elt [.int .i64 n] 0) := idxL (iC_at h)
@[simp] theorem iD_len (l : List Int) : lenSl (iD l) = some (.int .i64 l.length) := by simp [iD]
@[simp] theorem iD_rows (S : DSt) (l : List Int) : rowsS S 1 (iD l) = some (iC l) := by simp [iD, rowsS, rowsOf]
theorem iC_append (a b : List Int) : iC (a ++ b) = iC a ++ iC b := by simp [iC, ones]
/-- Numbers that are lent: with marks behind them. -/
def iX (l : List Int) : D := .ext (iC l) (iC [-771, -772, -773]) 1
theorem iX_wk (l : List Int) : Wk (iX l) (iD l) := Wk.ext _ _ _
section
variable {E : Env} {w0 : World}
theorem kit_SameInts_ok {a b : List Int} (hl : a.length < 2 ^ 60) (hb : b.length < 2 ^ 60) : Pure Try.prog E w0 f_kit_SameInts [iD a, iD b] (.bool (decide (a = b))) := fun x S => by
  refine V_kit_SameInts_ok ?_
  unfold V_kit_SameInts
  simp only [iD_len, oD, biNe]
  have e : ((a.length : Int) != b.length) = decide (a.length ≠ b.length) := by
    by_cases h : a.length = b.length <;> simp [h, bne]
    intro h'; exact h (by omega)
  rw [e, cdI]
  refine ⟨fun h => ?_, fun h => ?_⟩
  · rw [decide_eq_false (fun e => h (by rw [e]))]
    exact FinD.pure
  have h : a.length = b.length := by omega
  refine loop_kit_SameInts_0 (I := fun n x0 x1 x5 S' => S' = S ∧ x0 = iD a ∧ x1 = iD b ∧ ∃ i : Nat, x5 = .int .i64 (i : Int) ∧ i + n = a.length ∧ a.take i = b.take i) ?_ (n := a.length) ⟨rfl, rfl, rfl, 0, rfl, by omega, rfl⟩
  rintro n _ _ _ _ ⟨rfl, rfl, rfl, i, rfl, hi, ht⟩
  unfold B_kit_SameInts_0
  simp only [iD_len, oD, biLt]
  rw [cdI]
  refine ⟨fun hlt => ?_, fun hge => ?_⟩
  · have hlt : i < a.length := by omega
    have ea : a[i]? = some a[i] := List.getElem?_eq_getElem hlt
    have eb : b[i]? = some b[i] := List.getElem?_eq_getElem (by omega)
    simp only [iD_at ea, iD_at eb, oD, lsE, List.getElem?_cons_zero, biNe]
    refine ⟨by trivial, by trivial, ?_⟩
    have e : (a[i] != b[i]) = decide (a[i] ≠ b[i]) := by by_cases h : a[i] = b[i] <;> simp [h, bne]
    rw [e, cdI]
    refine ⟨fun hne => ?_, fun he => ?_⟩
    · rw [decide_eq_false (fun e => hne (by simp only [e]))]
      exact FinD.pure
    · rw [biAdd, oD, wrap_i64 (by omega) (by omega)]
      refine ⟨n - 1, by omega, by trivial, by trivial, by trivial, i + 1, rfl, by omega, ?_⟩
      rw [List.take_add_one, List.take_add_one, ht, ea, eb, Classical.not_not.1 he]
  · rw [List.take_of_length_le (by omega), List.take_of_length_le (by omega)] at ht
    rw [decide_eq_true ht]
    exact FinD.pure
theorem kit_LentInts_ok {l : List Int} (hl : l.length < 2 ^ 30) : Pure Try.prog E w0 f_kit_LentInts [iD l] (iX l) := fun x S => by
  refine V_kit_LentInts_ok ?_
  unfold V_kit_LentInts
  refine (Grw.nil S 1).push (iD_rows _ _) (by simp; omega) fun t S1 g => ?_
  refine loop_kit_LentInts_0 (I := fun n x0 x3 x4 S' => x0 = iD l ∧ ∃ j : Nat, x4 = .int .i64 (j : Int) ∧ j + n = 3 ∧ ((j < 3 ∧ Grw S x3 (iC (l ++ [-771, -772, -773].take j)) 1 S') ∨ (j = 3 ∧ x3 = iD (l ++ [-771, -772, -773]) ∧ S' = S))) ?_ (n := 3) ⟨rfl, 0, rfl, by omega, .inl ⟨by omega, by simpa using g⟩⟩
  rintro n _ x3 _ S2 ⟨rfl, j, rfl, hj, hc⟩
  unfold B_kit_LentInts_0
  rw [biLt, oD, cdI]
  refine ⟨fun hlt => ?_, fun hge => ?_⟩
  · obtain ⟨_, g⟩ := hc.resolve_right fun h => by omega
    rw [biSub, oD, wrap_i64 (by omega) (by omega)]
    have hr : fillR 1 (List.replicate 1 [D.int .i64 0]) [(0, .int .i64 (-771 - (j : Int)))] = some (iC [-771 - (j : Int)]) := rfl
    rw [hr]
    refine lit_lst rfl ?_
    have hm : l ++ List.take j [-771, -772, -773] ++ [-771 - (j : Int)] = l ++ List.take (j + 1) [-771, -772, -773] := by
      rcases j with _ | _ | _ | j
      · simp
      · simp
      · simp
      · omega
    by_cases h2 : j = 2
    · subst h2
      refine g.last (news := iC [-771 - ((2 : Nat) : Int)]) rfl (by simp [iC, ones]) (by simp; omega) ?_
      rw [biAdd, oD, wrap_i64 (by omega) (by omega), ← iC_append, hm]
      exact ⟨0, by omega, rfl, 3, rfl, rfl, .inr ⟨rfl, rfl, rfl⟩⟩
    · refine g.push (news := iC [-771 - (j : Int)]) rfl (by simp; omega) fun t' S' g' => ?_
      rw [biAdd, oD, wrap_i64 (by omega) (by omega)]
      rw [← iC_append, hm] at g'
      exact ⟨n - 1, by omega, rfl, j + 1, rfl, by omega, .inl ⟨by omega, g'⟩⟩
  · obtain ⟨h3, rfl, rfl⟩ := hc.resolve_left fun h => by omega
    rw [iD_len, oD, iD, slcL (by simp), oD]
    rw [iC_append, List.take_left' (by simp), List.drop_left' (by simp)]
    exact FinD.pure
end
end Go.Proofs.Ytchnpgddpaonhaa.d
end

section
open Go.Proofs Go Go.Am Go.Op
namespace Go.Proofs.Ytchnpgddpaonhaa.d
set_option linter.unusedVariables false
set_option linter.unusedSimpArgs false
set_option maxRecDepth 100000
def bX (bs : List Int) : D := .ext (ones (bs.map (D.int .u8))) (ones [.int .u8 77]) 1
theorem bX_wk (l : List Int) : Wk (bX l) (bD l) := Wk.ext _ _ _
def strB (bs : List Int) : List UInt8 := bs.map fun b => UInt8.ofNat b.toNat
theorem bytes_of (l : List Int) : (ones (l.map (D.int .u8))).mapM byteD = some (strB l) := by
  induction l with
  | nil => rfl
  | cons b l ih =>
    have : (ones ((b :: l).map (D.int .u8))) = [D.int .u8 b] :: ones (l.map (D.int .u8)) := rfl
    rw [this, List.mapM_cons, ih]
    rfl
theorem convB (S : DSt) (l : List Int) : convBS S (bD l) = some (.str (strB l)) := by
  have : rowsOf S 1 (bD l) = some (ones (l.map (D.int .u8))) := by simp [bD, rowsOf]
  simp only [convBS, this, bytes_of, Option.map_some]
@[simp] theorem armD_rows (S : DSt) (arms : List (Int × Int)) : rowsS S 2 (armD arms) = some (arms.map armR) := by simp [armD, rowsS, rowsOf]
def andO (r k : Option Bool) : Option Bool := match r with
  | some true => k
  | r => r
theorem andO_b (a b : Bool) : andO (some a) (some b) = some (a && b) := by cases a <;> rfl
theorem bneD (a b : Int) : (a != b) = decide (a ≠ b) := by by_cases h : a = b <;> simp [h, bne]
section
variable {E : Env} {w0 : World}
theorem kit_LentCode_ok {l : List Int} (hl : l.length < 2 ^ 30) : Pure Try.prog E w0 f_kit_LentCode [bD l] (bX l) := fun x S => by
  refine V_kit_LentCode_ok ?_
  unfold V_kit_LentCode
  refine (Grw.nil S 1).push (bD_rows _ _) (by simp; omega) fun t S1 g => ?_
  refine lit_lst (rows := ones [.int .u8 77]) rfl ?_
  refine g.last (news := ones [.int .u8 77]) rfl (by simp [ones]) (by simp; omega) ?_
  rw [bD_len, oD, List.nil_append, slcL (by simp), oD, List.take_left' (by simp), List.drop_left' (by simp)]
  exact FinD.pure
end
end Go.Proofs.Ytchnpgddpaonhaa.d
end
