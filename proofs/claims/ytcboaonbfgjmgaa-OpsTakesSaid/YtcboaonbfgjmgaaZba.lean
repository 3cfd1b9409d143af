/-
  Texts Ve, as far as they are used.
-/
import Derived.Test.YtcboaonbfgjmgaaRows
import Derived.Test.YtcboaonbfgjmgaaZau
import Derived.KernelRfl
section
open Go.Proofs Go Go.Am
namespace Go.Proofs.Ytcboaonbfgjmgaa.d
set_option linter.unusedVariables false
set_option maxRecDepth 100000
/- trammel/trammelkit.SameInts -/
def lo_kit_SameInts : List (Nat × List Nat) := [(8, [0, 1, 5])]
def cu_kit_SameInts : List (Nat × List Nat) := []
noncomputable def L_kit_SameInts_0 : Code := (codeAt [1, 1, 0, 1, 0, 0] (Try.f28.body.getD .skip))
def K_kit_SameInts_0 (E : Env) (w0 : World) (x : Bool) (Q : D → DSt → Prop) : AExit → List D → DSt → Prop :=
  (blockD 0 (seqD Try.prog E w0 x lo_kit_SameInts cu_kit_SameInts (codeAt [1, 1, 1] (Try.f28.body.getD .skip)) (retD Try.prog Try.f28 Q)))
def B_kit_SameInts_0 (E : Env) (w0 : World) (x : Bool) (N0 : D → D → D → DSt → Prop) (Q : D → DSt → Prop) (x0 x1 x5 : D) (S : DSt) : Prop :=
  optW (lenSl x0) fun v3 =>
  optW (binI .lss x5 v3) fun v4 =>
  condD v4
  (optW (idxSl 1 x0 x5) fun v5 =>
  optW (loadSc S v5) fun v6 => (True) ∧
  optW (idxSl 1 x1 x5) fun v7 =>
  optW (loadSc S v7) fun v8 => (True) ∧
  optW (binI .neq v6 v8) fun v9 =>
  condD v9
  (Q (.bool false) S)
  (optW (binI .add x5 (.int .i64 1)) fun v10 =>
  N0 x0 x1 v10 S))
  (Q (.bool true) S)
theorem B_kit_SameInts_0_ok {E : Env} {w0 : World} {x : Bool} {N0 : D → D → D → DSt → Prop} {Q : D → DSt → Prop} {x0 x1 x5 : D} {S : DSt} (h : B_kit_SameInts_0 E w0 x N0 Q x0 x1 x5 S) :
    CodeD Try.prog E w0 x L_kit_SameInts_0 (mkRow 26 [0, 1, 5] [x0, x1, x5]) S (loopKD (fun T S => N0 (T.getD 0 undefD) (T.getD 1 undefD) (T.getD 5 undefD) S) (K_kit_SameInts_0 E w0 x Q)) := codeD_of_vc lo_kit_SameInts cu_kit_SameInts mixed (by kernel_rfl) h
theorem loop_kit_SameInts_0 {E : Env} {w0 : World} {x : Bool} {Q : D → DSt → Prop} (I : Nat → D → D → D → DSt → Prop)
    (step : ∀ n x0 x1 x5 S, I n x0 x1 x5 S → B_kit_SameInts_0 E w0 x (fun x0 x1 x5 S => ∃ m, m < n ∧ I m x0 x1 x5 S) Q x0 x1 x5 S)
    {n : Nat} {x0 x1 x5 : D} {S : DSt} (h : I n x0 x1 x5 S) : CodeD Try.prog E w0 x (.loop L_kit_SameInts_0) (mkRow 26 [0, 1, 5] [x0, x1, x5]) S (K_kit_SameInts_0 E w0 x Q) :=
  codeD_loop (k := 26) (n := n) (I := fun n T S => I n (T.getD 0 undefD) (T.getD 1 undefD) (T.getD 5 undefD) S) (fun n T S hl hI => codeD_row [0, 1, 5] hl (CodeD.mono (B_kit_SameInts_0_ok (step n _ _ _ S hI)) fun ex T' S' _ hq => by cases ex <;> exact hq)) (mkRow_length ..) (Eq.mp (by kernel_rfl) h)
def V_kit_SameInts (E : Env) (w0 : World) (x : Bool) (Q : D → DSt → Prop) (a0 a1 : D) (S : DSt) : Prop :=
  optW (lenSl a0) fun v0 =>
  optW (lenSl a1) fun v1 =>
  optW (binI .neq v0 v1) fun v2 =>
  condD v2
  (Q (.bool false) S)
  (CodeD Try.prog E w0 x (.loop L_kit_SameInts_0) (mkRow 26 [0, 1, 5] [a0, a1, (.int .i64 0)]) S (K_kit_SameInts_0 E w0 x Q))
theorem V_kit_SameInts_ok {E : Env} {w0 : World} {x : Bool} {Q : D → DSt → Prop} {a0 a1 : D} {S : DSt} (h : V_kit_SameInts E w0 x (FinD E Q) a0 a1 S) : DFn Try.prog E w0 x f_kit_SameInts [a0, a1] S Q :=
  fnD_of_vc lo_kit_SameInts cu_kit_SameInts (fn := Try.f28) (c := Try.f28.body.getD .skip) mixed Try.func28 (by kernel_rfl) (by kernel_rfl) h

/- trammel/trammelkit.LentInts -/
def lo_kit_LentInts : List (Nat × List Nat) := [(8, [0, 3, 4])]
def cu_kit_LentInts : List (Nat × List Nat) := []
noncomputable def L_kit_LentInts_0 : Code := (codeAt [1, 1, 1, 0, 1, 0, 0] (Try.f50.body.getD .skip))
def K_kit_LentInts_0 (E : Env) (w0 : World) (x : Bool) (Q : D → DSt → Prop) : AExit → List D → DSt → Prop :=
  (blockD 0 (seqD Try.prog E w0 x lo_kit_LentInts cu_kit_LentInts (codeAt [1, 1, 1, 1] (Try.f50.body.getD .skip)) (retD Try.prog Try.f50 Q)))
def B_kit_LentInts_0 (E : Env) (w0 : World) (x : Bool) (N0 : D → D → D → DSt → Prop) (Q : D → DSt → Prop) (x0 x3 x4 : D) (S : DSt) : Prop :=
  optW (binI .lss x4 (.int .i64 3)) fun v2 =>
  condD v2
  (optW (binI .sub (.int .i64 (-771)) x4) fun v3 =>
  litD S 1 (fillR 1 (List.replicate 1 [(.int .i64 0)]) [(0, v3)]) 1 fun v4 S5 =>
  appendD S5 1 8 x3 v4 fun v6 S7 =>
  optW (binI .add x4 (.int .i64 1)) fun v8 =>
  N0 x0 v6 v8 S7)
  (optW (lenSl x0) fun v9 =>
  optW (sliceSl 1 x3 none (some v9) none) fun v10 =>
  Q v10 S)
theorem B_kit_LentInts_0_ok {E : Env} {w0 : World} {x : Bool} {N0 : D → D → D → DSt → Prop} {Q : D → DSt → Prop} {x0 x3 x4 : D} {S : DSt} (h : B_kit_LentInts_0 E w0 x N0 Q x0 x3 x4 S) :
    CodeD Try.prog E w0 x L_kit_LentInts_0 (mkRow 21 [0, 3, 4] [x0, x3, x4]) S (loopKD (fun T S => N0 (T.getD 0 undefD) (T.getD 3 undefD) (T.getD 4 undefD) S) (K_kit_LentInts_0 E w0 x Q)) := codeD_of_vc lo_kit_LentInts cu_kit_LentInts mixed (by kernel_rfl) h
theorem loop_kit_LentInts_0 {E : Env} {w0 : World} {x : Bool} {Q : D → DSt → Prop} (I : Nat → D → D → D → DSt → Prop)
    (step : ∀ n x0 x3 x4 S, I n x0 x3 x4 S → B_kit_LentInts_0 E w0 x (fun x0 x3 x4 S => ∃ m, m < n ∧ I m x0 x3 x4 S) Q x0 x3 x4 S)
    {n : Nat} {x0 x3 x4 : D} {S : DSt} (h : I n x0 x3 x4 S) : CodeD Try.prog E w0 x (.loop L_kit_LentInts_0) (mkRow 21 [0, 3, 4] [x0, x3, x4]) S (K_kit_LentInts_0 E w0 x Q) :=
  codeD_loop (k := 21) (n := n) (I := fun n T S => I n (T.getD 0 undefD) (T.getD 3 undefD) (T.getD 4 undefD) S) (fun n T S hl hI => codeD_row [0, 3, 4] hl (CodeD.mono (B_kit_LentInts_0_ok (step n _ _ _ S hI)) fun ex T' S' _ hq => by cases ex <;> exact hq)) (mkRow_length ..) (Eq.mp (by kernel_rfl) h)
def V_kit_LentInts (E : Env) (w0 : World) (x : Bool) (Q : D → DSt → Prop) (a0 : D) (S : DSt) : Prop :=
  appendD S 1 8 .nilSlc a0 fun v0 S1 =>
  CodeD Try.prog E w0 x (.loop L_kit_LentInts_0) (mkRow 21 [0, 3, 4] [a0, v0, (.int .i64 0)]) S1 (K_kit_LentInts_0 E w0 x Q)
theorem V_kit_LentInts_ok {E : Env} {w0 : World} {x : Bool} {Q : D → DSt → Prop} {a0 : D} {S : DSt} (h : V_kit_LentInts E w0 x (FinD E Q) a0 S) : DFn Try.prog E w0 x f_kit_LentInts [a0] S Q :=
  fnD_of_vc lo_kit_LentInts cu_kit_LentInts (fn := Try.f50) (c := Try.f50.body.getD .skip) mixed Try.func50 (by kernel_rfl) (by kernel_rfl) h

/- trammel/trammelkit.KeptInts -/
def lo_kit_KeptInts : List (Nat × List Nat) := [(10, [1, 5, 6])]
def cu_kit_KeptInts : List (Nat × List Nat) := []
noncomputable def L_kit_KeptInts_0 : Code := (codeAt [1, 1, 1, 0, 1, 0, 0] (Try.f61.body.getD .skip))
def K_kit_KeptInts_0 (E : Env) (w0 : World) (x : Bool) (Q : D → DSt → Prop) : AExit → List D → DSt → Prop :=
  (blockD 0 (seqD Try.prog E w0 x lo_kit_KeptInts cu_kit_KeptInts (codeAt [1, 1, 1, 1] (Try.f61.body.getD .skip)) (retD Try.prog Try.f61 Q)))
def B_kit_KeptInts_0 (E : Env) (w0 : World) (x : Bool) (N0 : D → D → D → DSt → Prop) (Q : D → DSt → Prop) (x1 x5 x6 : D) (S : DSt) : Prop :=
  optW (binI .lss x6 (.int .i64 3)) fun v6 =>
  condD v6
  (optW (lenSl x1) fun v7 =>
  optW (binI .add v7 x6) fun v8 =>
  optW (idxSl 1 x5 v8) fun v9 =>
  optW (loadSc S v9) fun v10 =>
  optW (binI .sub (.int .i64 (-771)) x6) fun v11 =>
  optW (binI .neq v10 v11) fun v12 =>
  condD v12
  (Q (.bool false) S)
  (optW (binI .add x6 (.int .i64 1)) fun v13 =>
  N0 x1 x5 v13 S))
  (Q (.bool true) S)
theorem B_kit_KeptInts_0_ok {E : Env} {w0 : World} {x : Bool} {N0 : D → D → D → DSt → Prop} {Q : D → DSt → Prop} {x1 x5 x6 : D} {S : DSt} (h : B_kit_KeptInts_0 E w0 x N0 Q x1 x5 x6 S) :
    CodeD Try.prog E w0 x L_kit_KeptInts_0 (mkRow 30 [1, 5, 6] [x1, x5, x6]) S (loopKD (fun T S => N0 (T.getD 1 undefD) (T.getD 5 undefD) (T.getD 6 undefD) S) (K_kit_KeptInts_0 E w0 x Q)) := codeD_of_vc lo_kit_KeptInts cu_kit_KeptInts mixed (by kernel_rfl) h
theorem loop_kit_KeptInts_0 {E : Env} {w0 : World} {x : Bool} {Q : D → DSt → Prop} (I : Nat → D → D → D → DSt → Prop)
    (step : ∀ n x1 x5 x6 S, I n x1 x5 x6 S → B_kit_KeptInts_0 E w0 x (fun x1 x5 x6 S => ∃ m, m < n ∧ I m x1 x5 x6 S) Q x1 x5 x6 S)
    {n : Nat} {x1 x5 x6 : D} {S : DSt} (h : I n x1 x5 x6 S) : CodeD Try.prog E w0 x (.loop L_kit_KeptInts_0) (mkRow 30 [1, 5, 6] [x1, x5, x6]) S (K_kit_KeptInts_0 E w0 x Q) :=
  codeD_loop (k := 30) (n := n) (I := fun n T S => I n (T.getD 1 undefD) (T.getD 5 undefD) (T.getD 6 undefD) S) (fun n T S hl hI => codeD_row [1, 5, 6] hl (CodeD.mono (B_kit_KeptInts_0_ok (step n _ _ _ S hI)) fun ex T' S' _ hq => by cases ex <;> exact hq)) (mkRow_length ..) (Eq.mp (by kernel_rfl) h)
def V_kit_KeptInts (E : Env) (w0 : World) (x : Bool) (Q : D → DSt → Prop) (a0 a1 : D) (S : DSt) : Prop :=
  DFn Try.prog E w0 x f_kit_SameInts [a0, a1] S fun v0 S1 =>
  optW (unD .not v0) fun v2 =>
  condD v2
  (Q (.bool false) S1)
  (optW (lenSl a1) fun v3 =>
  optW (binI .add v3 (.int .i64 3)) fun v4 =>
  optW (sliceSl 1 a0 none (some v4) none) fun v5 =>
  CodeD Try.prog E w0 x (.loop L_kit_KeptInts_0) (mkRow 30 [1, 5, 6] [a1, v5, (.int .i64 0)]) S1 (K_kit_KeptInts_0 E w0 x Q))
theorem V_kit_KeptInts_ok {E : Env} {w0 : World} {x : Bool} {Q : D → DSt → Prop} {a0 a1 : D} {S : DSt} (h : V_kit_KeptInts E w0 x (FinD E Q) a0 a1 S) : DFn Try.prog E w0 x f_kit_KeptInts [a0, a1] S Q :=
  fnD_of_vc lo_kit_KeptInts cu_kit_KeptInts (fn := Try.f61) (c := Try.f61.body.getD .skip) mixed Try.func61 (by kernel_rfl) (by kernel_rfl) h

/- trammel/trammelkit.LentCode -/
def lo_kit_LentCode : List (Nat × List Nat) := []
def cu_kit_LentCode : List (Nat × List Nat) := []
def V_kit_LentCode (E : Env) (w0 : World) (x : Bool) (Q : D → DSt → Prop) (a0 : D) (S : DSt) : Prop :=
  appendD S 1 1 .nilSlc a0 fun v0 S1 =>
  litD S1 1 (fillR 1 (List.replicate 1 [(.int .u8 0)]) [(0, (.int .u8 77))]) 1 fun v2 S3 =>
  appendD S3 1 1 v0 v2 fun v4 S5 =>
  optW (lenSl a0) fun v6 =>
  optW (sliceSl 1 v4 none (some v6) none) fun v7 =>
  Q v7 S5
theorem V_kit_LentCode_ok {E : Env} {w0 : World} {x : Bool} {Q : D → DSt → Prop} {a0 : D} {S : DSt} (h : V_kit_LentCode E w0 x (FinD E Q) a0 S) : DFn Try.prog E w0 x f_kit_LentCode [a0] S Q :=
  fnD_of_vc lo_kit_LentCode cu_kit_LentCode (fn := Try.f23) (c := Try.f23.body.getD .skip) mixed Try.func23 (by kernel_rfl) (by kernel_rfl) h

/- trammel/trammelkit.KeptCode -/
def lo_kit_KeptCode : List (Nat × List Nat) := []
def cu_kit_KeptCode : List (Nat × List Nat) := []
def V_kit_KeptCode (E : Env) (w0 : World) (x : Bool) (Q : D → DSt → Prop) (a0 a1 : D) (S : DSt) : Prop :=
  optW (convBS S a0) fun v0 =>
  optW (convBS S a1) fun v1 =>
  optW (binS .eql v0 v1) fun v2 =>
  optW (valGD (wantsD v2 true) (some a0)) fun v3 =>
  optW (valGD (wantsD v2 true) (some a1)) fun v4 =>
  optW (valGD (wantsD v2 true) (lenSl v4)) fun v5 =>
  optW (valGD (wantsD v2 true) (binI .add v5 (.int .i64 1))) fun v6 =>
  optW (valGD (wantsD v2 true) (sliceSl 1 v3 none (some v6) none)) fun v7 =>
  optW (valGD (wantsD v2 true) (some a1)) fun v8 =>
  optW (valGD (wantsD v2 true) (lenSl v8)) fun v9 =>
  optW (valGD (wantsD v2 true) (idxSl 1 v7 v9)) fun v10 =>
  optW (valGD (wantsD v2 true) (loadSc S v10)) fun v11 =>
  optW (valGD (wantsD v2 true) (binI .eql v11 (.int .u8 77))) fun v12 =>
  optW (pickD v2 v12 (.bool false)) fun v13 =>
  Q v13 S
theorem V_kit_KeptCode_ok {E : Env} {w0 : World} {x : Bool} {Q : D → DSt → Prop} {a0 a1 : D} {S : DSt} (h : V_kit_KeptCode E w0 x (FinD E Q) a0 a1 S) : DFn Try.prog E w0 x f_kit_KeptCode [a0, a1] S Q :=
  fnD_of_vc lo_kit_KeptCode cu_kit_KeptCode (fn := Try.f29) (c := Try.f29.body.getD .skip) mixed Try.func29 (by kernel_rfl) (by kernel_rfl) h

/- trammel/trammelkit.LentInstr -/
def lo_kit_LentInstr : List (Nat × List Nat) := []
def cu_kit_LentInstr : List (Nat × List Nat) := []
def V_kit_LentInstr (E : Env) (w0 : World) (x : Bool) (Q : D → DSt → Prop) (a0 : D) (S : DSt) : Prop :=
  optW (cellsD a0) fun cs => allocD S cs fun v0 S1 =>
  allocD S1 [(.int .u8 0), (.int .i64 0), (.int .i64 0), .nilSlc] fun v2 S3 =>
  optW (offD 0 v0) fun v4 =>
  optW (loadSc S3 v4) fun v5 =>
  optW (offD 1 v0) fun v6 =>
  optW (loadSc S3 v6) fun v7 =>
  optW (offD 2 v0) fun v8 =>
  optW (loadSc S3 v8) fun v9 =>
  optW (aggD (fillD [(.int .u8 0), (.int .i64 0), (.int .i64 0), .nilSlc] [(0, 1, v5), (1, 1, v7), (2, 1, v9)])) fun v10 =>
  allocD S3 [(.int .u8 0), (.int .i64 0), (.int .i64 0), .nilSlc] fun v11 S12 =>
  storeD S12 4 v11 v10 fun v13 S14 =>
  optW (offD 3 v11) fun v15 =>
  optW (loadSc S14 v15) fun v16 =>
  optW (offD 3 v0) fun v17 =>
  optW (loadSc S14 v17) fun v18 =>
  appendD S14 2 16 v16 v18 fun v19 S20 =>
  optW (offD 3 v11) fun v21 =>
  storeD S20 1 v21 v19 fun v22 S23 =>
  optW (offD 3 v11) fun v24 =>
  optW (loadSc S23 v24) fun v25 =>
  optW (aggD (fillD [(.int .i64 0), (.int .i64 0)] [(0, 1, (.int .i64 77))])) fun v26 =>
  litD S23 2 (fillR 2 (List.replicate 1 [(.int .i64 0), (.int .i64 0)]) [(0, v26)]) 1 fun v27 S28 =>
  appendD S28 2 16 v25 v27 fun v29 S30 =>
  optW (offD 3 v11) fun v31 =>
  storeD S30 1 v31 v29 fun v32 S33 =>
  optW (offD 3 v11) fun v34 =>
  optW (loadSc S33 v34) fun v35 =>
  optW (offD 3 v0) fun v36 =>
  optW (loadSc S33 v36) fun v37 =>
  optW (lenSl v37) fun v38 =>
  optW (sliceSl 2 v35 none (some v38) none) fun v39 =>
  optW (offD 3 v11) fun v40 =>
  storeD S33 1 v40 v39 fun v41 S42 =>
  optW (loadAg S42 4 v11) fun v43 =>
  storeD S42 4 v2 v43 fun v44 S45 =>
  optW (loadAg S45 4 v2) fun v46 => Q v46 S45
theorem V_kit_LentInstr_ok {E : Env} {w0 : World} {x : Bool} {Q : D → DSt → Prop} {a0 : D} {S : DSt} (h : V_kit_LentInstr E w0 x (FinD E Q) a0 S) : DFn Try.prog E w0 x f_kit_LentInstr [a0] S Q :=
  fnD_of_vc lo_kit_LentInstr cu_kit_LentInstr (fn := Try.f12) (c := Try.f12.body.getD .skip) mixed Try.func12 (by kernel_rfl) (by kernel_rfl) h

/- trammel/trammelkit.SameInstr -/
def lo_kit_SameInstr : List (Nat × List Nat) := [(8, [2, 3, 5])]
def cu_kit_SameInstr : List (Nat × List Nat) := []
noncomputable def L_kit_SameInstr_0 : Code := (codeAt [1, 1, 0, 1, 0, 0] (Try.f21.body.getD .skip))
def K_kit_SameInstr_0 (E : Env) (w0 : World) (x : Bool) (Q : D → DSt → Prop) : AExit → List D → DSt → Prop :=
  (blockD 0 (seqD Try.prog E w0 x lo_kit_SameInstr cu_kit_SameInstr (codeAt [1, 1, 1] (Try.f21.body.getD .skip)) (retD Try.prog Try.f21 Q)))
def B_kit_SameInstr_0 (E : Env) (w0 : World) (x : Bool) (N0 : D → D → D → DSt → Prop) (Q : D → DSt → Prop) (x2 x3 x5 : D) (S : DSt) : Prop :=
  optW (offD 3 x2) fun v29 =>
  optW (loadSc S v29) fun v30 =>
  optW (lenSl v30) fun v31 =>
  optW (binI .lss x5 v31) fun v32 =>
  condD v32
  (optW (offD 3 x2) fun v33 =>
  optW (loadSc S v33) fun v34 => (True) ∧
  optW (idxSl 2 v34 x5) fun v35 =>
  optW (loadAg S 2 v35) fun v36 => (True) ∧
  optW (offD 3 x3) fun v37 =>
  optW (loadSc S v37) fun v38 => (True) ∧
  optW (idxSl 2 v38 x5) fun v39 =>
  optW (loadAg S 2 v39) fun v40 => (True) ∧
  optW (eqOp .neq (eqAg Try.prog t_api_Arm v36 v40)) fun v41 =>
  condD v41
  (Q (.bool false) S)
  (optW (binI .add x5 (.int .i64 1)) fun v42 =>
  N0 x2 x3 v42 S))
  (Q (.bool true) S)
theorem B_kit_SameInstr_0_ok {E : Env} {w0 : World} {x : Bool} {N0 : D → D → D → DSt → Prop} {Q : D → DSt → Prop} {x2 x3 x5 : D} {S : DSt} (h : B_kit_SameInstr_0 E w0 x N0 Q x2 x3 x5 S) :
    CodeD Try.prog E w0 x L_kit_SameInstr_0 (mkRow 52 [2, 3, 5] [x2, x3, x5]) S (loopKD (fun T S => N0 (T.getD 2 undefD) (T.getD 3 undefD) (T.getD 5 undefD) S) (K_kit_SameInstr_0 E w0 x Q)) := codeD_of_vc lo_kit_SameInstr cu_kit_SameInstr mixed (by kernel_rfl) h
theorem loop_kit_SameInstr_0 {E : Env} {w0 : World} {x : Bool} {Q : D → DSt → Prop} (I : Nat → D → D → D → DSt → Prop)
    (step : ∀ n x2 x3 x5 S, I n x2 x3 x5 S → B_kit_SameInstr_0 E w0 x (fun x2 x3 x5 S => ∃ m, m < n ∧ I m x2 x3 x5 S) Q x2 x3 x5 S)
    {n : Nat} {x2 x3 x5 : D} {S : DSt} (h : I n x2 x3 x5 S) : CodeD Try.prog E w0 x (.loop L_kit_SameInstr_0) (mkRow 52 [2, 3, 5] [x2, x3, x5]) S (K_kit_SameInstr_0 E w0 x Q) :=
  codeD_loop (k := 52) (n := n) (I := fun n T S => I n (T.getD 2 undefD) (T.getD 3 undefD) (T.getD 5 undefD) S) (fun n T S hl hI => codeD_row [2, 3, 5] hl (CodeD.mono (B_kit_SameInstr_0_ok (step n _ _ _ S hI)) fun ex T' S' _ hq => by cases ex <;> exact hq)) (mkRow_length ..) (Eq.mp (by kernel_rfl) h)
def V_kit_SameInstr (E : Env) (w0 : World) (x : Bool) (Q : D → DSt → Prop) (a0 a1 : D) (S : DSt) : Prop :=
  optW (cellsD a0) fun cs => allocD S cs fun v0 S1 =>
  optW (cellsD a1) fun cs => allocD S1 cs fun v2 S3 =>
  optW (offD 0 v0) fun v4 =>
  optW (loadSc S3 v4) fun v5 =>
  optW (offD 0 v2) fun v6 =>
  optW (loadSc S3 v6) fun v7 =>
  optW (binI .neq v5 v7) fun v8 =>
  optW (valGD (wantsD v8 false) (offD 1 v0)) fun v9 =>
  optW (valGD (wantsD v8 false) (loadSc S3 v9)) fun v10 =>
  optW (valGD (wantsD v8 false) (offD 1 v2)) fun v11 =>
  optW (valGD (wantsD v8 false) (loadSc S3 v11)) fun v12 =>
  optW (valGD (wantsD v8 false) (binI .neq v10 v12)) fun v13 =>
  optW (pickD v8 (.bool true) v13) fun v14 =>
  optW (valGD (wantsD v14 false) (offD 2 v0)) fun v15 =>
  optW (valGD (wantsD v14 false) (loadSc S3 v15)) fun v16 =>
  optW (valGD (wantsD v14 false) (offD 2 v2)) fun v17 =>
  optW (valGD (wantsD v14 false) (loadSc S3 v17)) fun v18 =>
  optW (valGD (wantsD v14 false) (binI .neq v16 v18)) fun v19 =>
  optW (pickD v14 (.bool true) v19) fun v20 =>
  optW (valGD (wantsD v20 false) (offD 3 v0)) fun v21 =>
  optW (valGD (wantsD v20 false) (loadSc S3 v21)) fun v22 =>
  optW (valGD (wantsD v20 false) (lenSl v22)) fun v23 =>
  optW (valGD (wantsD v20 false) (offD 3 v2)) fun v24 =>
  optW (valGD (wantsD v20 false) (loadSc S3 v24)) fun v25 =>
  optW (valGD (wantsD v20 false) (lenSl v25)) fun v26 =>
  optW (valGD (wantsD v20 false) (binI .neq v23 v26)) fun v27 =>
  optW (pickD v20 (.bool true) v27) fun v28 =>
  condD v28
  (Q (.bool false) S3)
  (CodeD Try.prog E w0 x (.loop L_kit_SameInstr_0) (mkRow 52 [2, 3, 5] [v0, v2, (.int .i64 0)]) S3 (K_kit_SameInstr_0 E w0 x Q))
theorem V_kit_SameInstr_ok {E : Env} {w0 : World} {x : Bool} {Q : D → DSt → Prop} {a0 a1 : D} {S : DSt} (h : V_kit_SameInstr E w0 x (FinD E Q) a0 a1 S) : DFn Try.prog E w0 x f_kit_SameInstr [a0, a1] S Q :=
  fnD_of_vc lo_kit_SameInstr cu_kit_SameInstr (fn := Try.f21) (c := Try.f21.body.getD .skip) mixed Try.func21 (by kernel_rfl) (by kernel_rfl) h

/- trammel/trammelkit.KeptInstr -/
def lo_kit_KeptInstr : List (Nat × List Nat) := []
def cu_kit_KeptInstr : List (Nat × List Nat) := []
def V_kit_KeptInstr (E : Env) (w0 : World) (x : Bool) (Q : D → DSt → Prop) (a0 a1 : D) (S : DSt) : Prop :=
  optW (cellsD a0) fun cs => allocD S cs fun v0 S1 =>
  optW (cellsD a1) fun cs => allocD S1 cs fun v2 S3 =>
  optW (loadAg S3 4 v0) fun v4 => (True) ∧
  optW (loadAg S3 4 v2) fun v5 => (True) ∧
  DF E (FnX Try.prog E w0) f_kit_SameInstr [v4, v5] S3 fun v6 S7 => (True) ∧
  optW (valGD (wantsD v6 true) (offD 3 v0)) fun v8 =>
  optW (valGD (wantsD v6 true) (loadSc S7 v8)) fun v9 => (True) ∧
  optW (valGD (wantsD v6 true) (offD 3 v2)) fun v10 =>
  optW (valGD (wantsD v6 true) (loadSc S7 v10)) fun v11 => (True) ∧
  optW (valGD (wantsD v6 true) (lenSl v11)) fun v12 => (True) ∧
  optW (valGD (wantsD v6 true) (binI .add v12 (.int .i64 1))) fun v13 =>
  optW (valGD (wantsD v6 true) (sliceSl 2 v9 none (some v13) none)) fun v14 => (True) ∧
  optW (valGD (wantsD v6 true) (offD 3 v2)) fun v15 =>
  optW (valGD (wantsD v6 true) (loadSc S7 v15)) fun v16 => (True) ∧
  optW (valGD (wantsD v6 true) (lenSl v16)) fun v17 => (True) ∧
  optW (valGD (wantsD v6 true) (idxSl 2 v14 v17)) fun v18 =>
  optW (valGD (wantsD v6 true) (offD 0 v18)) fun v19 =>
  optW (valGD (wantsD v6 true) (loadSc S7 v19)) fun v20 => (True) ∧
  optW (valGD (wantsD v6 true) (binI .eql v20 (.int .i64 77))) fun v21 =>
  optW (pickD v6 v21 (.bool false)) fun v22 =>
  Q v22 S7
theorem V_kit_KeptInstr_ok {E : Env} {w0 : World} {x : Bool} {Q : D → DSt → Prop} {a0 a1 : D} {S : DSt} (h : V_kit_KeptInstr E w0 x (FinD E Q) a0 a1 S) : DFn Try.prog E w0 x f_kit_KeptInstr [a0, a1] S Q :=
  fnD_of_vc lo_kit_KeptInstr cu_kit_KeptInstr (fn := Try.f19) (c := Try.f19.body.getD .skip) mixed Try.func19 (by kernel_rfl) (by kernel_rfl) h

/- trammel/trammelkit.SameFields -/
def lo_kit_SameFields : List (Nat × List Nat) := [(8, [0, 1, 5])]
def cu_kit_SameFields : List (Nat × List Nat) := []
noncomputable def L_kit_SameFields_0 : Code := (codeAt [1, 1, 0, 1, 0, 0] (Try.f80.body.getD .skip))
def K_kit_SameFields_0 (E : Env) (w0 : World) (x : Bool) (Q : D → DSt → Prop) : AExit → List D → DSt → Prop :=
  (blockD 0 (seqD Try.prog E w0 x lo_kit_SameFields cu_kit_SameFields (codeAt [1, 1, 1] (Try.f80.body.getD .skip)) (retD Try.prog Try.f80 Q)))
def B_kit_SameFields_0 (E : Env) (w0 : World) (x : Bool) (N0 : D → D → D → DSt → Prop) (Q : D → DSt → Prop) (x0 x1 x5 : D) (S : DSt) : Prop :=
  optW (lenSl x0) fun v3 =>
  optW (binI .lss x5 v3) fun v4 =>
  condD v4
  (optW (idxSl 2 x0 x5) fun v5 =>
  optW (loadAg S 2 v5) fun v6 => (True) ∧
  optW (idxSl 2 x1 x5) fun v7 =>
  optW (loadAg S 2 v7) fun v8 => (True) ∧
  optW (eqOp .neq (eqAg Try.prog t_api_Field v6 v8)) fun v9 =>
  condD v9
  (Q (.bool false) S)
  (optW (binI .add x5 (.int .i64 1)) fun v10 =>
  N0 x0 x1 v10 S))
  (Q (.bool true) S)
theorem B_kit_SameFields_0_ok {E : Env} {w0 : World} {x : Bool} {N0 : D → D → D → DSt → Prop} {Q : D → DSt → Prop} {x0 x1 x5 : D} {S : DSt} (h : B_kit_SameFields_0 E w0 x N0 Q x0 x1 x5 S) :
    CodeD Try.prog E w0 x L_kit_SameFields_0 (mkRow 26 [0, 1, 5] [x0, x1, x5]) S (loopKD (fun T S => N0 (T.getD 0 undefD) (T.getD 1 undefD) (T.getD 5 undefD) S) (K_kit_SameFields_0 E w0 x Q)) := codeD_of_vc lo_kit_SameFields cu_kit_SameFields mixed (by kernel_rfl) h
theorem loop_kit_SameFields_0 {E : Env} {w0 : World} {x : Bool} {Q : D → DSt → Prop} (I : Nat → D → D → D → DSt → Prop)
    (step : ∀ n x0 x1 x5 S, I n x0 x1 x5 S → B_kit_SameFields_0 E w0 x (fun x0 x1 x5 S => ∃ m, m < n ∧ I m x0 x1 x5 S) Q x0 x1 x5 S)
    {n : Nat} {x0 x1 x5 : D} {S : DSt} (h : I n x0 x1 x5 S) : CodeD Try.prog E w0 x (.loop L_kit_SameFields_0) (mkRow 26 [0, 1, 5] [x0, x1, x5]) S (K_kit_SameFields_0 E w0 x Q) :=
  codeD_loop (k := 26) (n := n) (I := fun n T S => I n (T.getD 0 undefD) (T.getD 1 undefD) (T.getD 5 undefD) S) (fun n T S hl hI => codeD_row [0, 1, 5] hl (CodeD.mono (B_kit_SameFields_0_ok (step n _ _ _ S hI)) fun ex T' S' _ hq => by cases ex <;> exact hq)) (mkRow_length ..) (Eq.mp (by kernel_rfl) h)
def V_kit_SameFields (E : Env) (w0 : World) (x : Bool) (Q : D → DSt → Prop) (a0 a1 : D) (S : DSt) : Prop :=
  optW (lenSl a0) fun v0 =>
  optW (lenSl a1) fun v1 =>
  optW (binI .neq v0 v1) fun v2 =>
  condD v2
  (Q (.bool false) S)
  (CodeD Try.prog E w0 x (.loop L_kit_SameFields_0) (mkRow 26 [0, 1, 5] [a0, a1, (.int .i64 0)]) S (K_kit_SameFields_0 E w0 x Q))
theorem V_kit_SameFields_ok {E : Env} {w0 : World} {x : Bool} {Q : D → DSt → Prop} {a0 a1 : D} {S : DSt} (h : V_kit_SameFields E w0 x (FinD E Q) a0 a1 S) : DFn Try.prog E w0 x f_kit_SameFields [a0, a1] S Q :=
  fnD_of_vc lo_kit_SameFields cu_kit_SameFields (fn := Try.f80) (c := Try.f80.body.getD .skip) mixed Try.func80 (by kernel_rfl) (by kernel_rfl) h

/- trammel/trammelkit.SameType -/
def lo_kit_SameType : List (Nat × List Nat) := []
def cu_kit_SameType : List (Nat × List Nat) := []
def V_kit_SameType (E : Env) (w0 : World) (x : Bool) (Q : D → DSt → Prop) (a0 a1 : D) (S : DSt) : Prop :=
  optW (cellsD a0) fun cs => allocD S cs fun v0 S1 =>
  optW (cellsD a1) fun cs => allocD S1 cs fun v2 S3 =>
  optW (offD 0 v0) fun v4 =>
  optW (loadSc S3 v4) fun v5 =>
  optW (offD 0 v2) fun v6 =>
  optW (loadSc S3 v6) fun v7 =>
  optW (binI .eql v5 v7) fun v8 =>
  optW (valGD (wantsD v8 true) (offD 1 v0)) fun v9 =>
  optW (valGD (wantsD v8 true) (loadSc S3 v9)) fun v10 =>
  optW (valGD (wantsD v8 true) (offD 1 v2)) fun v11 =>
  optW (valGD (wantsD v8 true) (loadSc S3 v11)) fun v12 =>
  optW (valGD (wantsD v8 true) (binS .eql v10 v12)) fun v13 =>
  optW (pickD v8 v13 (.bool false)) fun v14 =>
  optW (valGD (wantsD v14 true) (offD 3 v0)) fun v15 =>
  optW (valGD (wantsD v14 true) (loadSc S3 v15)) fun v16 =>
  optW (valGD (wantsD v14 true) (offD 3 v2)) fun v17 =>
  optW (valGD (wantsD v14 true) (loadSc S3 v17)) fun v18 =>
  optW (valGD (wantsD v14 true) (binI .eql v16 v18)) fun v19 =>
  optW (pickD v14 v19 (.bool false)) fun v20 =>
  optW (valGD (wantsD v20 true) (offD 4 v0)) fun v21 =>
  optW (valGD (wantsD v20 true) (loadSc S3 v21)) fun v22 =>
  optW (valGD (wantsD v20 true) (offD 4 v2)) fun v23 =>
  optW (valGD (wantsD v20 true) (loadSc S3 v23)) fun v24 =>
  optW (valGD (wantsD v20 true) (binI .eql v22 v24)) fun v25 =>
  optW (pickD v20 v25 (.bool false)) fun v26 =>
  optW (valGD (wantsD v26 true) (offD 2 v0)) fun v27 =>
  optW (valGD (wantsD v26 true) (loadSc S3 v27)) fun v28 =>
  optW (valGD (wantsD v26 true) (offD 2 v2)) fun v29 =>
  optW (valGD (wantsD v26 true) (loadSc S3 v29)) fun v30 =>
  guardD (wantsD v26 true) (fun K => DFn Try.prog E w0 x f_kit_SameFields [v28, v30] S3 K) S3 fun v31 S32 =>
  optW (pickD v26 v31 (.bool false)) fun v33 =>
  Q v33 S32
theorem V_kit_SameType_ok {E : Env} {w0 : World} {x : Bool} {Q : D → DSt → Prop} {a0 a1 : D} {S : DSt} (h : V_kit_SameType E w0 x (FinD E Q) a0 a1 S) : DFn Try.prog E w0 x f_kit_SameType [a0, a1] S Q :=
  fnD_of_vc lo_kit_SameType cu_kit_SameType (fn := Try.f74) (c := Try.f74.body.getD .skip) mixed Try.func74 (by kernel_rfl) (by kernel_rfl) h

/- trammel/trammelkit.SameRoutine -/
def lo_kit_SameRoutine : List (Nat × List Nat) := []
def cu_kit_SameRoutine : List (Nat × List Nat) := []
def V_kit_SameRoutine (E : Env) (w0 : World) (x : Bool) (Q : D → DSt → Prop) (a0 a1 : D) (S : DSt) : Prop :=
  optW (cellsD a0) fun cs => allocD S cs fun v0 S1 =>
  optW (cellsD a1) fun cs => allocD S1 cs fun v2 S3 =>
  optW (offD 0 v0) fun v4 =>
  optW (loadSc S3 v4) fun v5 =>
  optW (offD 0 v2) fun v6 =>
  optW (loadSc S3 v6) fun v7 =>
  optW (binS .eql v5 v7) fun v8 =>
  optW (valGD (wantsD v8 true) (offD 3 v0)) fun v9 =>
  optW (valGD (wantsD v8 true) (loadSc S3 v9)) fun v10 =>
  optW (valGD (wantsD v8 true) (offD 3 v2)) fun v11 =>
  optW (valGD (wantsD v8 true) (loadSc S3 v11)) fun v12 =>
  optW (valGD (wantsD v8 true) (binI .eql v10 v12)) fun v13 =>
  optW (pickD v8 v13 (.bool false)) fun v14 =>
  optW (valGD (wantsD v14 true) (offD 4 v0)) fun v15 =>
  optW (valGD (wantsD v14 true) (loadSc S3 v15)) fun v16 =>
  optW (valGD (wantsD v14 true) (offD 4 v2)) fun v17 =>
  optW (valGD (wantsD v14 true) (loadSc S3 v17)) fun v18 =>
  optW (valGD (wantsD v14 true) (binI .eql v16 v18)) fun v19 =>
  optW (pickD v14 v19 (.bool false)) fun v20 =>
  optW (valGD (wantsD v20 true) (offD 1 v0)) fun v21 =>
  optW (valGD (wantsD v20 true) (loadSc S3 v21)) fun v22 =>
  optW (valGD (wantsD v20 true) (offD 1 v2)) fun v23 =>
  optW (valGD (wantsD v20 true) (loadSc S3 v23)) fun v24 =>
  guardD (wantsD v20 true) (fun K => DFn Try.prog E w0 x f_kit_SameInts [v22, v24] S3 K) S3 fun v25 S26 =>
  optW (pickD v20 v25 (.bool false)) fun v27 =>
  optW (valGD (wantsD v27 true) (offD 2 v0)) fun v28 =>
  optW (valGD (wantsD v27 true) (loadSc S26 v28)) fun v29 =>
  optW (valGD (wantsD v27 true) (offD 2 v2)) fun v30 =>
  optW (valGD (wantsD v27 true) (loadSc S26 v30)) fun v31 =>
  guardD (wantsD v27 true) (fun K => DFn Try.prog E w0 x f_kit_SameInts [v29, v31] S26 K) S26 fun v32 S33 =>
  optW (pickD v27 v32 (.bool false)) fun v34 =>
  optW (valGD (wantsD v34 true) (offD 5 v0)) fun v35 =>
  optW (valGD (wantsD v34 true) (loadSc S33 v35)) fun v36 =>
  optW (valGD (wantsD v34 true) (convBS S33 v36)) fun v37 =>
  optW (valGD (wantsD v34 true) (offD 5 v2)) fun v38 =>
  optW (valGD (wantsD v34 true) (loadSc S33 v38)) fun v39 =>
  optW (valGD (wantsD v34 true) (convBS S33 v39)) fun v40 =>
  optW (valGD (wantsD v34 true) (binS .eql v37 v40)) fun v41 =>
  optW (pickD v34 v41 (.bool false)) fun v42 =>
  Q v42 S33
theorem V_kit_SameRoutine_ok {E : Env} {w0 : World} {x : Bool} {Q : D → DSt → Prop} {a0 a1 : D} {S : DSt} (h : V_kit_SameRoutine E w0 x (FinD E Q) a0 a1 S) : DFn Try.prog E w0 x f_kit_SameRoutine [a0, a1] S Q :=
  fnD_of_vc lo_kit_SameRoutine cu_kit_SameRoutine (fn := Try.f75) (c := Try.f75.body.getD .skip) mixed Try.func75 (by kernel_rfl) (by kernel_rfl) h

/- trammel/trammelkit.SameModule -/
def lo_kit_SameModule : List (Nat × List Nat) := [(8, [2, 3, 5]), (18, [2, 3, 6]), (28, [2, 3, 7])]
def cu_kit_SameModule : List (Nat × List Nat) := []
noncomputable def L_kit_SameModule_2 : Code := (codeAt [1, 1, 1, 1, 0, 1, 0, 0] (Try.f60.body.getD .skip))
def K_kit_SameModule_2 (E : Env) (w0 : World) (x : Bool) (Q : D → DSt → Prop) : AExit → List D → DSt → Prop :=
  (blockD 4 (seqD Try.prog E w0 x lo_kit_SameModule cu_kit_SameModule (codeAt [1, 1, 1, 1, 1] (Try.f60.body.getD .skip)) (retD Try.prog Try.f60 Q)))
def B_kit_SameModule_2 (E : Env) (w0 : World) (x : Bool) (N2 : D → D → D → DSt → Prop) (Q : D → DSt → Prop) (x2 x3 x7 : D) (S : DSt) : Prop :=
  optW (offD 2 x2) fun v57 =>
  optW (loadSc S v57) fun v58 =>
  optW (lenSl v58) fun v59 =>
  optW (binI .lss x7 v59) fun v60 =>
  condD v60
  (optW (offD 2 x2) fun v61 =>
  optW (loadSc S v61) fun v62 => (True) ∧
  optW (idxSl 6 v62 x7) fun v63 =>
  optW (loadAg S 6 v63) fun v64 => (True) ∧
  optW (offD 2 x3) fun v65 =>
  optW (loadSc S v65) fun v66 => (True) ∧
  optW (idxSl 6 v66 x7) fun v67 =>
  optW (loadAg S 6 v67) fun v68 => (True) ∧
  DF E (FnX Try.prog E w0) f_kit_SameRoutine [v64, v68] S fun v69 S70 => (True) ∧
  optW (unD .not v69) fun v71 =>
  condD v71
  (Q (.bool false) S70)
  (optW (binI .add x7 (.int .i64 1)) fun v72 =>
  N2 x2 x3 v72 S70))
  (Q (.bool true) S)
theorem B_kit_SameModule_2_ok {E : Env} {w0 : World} {x : Bool} {N2 : D → D → D → DSt → Prop} {Q : D → DSt → Prop} {x2 x3 x7 : D} {S : DSt} (h : B_kit_SameModule_2 E w0 x N2 Q x2 x3 x7 S) :
    CodeD Try.prog E w0 x L_kit_SameModule_2 (mkRow 89 [2, 3, 7] [x2, x3, x7]) S (loopKD (fun T S => N2 (T.getD 2 undefD) (T.getD 3 undefD) (T.getD 7 undefD) S) (K_kit_SameModule_2 E w0 x Q)) := codeD_of_vc lo_kit_SameModule cu_kit_SameModule mixed (by kernel_rfl) h
theorem loop_kit_SameModule_2 {E : Env} {w0 : World} {x : Bool} {Q : D → DSt → Prop} (I : Nat → D → D → D → DSt → Prop)
    (step : ∀ n x2 x3 x7 S, I n x2 x3 x7 S → B_kit_SameModule_2 E w0 x (fun x2 x3 x7 S => ∃ m, m < n ∧ I m x2 x3 x7 S) Q x2 x3 x7 S)
    {n : Nat} {x2 x3 x7 : D} {S : DSt} (h : I n x2 x3 x7 S) : CodeD Try.prog E w0 x (.loop L_kit_SameModule_2) (mkRow 89 [2, 3, 7] [x2, x3, x7]) S (K_kit_SameModule_2 E w0 x Q) :=
  codeD_loop (k := 89) (n := n) (I := fun n T S => I n (T.getD 2 undefD) (T.getD 3 undefD) (T.getD 7 undefD) S) (fun n T S hl hI => codeD_row [2, 3, 7] hl (CodeD.mono (B_kit_SameModule_2_ok (step n _ _ _ S hI)) fun ex T' S' _ hq => by cases ex <;> exact hq)) (mkRow_length ..) (Eq.mp (by kernel_rfl) h)
noncomputable def L_kit_SameModule_1 : Code := (codeAt [1, 1, 1, 0, 1, 0, 0] (Try.f60.body.getD .skip))
def K_kit_SameModule_1 (E : Env) (w0 : World) (x : Bool) (Q : D → DSt → Prop) : AExit → List D → DSt → Prop :=
  (blockD 2 (seqD Try.prog E w0 x lo_kit_SameModule cu_kit_SameModule (codeAt [1, 1, 1, 1] (Try.f60.body.getD .skip)) (retD Try.prog Try.f60 Q)))
def B_kit_SameModule_1 (E : Env) (w0 : World) (x : Bool) (N1 : D → D → D → DSt → Prop) (Q : D → DSt → Prop) (x2 x3 x6 : D) (S : DSt) : Prop :=
  optW (offD 1 x2) fun v43 =>
  optW (loadSc S v43) fun v44 =>
  optW (lenSl v44) fun v45 =>
  optW (binI .lss x6 v45) fun v46 =>
  condD v46
  (optW (offD 1 x2) fun v47 =>
  optW (loadSc S v47) fun v48 => (True) ∧
  optW (idxSl 1 v48 x6) fun v49 =>
  optW (loadSc S v49) fun v50 => (True) ∧
  optW (offD 1 x3) fun v51 =>
  optW (loadSc S v51) fun v52 => (True) ∧
  optW (idxSl 1 v52 x6) fun v53 =>
  optW (loadSc S v53) fun v54 => (True) ∧
  optW (binS .neq v50 v54) fun v55 =>
  condD v55
  (Q (.bool false) S)
  (optW (binI .add x6 (.int .i64 1)) fun v56 =>
  N1 x2 x3 v56 S))
  (CodeD Try.prog E w0 x (.loop L_kit_SameModule_2) (mkRow 89 [2, 3, 7] [x2, x3, (.int .i64 0)]) S (K_kit_SameModule_2 E w0 x Q))
theorem B_kit_SameModule_1_ok {E : Env} {w0 : World} {x : Bool} {N1 : D → D → D → DSt → Prop} {Q : D → DSt → Prop} {x2 x3 x6 : D} {S : DSt} (h : B_kit_SameModule_1 E w0 x N1 Q x2 x3 x6 S) :
    CodeD Try.prog E w0 x L_kit_SameModule_1 (mkRow 89 [2, 3, 6] [x2, x3, x6]) S (loopKD (fun T S => N1 (T.getD 2 undefD) (T.getD 3 undefD) (T.getD 6 undefD) S) (K_kit_SameModule_1 E w0 x Q)) := codeD_of_vc lo_kit_SameModule cu_kit_SameModule mixed (by kernel_rfl) h
theorem loop_kit_SameModule_1 {E : Env} {w0 : World} {x : Bool} {Q : D → DSt → Prop} (I : Nat → D → D → D → DSt → Prop)
    (step : ∀ n x2 x3 x6 S, I n x2 x3 x6 S → B_kit_SameModule_1 E w0 x (fun x2 x3 x6 S => ∃ m, m < n ∧ I m x2 x3 x6 S) Q x2 x3 x6 S)
    {n : Nat} {x2 x3 x6 : D} {S : DSt} (h : I n x2 x3 x6 S) : CodeD Try.prog E w0 x (.loop L_kit_SameModule_1) (mkRow 89 [2, 3, 6] [x2, x3, x6]) S (K_kit_SameModule_1 E w0 x Q) :=
  codeD_loop (k := 89) (n := n) (I := fun n T S => I n (T.getD 2 undefD) (T.getD 3 undefD) (T.getD 6 undefD) S) (fun n T S hl hI => codeD_row [2, 3, 6] hl (CodeD.mono (B_kit_SameModule_1_ok (step n _ _ _ S hI)) fun ex T' S' _ hq => by cases ex <;> exact hq)) (mkRow_length ..) (Eq.mp (by kernel_rfl) h)
noncomputable def L_kit_SameModule_0 : Code := (codeAt [1, 1, 0, 1, 0, 0] (Try.f60.body.getD .skip))
def K_kit_SameModule_0 (E : Env) (w0 : World) (x : Bool) (Q : D → DSt → Prop) : AExit → List D → DSt → Prop :=
  (blockD 0 (seqD Try.prog E w0 x lo_kit_SameModule cu_kit_SameModule (codeAt [1, 1, 1] (Try.f60.body.getD .skip)) (retD Try.prog Try.f60 Q)))
def B_kit_SameModule_0 (E : Env) (w0 : World) (x : Bool) (N0 : D → D → D → DSt → Prop) (Q : D → DSt → Prop) (x2 x3 x5 : D) (S : DSt) : Prop :=
  optW (offD 0 x2) fun v27 =>
  optW (loadSc S v27) fun v28 =>
  optW (lenSl v28) fun v29 =>
  optW (binI .lss x5 v29) fun v30 =>
  condD v30
  (optW (offD 0 x2) fun v31 =>
  optW (loadSc S v31) fun v32 => (True) ∧
  optW (idxSl 5 v32 x5) fun v33 =>
  optW (loadAg S 5 v33) fun v34 => (True) ∧
  optW (offD 0 x3) fun v35 =>
  optW (loadSc S v35) fun v36 => (True) ∧
  optW (idxSl 5 v36 x5) fun v37 =>
  optW (loadAg S 5 v37) fun v38 => (True) ∧
  DF E (FnX Try.prog E w0) f_kit_SameType [v34, v38] S fun v39 S40 => (True) ∧
  optW (unD .not v39) fun v41 =>
  condD v41
  (Q (.bool false) S40)
  (optW (binI .add x5 (.int .i64 1)) fun v42 =>
  N0 x2 x3 v42 S40))
  (CodeD Try.prog E w0 x (.loop L_kit_SameModule_1) (mkRow 89 [2, 3, 6] [x2, x3, (.int .i64 0)]) S (K_kit_SameModule_1 E w0 x Q))
theorem B_kit_SameModule_0_ok {E : Env} {w0 : World} {x : Bool} {N0 : D → D → D → DSt → Prop} {Q : D → DSt → Prop} {x2 x3 x5 : D} {S : DSt} (h : B_kit_SameModule_0 E w0 x N0 Q x2 x3 x5 S) :
    CodeD Try.prog E w0 x L_kit_SameModule_0 (mkRow 89 [2, 3, 5] [x2, x3, x5]) S (loopKD (fun T S => N0 (T.getD 2 undefD) (T.getD 3 undefD) (T.getD 5 undefD) S) (K_kit_SameModule_0 E w0 x Q)) := codeD_of_vc lo_kit_SameModule cu_kit_SameModule mixed (by kernel_rfl) h
theorem loop_kit_SameModule_0 {E : Env} {w0 : World} {x : Bool} {Q : D → DSt → Prop} (I : Nat → D → D → D → DSt → Prop)
    (step : ∀ n x2 x3 x5 S, I n x2 x3 x5 S → B_kit_SameModule_0 E w0 x (fun x2 x3 x5 S => ∃ m, m < n ∧ I m x2 x3 x5 S) Q x2 x3 x5 S)
    {n : Nat} {x2 x3 x5 : D} {S : DSt} (h : I n x2 x3 x5 S) : CodeD Try.prog E w0 x (.loop L_kit_SameModule_0) (mkRow 89 [2, 3, 5] [x2, x3, x5]) S (K_kit_SameModule_0 E w0 x Q) :=
  codeD_loop (k := 89) (n := n) (I := fun n T S => I n (T.getD 2 undefD) (T.getD 3 undefD) (T.getD 5 undefD) S) (fun n T S hl hI => codeD_row [2, 3, 5] hl (CodeD.mono (B_kit_SameModule_0_ok (step n _ _ _ S hI)) fun ex T' S' _ hq => by cases ex <;> exact hq)) (mkRow_length ..) (Eq.mp (by kernel_rfl) h)
def V_kit_SameModule (E : Env) (w0 : World) (x : Bool) (Q : D → DSt → Prop) (a0 a1 : D) (S : DSt) : Prop :=
  optW (cellsD a0) fun cs => allocD S cs fun v0 S1 =>
  optW (cellsD a1) fun cs => allocD S1 cs fun v2 S3 =>
  optW (offD 0 v0) fun v4 =>
  optW (loadSc S3 v4) fun v5 =>
  optW (lenSl v5) fun v6 =>
  optW (offD 0 v2) fun v7 =>
  optW (loadSc S3 v7) fun v8 =>
  optW (lenSl v8) fun v9 =>
  optW (binI .neq v6 v9) fun v10 =>
  optW (valGD (wantsD v10 false) (offD 1 v0)) fun v11 =>
  optW (valGD (wantsD v10 false) (loadSc S3 v11)) fun v12 =>
  optW (valGD (wantsD v10 false) (lenSl v12)) fun v13 =>
  optW (valGD (wantsD v10 false) (offD 1 v2)) fun v14 =>
  optW (valGD (wantsD v10 false) (loadSc S3 v14)) fun v15 =>
  optW (valGD (wantsD v10 false) (lenSl v15)) fun v16 =>
  optW (valGD (wantsD v10 false) (binI .neq v13 v16)) fun v17 =>
  optW (pickD v10 (.bool true) v17) fun v18 =>
  optW (valGD (wantsD v18 false) (offD 2 v0)) fun v19 =>
  optW (valGD (wantsD v18 false) (loadSc S3 v19)) fun v20 =>
  optW (valGD (wantsD v18 false) (lenSl v20)) fun v21 =>
  optW (valGD (wantsD v18 false) (offD 2 v2)) fun v22 =>
  optW (valGD (wantsD v18 false) (loadSc S3 v22)) fun v23 =>
  optW (valGD (wantsD v18 false) (lenSl v23)) fun v24 =>
  optW (valGD (wantsD v18 false) (binI .neq v21 v24)) fun v25 =>
  optW (pickD v18 (.bool true) v25) fun v26 =>
  condD v26
  (Q (.bool false) S3)
  (CodeD Try.prog E w0 x (.loop L_kit_SameModule_0) (mkRow 89 [2, 3, 5] [v0, v2, (.int .i64 0)]) S3 (K_kit_SameModule_0 E w0 x Q))
theorem V_kit_SameModule_ok {E : Env} {w0 : World} {x : Bool} {Q : D → DSt → Prop} {a0 a1 : D} {S : DSt} (h : V_kit_SameModule E w0 x (FinD E Q) a0 a1 S) : DFn Try.prog E w0 x f_kit_SameModule [a0, a1] S Q :=
  fnD_of_vc lo_kit_SameModule cu_kit_SameModule (fn := Try.f60) (c := Try.f60.body.getD .skip) mixed Try.func60 (by kernel_rfl) (by kernel_rfl) h

/- trammel/trammelkit.LentModule -/
def lo_kit_LentModule : List (Nat × List Nat) := [(6, [1, 2, 3, 4]), (34, [1, 2, 3, 7])]
def cu_kit_LentModule : List (Nat × List Nat) := []
noncomputable def L_kit_LentModule_1 : Code := (codeAt [1, 1, 1, 1, 1, 1, 1, 1, 0, 1, 0, 0] (Try.f31.body.getD .skip))
def K_kit_LentModule_1 (E : Env) (w0 : World) (x : Bool) (Q : D → DSt → Prop) : AExit → List D → DSt → Prop :=
  (blockD 2 (seqD Try.prog E w0 x lo_kit_LentModule cu_kit_LentModule (codeAt [1, 1, 1, 1, 1, 1, 1, 1, 1] (Try.f31.body.getD .skip)) (retD Try.prog Try.f31 Q)))
def B_kit_LentModule_1 (E : Env) (w0 : World) (x : Bool) (N1 : D → D → D → D → DSt → Prop) (Q : D → DSt → Prop) (x1 x2 x3 x7 : D) (S : DSt) : Prop :=
  optW (offD 2 x1) fun v91 =>
  optW (loadSc S v91) fun v92 =>
  optW (lenSl v92) fun v93 =>
  optW (binI .lss x7 v93) fun v94 =>
  condD v94
  (optW (offD 2 x1) fun v95 =>
  optW (loadSc S v95) fun v96 =>
  optW (idxSl 6 v96 x7) fun v97 =>
  optW (loadAg S 6 v97) fun v98 =>
  allocD S [(.str []), .nilSlc, .nilSlc, (.int .i64 0), (.int .i64 0), .nilSlc] fun v99 S100 =>
  storeD S100 6 v99 v98 fun v101 S102 =>
  optW (offD 1 v99) fun v103 =>
  optW (loadSc S102 v103) fun v104 =>
  DFn Try.prog E w0 x f_kit_LentInts [v104] S102 fun v105 S106 =>
  optW (offD 1 v99) fun v107 =>
  storeD S106 1 v107 v105 fun v108 S109 =>
  optW (offD 2 v99) fun v110 =>
  optW (loadSc S109 v110) fun v111 =>
  DFn Try.prog E w0 x f_kit_LentInts [v111] S109 fun v112 S113 =>
  optW (offD 2 v99) fun v114 =>
  storeD S113 1 v114 v112 fun v115 S116 =>
  optW (offD 5 v99) fun v117 =>
  optW (loadSc S116 v117) fun v118 =>
  DFn Try.prog E w0 x f_kit_LentCode [v118] S116 fun v119 S120 =>
  optW (offD 5 v99) fun v121 =>
  storeD S120 1 v121 v119 fun v122 S123 =>
  optW (offD 2 x3) fun v124 =>
  optW (loadSc S123 v124) fun v125 =>
  optW (loadAg S123 6 v99) fun v126 =>
  litD S123 6 (fillR 6 (List.replicate 1 [(.str []), .nilSlc, .nilSlc, (.int .i64 0), (.int .i64 0), .nilSlc]) [(0, v126)]) 1 fun v127 S128 =>
  appendD S128 6 104 v125 v127 fun v129 S130 =>
  optW (offD 2 x3) fun v131 =>
  storeD S130 1 v131 v129 fun v132 S133 =>
  optW (binI .add x7 (.int .i64 1)) fun v134 =>
  N1 x1 x2 x3 v134 S133)
  (optW (offD 2 x3) fun v135 =>
  optW (loadSc S v135) fun v136 =>
  optW (aggD (fillD [(.str []), .nilSlc, .nilSlc, (.int .i64 0), (.int .i64 0), .nilSlc] [(0, 1, (.str [109, 97, 114, 107]))])) fun v137 =>
  litD S 6 (fillR 6 (List.replicate 1 [(.str []), .nilSlc, .nilSlc, (.int .i64 0), (.int .i64 0), .nilSlc]) [(0, v137)]) 1 fun v138 S139 =>
  appendD S139 6 104 v136 v138 fun v140 S141 =>
  optW (offD 2 x3) fun v142 =>
  storeD S141 1 v142 v140 fun v143 S144 =>
  optW (offD 2 x3) fun v145 =>
  optW (loadSc S144 v145) fun v146 =>
  optW (offD 2 x1) fun v147 =>
  optW (loadSc S144 v147) fun v148 =>
  optW (lenSl v148) fun v149 =>
  optW (sliceSl 6 v146 none (some v149) none) fun v150 =>
  optW (offD 2 x3) fun v151 =>
  storeD S144 1 v151 v150 fun v152 S153 =>
  optW (loadAg S153 3 x3) fun v154 =>
  storeD S153 3 x2 v154 fun v155 S156 =>
  optW (loadAg S156 3 x2) fun v157 => Q v157 S156)
theorem B_kit_LentModule_1_ok {E : Env} {w0 : World} {x : Bool} {N1 : D → D → D → D → DSt → Prop} {Q : D → DSt → Prop} {x1 x2 x3 x7 : D} {S : DSt} (h : B_kit_LentModule_1 E w0 x N1 Q x1 x2 x3 x7 S) :
    CodeD Try.prog E w0 x L_kit_LentModule_1 (mkRow 116 [1, 2, 3, 7] [x1, x2, x3, x7]) S (loopKD (fun T S => N1 (T.getD 1 undefD) (T.getD 2 undefD) (T.getD 3 undefD) (T.getD 7 undefD) S) (K_kit_LentModule_1 E w0 x Q)) := codeD_of_vc lo_kit_LentModule cu_kit_LentModule mixed (by kernel_rfl) h
theorem loop_kit_LentModule_1 {E : Env} {w0 : World} {x : Bool} {Q : D → DSt → Prop} (I : Nat → D → D → D → D → DSt → Prop)
    (step : ∀ n x1 x2 x3 x7 S, I n x1 x2 x3 x7 S → B_kit_LentModule_1 E w0 x (fun x1 x2 x3 x7 S => ∃ m, m < n ∧ I m x1 x2 x3 x7 S) Q x1 x2 x3 x7 S)
    {n : Nat} {x1 x2 x3 x7 : D} {S : DSt} (h : I n x1 x2 x3 x7 S) : CodeD Try.prog E w0 x (.loop L_kit_LentModule_1) (mkRow 116 [1, 2, 3, 7] [x1, x2, x3, x7]) S (K_kit_LentModule_1 E w0 x Q) :=
  codeD_loop (k := 116) (n := n) (I := fun n T S => I n (T.getD 1 undefD) (T.getD 2 undefD) (T.getD 3 undefD) (T.getD 7 undefD) S) (fun n T S hl hI => codeD_row [1, 2, 3, 7] hl (CodeD.mono (B_kit_LentModule_1_ok (step n _ _ _ _ S hI)) fun ex T' S' _ hq => by cases ex <;> exact hq)) (mkRow_length ..) (Eq.mp (by kernel_rfl) h)
noncomputable def L_kit_LentModule_0 : Code := (codeAt [1, 1, 0, 1, 0, 0] (Try.f31.body.getD .skip))
def K_kit_LentModule_0 (E : Env) (w0 : World) (x : Bool) (Q : D → DSt → Prop) : AExit → List D → DSt → Prop :=
  (blockD 0 (seqD Try.prog E w0 x lo_kit_LentModule cu_kit_LentModule (codeAt [1, 1, 1] (Try.f31.body.getD .skip)) (retD Try.prog Try.f31 Q)))
def B_kit_LentModule_0 (E : Env) (w0 : World) (x : Bool) (N0 : D → D → D → D → DSt → Prop) (Q : D → DSt → Prop) (x1 x2 x3 x4 : D) (S : DSt) : Prop :=
  optW (offD 0 x1) fun v6 =>
  optW (loadSc S v6) fun v7 =>
  optW (lenSl v7) fun v8 =>
  optW (binI .lss x4 v8) fun v9 =>
  condD v9
  (optW (offD 0 x1) fun v10 =>
  optW (loadSc S v10) fun v11 =>
  optW (idxSl 5 v11 x4) fun v12 =>
  optW (loadAg S 5 v12) fun v13 =>
  allocD S [(.int .u8 0), (.str []), .nilSlc, (.int .i64 0), (.int .i64 0)] fun v14 S15 =>
  storeD S15 5 v14 v13 fun v16 S17 =>
  optW (offD 2 v14) fun v18 =>
  optW (loadSc S17 v18) fun v19 =>
  appendD S17 2 24 .nilSlc v19 fun v20 S21 =>
  optW (aggD (fillD [(.str []), (.int .i64 0)] [(0, 1, (.str [109, 97, 114, 107]))])) fun v22 =>
  litD S21 2 (fillR 2 (List.replicate 1 [(.str []), (.int .i64 0)]) [(0, v22)]) 1 fun v23 S24 =>
  appendD S24 2 24 v20 v23 fun v25 S26 =>
  optW (offD 2 v14) fun v27 =>
  optW (loadSc S26 v27) fun v28 =>
  optW (lenSl v28) fun v29 =>
  optW (sliceSl 2 v25 none (some v29) none) fun v30 =>
  optW (offD 2 v14) fun v31 =>
  storeD S26 1 v31 v30 fun v32 S33 =>
  optW (offD 0 x3) fun v34 =>
  optW (loadSc S33 v34) fun v35 =>
  optW (loadAg S33 5 v14) fun v36 =>
  litD S33 5 (fillR 5 (List.replicate 1 [(.int .u8 0), (.str []), .nilSlc, (.int .i64 0), (.int .i64 0)]) [(0, v36)]) 1 fun v37 S38 =>
  appendD S38 5 64 v35 v37 fun v39 S40 =>
  optW (offD 0 x3) fun v41 =>
  storeD S40 1 v41 v39 fun v42 S43 =>
  optW (binI .add x4 (.int .i64 1)) fun v44 =>
  N0 x1 x2 x3 v44 S43)
  (optW (offD 0 x3) fun v45 =>
  optW (loadSc S v45) fun v46 =>
  optW (aggD (fillD [(.int .u8 0), (.str []), .nilSlc, (.int .i64 0), (.int .i64 0)] [(1, 1, (.str [109, 97, 114, 107]))])) fun v47 =>
  litD S 5 (fillR 5 (List.replicate 1 [(.int .u8 0), (.str []), .nilSlc, (.int .i64 0), (.int .i64 0)]) [(0, v47)]) 1 fun v48 S49 =>
  appendD S49 5 64 v46 v48 fun v50 S51 =>
  optW (offD 0 x3) fun v52 =>
  storeD S51 1 v52 v50 fun v53 S54 =>
  optW (offD 0 x3) fun v55 =>
  optW (loadSc S54 v55) fun v56 =>
  optW (offD 0 x1) fun v57 =>
  optW (loadSc S54 v57) fun v58 =>
  optW (lenSl v58) fun v59 =>
  optW (sliceSl 5 v56 none (some v59) none) fun v60 =>
  optW (offD 0 x3) fun v61 =>
  storeD S54 1 v61 v60 fun v62 S63 =>
  optW (offD 1 x3) fun v64 =>
  optW (loadSc S63 v64) fun v65 =>
  optW (offD 1 x1) fun v66 =>
  optW (loadSc S63 v66) fun v67 =>
  appendD S63 1 16 v65 v67 fun v68 S69 =>
  optW (offD 1 x3) fun v70 =>
  storeD S69 1 v70 v68 fun v71 S72 =>
  optW (offD 1 x3) fun v73 =>
  optW (loadSc S72 v73) fun v74 =>
  litD S72 1 (fillR 1 (List.replicate 1 [(.str [])]) [(0, (.str [109, 97, 114, 107]))]) 1 fun v75 S76 =>
  appendD S76 1 16 v74 v75 fun v77 S78 =>
  optW (offD 1 x3) fun v79 =>
  storeD S78 1 v79 v77 fun v80 S81 =>
  optW (offD 1 x3) fun v82 =>
  optW (loadSc S81 v82) fun v83 =>
  optW (offD 1 x1) fun v84 =>
  optW (loadSc S81 v84) fun v85 =>
  optW (lenSl v85) fun v86 =>
  optW (sliceSl 1 v83 none (some v86) none) fun v87 =>
  optW (offD 1 x3) fun v88 =>
  storeD S81 1 v88 v87 fun v89 S90 =>
  CodeD Try.prog E w0 x (.loop L_kit_LentModule_1) (mkRow 116 [1, 2, 3, 7] [x1, x2, x3, (.int .i64 0)]) S90 (K_kit_LentModule_1 E w0 x Q))
theorem B_kit_LentModule_0_ok {E : Env} {w0 : World} {x : Bool} {N0 : D → D → D → D → DSt → Prop} {Q : D → DSt → Prop} {x1 x2 x3 x4 : D} {S : DSt} (h : B_kit_LentModule_0 E w0 x N0 Q x1 x2 x3 x4 S) :
    CodeD Try.prog E w0 x L_kit_LentModule_0 (mkRow 116 [1, 2, 3, 4] [x1, x2, x3, x4]) S (loopKD (fun T S => N0 (T.getD 1 undefD) (T.getD 2 undefD) (T.getD 3 undefD) (T.getD 4 undefD) S) (K_kit_LentModule_0 E w0 x Q)) := codeD_of_vc lo_kit_LentModule cu_kit_LentModule mixed (by kernel_rfl) h
theorem loop_kit_LentModule_0 {E : Env} {w0 : World} {x : Bool} {Q : D → DSt → Prop} (I : Nat → D → D → D → D → DSt → Prop)
    (step : ∀ n x1 x2 x3 x4 S, I n x1 x2 x3 x4 S → B_kit_LentModule_0 E w0 x (fun x1 x2 x3 x4 S => ∃ m, m < n ∧ I m x1 x2 x3 x4 S) Q x1 x2 x3 x4 S)
    {n : Nat} {x1 x2 x3 x4 : D} {S : DSt} (h : I n x1 x2 x3 x4 S) : CodeD Try.prog E w0 x (.loop L_kit_LentModule_0) (mkRow 116 [1, 2, 3, 4] [x1, x2, x3, x4]) S (K_kit_LentModule_0 E w0 x Q) :=
  codeD_loop (k := 116) (n := n) (I := fun n T S => I n (T.getD 1 undefD) (T.getD 2 undefD) (T.getD 3 undefD) (T.getD 4 undefD) S) (fun n T S hl hI => codeD_row [1, 2, 3, 4] hl (CodeD.mono (B_kit_LentModule_0_ok (step n _ _ _ _ S hI)) fun ex T' S' _ hq => by cases ex <;> exact hq)) (mkRow_length ..) (Eq.mp (by kernel_rfl) h)
def V_kit_LentModule (E : Env) (w0 : World) (x : Bool) (Q : D → DSt → Prop) (a0 : D) (S : DSt) : Prop :=
  optW (cellsD a0) fun cs => allocD S cs fun v0 S1 =>
  allocD S1 [.nilSlc, .nilSlc, .nilSlc] fun v2 S3 =>
  allocD S3 [.nilSlc, .nilSlc, .nilSlc] fun v4 S5 =>
  CodeD Try.prog E w0 x (.loop L_kit_LentModule_0) (mkRow 116 [1, 2, 3, 4] [v0, v2, v4, (.int .i64 0)]) S5 (K_kit_LentModule_0 E w0 x Q)
theorem V_kit_LentModule_ok {E : Env} {w0 : World} {x : Bool} {Q : D → DSt → Prop} {a0 : D} {S : DSt} (h : V_kit_LentModule E w0 x (FinD E Q) a0 S) : DFn Try.prog E w0 x f_kit_LentModule [a0] S Q :=
  fnD_of_vc lo_kit_LentModule cu_kit_LentModule (fn := Try.f31) (c := Try.f31.body.getD .skip) mixed Try.func31 (by kernel_rfl) (by kernel_rfl) h

/- trammel/trammelkit.KeptModule -/
def lo_kit_KeptModule : List (Nat × List Nat) := [(10, [2, 3, 5, 7, 8]), (22, [2, 3, 7, 10])]
def cu_kit_KeptModule : List (Nat × List Nat) := [(28, [2, 3, 7, 10, 11, 12])]
noncomputable def R_kit_KeptModule_28 : Code := (codeAt [1, 1, 1, 1, 0, 1, 0, 0, 1, 0, 0, 1] (Try.f34.body.getD .skip))
def KC_kit_KeptModule_28 (E : Env) (w0 : World) (x : Bool) (N1 : D → D → D → D → DSt → Prop) (Q : D → DSt → Prop) : AExit → List D → DSt → Prop :=
  (blockD 3 (seqD Try.prog E w0 x lo_kit_KeptModule cu_kit_KeptModule (codeAt [1, 1, 1, 1, 0, 1, 0, 0, 1, 1] (Try.f34.body.getD .skip)) (loopKD (fun T S => N1 (T.getD 2 undefD) (T.getD 3 undefD) (T.getD 7 undefD) (T.getD 10 undefD) S) (blockD 2 (seqD Try.prog E w0 x lo_kit_KeptModule cu_kit_KeptModule (codeAt [1, 1, 1, 1, 1] (Try.f34.body.getD .skip)) (retD Try.prog Try.f34 Q))))))
def P_kit_KeptModule_28 (E : Env) (w0 : World) (x : Bool) (N1 : D → D → D → D → DSt → Prop) (Q : D → DSt → Prop) (x2 x3 x7 x10 x11 x12 : D) (S : DSt) : Prop :=
  optW (offD 1 x11) fun v70 =>
  optW (loadSc S v70) fun v71 =>
  optW (offD 1 x12) fun v72 =>
  optW (loadSc S v72) fun v73 =>
  DFn Try.prog E w0 x f_kit_KeptInts [v71, v73] S fun v74 S75 =>
  optW (unD .not v74) fun v76 =>
  optW (valGD (wantsD v76 false) (offD 2 x11)) fun v77 =>
  optW (valGD (wantsD v76 false) (loadSc S75 v77)) fun v78 =>
  optW (valGD (wantsD v76 false) (offD 2 x12)) fun v79 =>
  optW (valGD (wantsD v76 false) (loadSc S75 v79)) fun v80 =>
  guardD (wantsD v76 false) (fun K => DFn Try.prog E w0 x f_kit_KeptInts [v78, v80] S75 K) S75 fun v81 S82 =>
  optW (valGD (wantsD v76 false) (unD .not v81)) fun v83 =>
  optW (pickD v76 (.bool true) v83) fun v84 =>
  optW (valGD (wantsD v84 false) (offD 5 x11)) fun v85 =>
  optW (valGD (wantsD v84 false) (loadSc S82 v85)) fun v86 =>
  optW (valGD (wantsD v84 false) (offD 5 x12)) fun v87 =>
  optW (valGD (wantsD v84 false) (loadSc S82 v87)) fun v88 =>
  guardD (wantsD v84 false) (fun K => DFn Try.prog E w0 x f_kit_KeptCode [v86, v88] S82 K) S82 fun v89 S90 =>
  optW (valGD (wantsD v84 false) (unD .not v89)) fun v91 =>
  optW (pickD v84 (.bool true) v91) fun v92 =>
  condD v92
  (Q (.bool false) S90)
  (optW (binI .add x10 (.int .i64 1)) fun v93 =>
  N1 x2 x3 x7 v93 S90)
def C_kit_KeptModule_28 (E : Env) (w0 : World) (x : Bool) (N1 : D → D → D → D → DSt → Prop) (Q : D → DSt → Prop) (x2 x3 x7 x10 x11 x12 : D) (S : DSt) : Prop := CodeD Try.prog E w0 x R_kit_KeptModule_28 (mkRow 124 [2, 3, 7, 10, 11, 12] [x2, x3, x7, x10, x11, x12]) S (KC_kit_KeptModule_28 E w0 x N1 Q)
theorem C_kit_KeptModule_28_ok {E : Env} {w0 : World} {x : Bool} {N1 : D → D → D → D → DSt → Prop} {Q : D → DSt → Prop} {x2 x3 x7 x10 x11 x12 : D} {S : DSt} (h : P_kit_KeptModule_28 E w0 x N1 Q x2 x3 x7 x10 x11 x12 S) : C_kit_KeptModule_28 E w0 x N1 Q x2 x3 x7 x10 x11 x12 S := codeD_of_vc lo_kit_KeptModule cu_kit_KeptModule mixed (by kernel_rfl) h
noncomputable def L_kit_KeptModule_1 : Code := (codeAt [1, 1, 1, 1, 0, 1, 0, 0] (Try.f34.body.getD .skip))
def K_kit_KeptModule_1 (E : Env) (w0 : World) (x : Bool) (Q : D → DSt → Prop) : AExit → List D → DSt → Prop :=
  (blockD 2 (seqD Try.prog E w0 x lo_kit_KeptModule cu_kit_KeptModule (codeAt [1, 1, 1, 1, 1] (Try.f34.body.getD .skip)) (retD Try.prog Try.f34 Q)))
def B_kit_KeptModule_1 (E : Env) (w0 : World) (x : Bool) (N1 : D → D → D → D → DSt → Prop) (Q : D → DSt → Prop) (x2 x3 x7 x10 : D) (S : DSt) : Prop :=
  optW (binI .lss x10 x7) fun v69 =>
  condD v69
  (x = false ∧ (optW (offD 2 x2) fun v94 =>
  optW (loadSc S v94) fun v95 => (True) ∧
  optW (idxSl 6 v95 x10) fun v96 =>
  optW (loadAg S 6 v96) fun v97 => (True) ∧
  optW (offD 2 x3) fun v98 =>
  optW (loadSc S v98) fun v99 => (True) ∧
  optW (idxSl 6 v99 x10) fun v100 =>
  optW (loadAg S 6 v100) fun v101 => (True) ∧
  allocD S [(.str []), .nilSlc, .nilSlc, (.int .i64 0), (.int .i64 0), .nilSlc] fun v102 S103 => (footW v94 S S103 ∧ footW v96 S S103 ∧ footW v98 S S103 ∧ footW v100 S S103 ∧ True) ∧
  allocD S103 [(.str []), .nilSlc, .nilSlc, (.int .i64 0), (.int .i64 0), .nilSlc] fun v104 S105 => (footW v94 S S105 ∧ footW v96 S S105 ∧ footW v98 S S105 ∧ footW v100 S S105 ∧ True) ∧
  storeD S105 6 v102 v97 fun v106 S107 => (footW v98 S S107 ∧ footW v100 S S107 ∧ True) ∧
  storeD S107 6 v104 v101 fun v108 S109 => (True) ∧
  C_kit_KeptModule_28 E w0 x N1 Q x2 x3 x7 x10 v102 v104 S109) ∧
  (optW (offD 2 x2) fun v110 =>
  optW (loadSc S v110) fun v111 => (True) ∧
  optW (idxSl 6 v111 x10) fun v112 =>
  optW (loadAg S 6 v112) fun v113 => (True) ∧
  optW (offD 2 x3) fun v114 =>
  optW (loadSc S v114) fun v115 => (True) ∧
  optW (idxSl 6 v115 x10) fun v116 =>
  optW (loadAg S 6 v116) fun v117 => (True) ∧
  allocD S [(.str []), .nilSlc, .nilSlc, (.int .i64 0), (.int .i64 0), .nilSlc] fun v118 S119 => (footW v110 S S119 ∧ footW v112 S S119 ∧ footW v114 S S119 ∧ footW v116 S S119 ∧ True) ∧
  allocD S119 [(.str []), .nilSlc, .nilSlc, (.int .i64 0), (.int .i64 0), .nilSlc] fun v120 S121 => (footW v110 S S121 ∧ footW v112 S S121 ∧ footW v114 S S121 ∧ footW v116 S S121 ∧ True) ∧
  storeD S121 6 v120 v113 fun v122 S123 => (footW v114 S S123 ∧ footW v116 S S123 ∧ True) ∧
  storeD S123 6 v118 v117 fun v124 S125 => (True) ∧
  C_kit_KeptModule_28 E w0 x N1 Q x2 x3 x7 x10 v120 v118 S125) ∧
  True)
  (Q (.bool true) S)
theorem B_kit_KeptModule_1_ok {E : Env} {w0 : World} {x : Bool} {N1 : D → D → D → D → DSt → Prop} {Q : D → DSt → Prop} {x2 x3 x7 x10 : D} {S : DSt} (h : B_kit_KeptModule_1 E w0 x N1 Q x2 x3 x7 x10 S) :
    CodeD Try.prog E w0 x L_kit_KeptModule_1 (mkRow 124 [2, 3, 7, 10] [x2, x3, x7, x10]) S (loopKD (fun T S => N1 (T.getD 2 undefD) (T.getD 3 undefD) (T.getD 7 undefD) (T.getD 10 undefD) S) (K_kit_KeptModule_1 E w0 x Q)) := codeD_of_vc lo_kit_KeptModule cu_kit_KeptModule mixed (by kernel_rfl) h
theorem loop_kit_KeptModule_1 {E : Env} {w0 : World} {x : Bool} {Q : D → DSt → Prop} (I : Nat → D → D → D → D → DSt → Prop)
    (step : ∀ n x2 x3 x7 x10 S, I n x2 x3 x7 x10 S → B_kit_KeptModule_1 E w0 x (fun x2 x3 x7 x10 S => ∃ m, m < n ∧ I m x2 x3 x7 x10 S) Q x2 x3 x7 x10 S)
    {n : Nat} {x2 x3 x7 x10 : D} {S : DSt} (h : I n x2 x3 x7 x10 S) : CodeD Try.prog E w0 x (.loop L_kit_KeptModule_1) (mkRow 124 [2, 3, 7, 10] [x2, x3, x7, x10]) S (K_kit_KeptModule_1 E w0 x Q) :=
  codeD_loop (k := 124) (n := n) (I := fun n T S => I n (T.getD 2 undefD) (T.getD 3 undefD) (T.getD 7 undefD) (T.getD 10 undefD) S) (fun n T S hl hI => codeD_row [2, 3, 7, 10] hl (CodeD.mono (B_kit_KeptModule_1_ok (step n _ _ _ _ S hI)) fun ex T' S' _ hq => by cases ex <;> exact hq)) (mkRow_length ..) (Eq.mp (by kernel_rfl) h)
noncomputable def L_kit_KeptModule_0 : Code := (codeAt [1, 1, 1, 0, 1, 0, 0] (Try.f34.body.getD .skip))
def K_kit_KeptModule_0 (E : Env) (w0 : World) (x : Bool) (Q : D → DSt → Prop) : AExit → List D → DSt → Prop :=
  (blockD 0 (seqD Try.prog E w0 x lo_kit_KeptModule cu_kit_KeptModule (codeAt [1, 1, 1, 1] (Try.f34.body.getD .skip)) (retD Try.prog Try.f34 Q)))
def B_kit_KeptModule_0 (E : Env) (w0 : World) (x : Bool) (N0 : D → D → D → D → D → DSt → Prop) (Q : D → DSt → Prop) (x2 x3 x5 x7 x8 : D) (S : DSt) : Prop :=
  optW (binI .lss x8 x5) fun v50 =>
  condD v50
  (optW (offD 0 x3) fun v51 =>
  optW (loadSc S v51) fun v52 =>
  optW (idxSl 5 v52 x8) fun v53 =>
  optW (offD 2 v53) fun v54 =>
  optW (loadSc S v54) fun v55 =>
  optW (lenSl v55) fun v56 =>
  optW (offD 0 x2) fun v57 =>
  optW (loadSc S v57) fun v58 =>
  optW (idxSl 5 v58 x8) fun v59 =>
  optW (offD 2 v59) fun v60 =>
  optW (loadSc S v60) fun v61 =>
  optW (binI .add v56 (.int .i64 1)) fun v62 =>
  optW (sliceSl 2 v61 none (some v62) none) fun v63 =>
  optW (idxSl 2 v63 v56) fun v64 =>
  optW (offD 0 v64) fun v65 =>
  optW (loadSc S v65) fun v66 =>
  optW (binS .neq v66 (.str [109, 97, 114, 107])) fun v67 =>
  condD v67
  (Q (.bool false) S)
  (optW (binI .add x8 (.int .i64 1)) fun v68 =>
  N0 x2 x3 x5 x7 v68 S))
  (CodeD Try.prog E w0 x (.loop L_kit_KeptModule_1) (mkRow 124 [2, 3, 7, 10] [x2, x3, x7, (.int .i64 0)]) S (K_kit_KeptModule_1 E w0 x Q))
theorem B_kit_KeptModule_0_ok {E : Env} {w0 : World} {x : Bool} {N0 : D → D → D → D → D → DSt → Prop} {Q : D → DSt → Prop} {x2 x3 x5 x7 x8 : D} {S : DSt} (h : B_kit_KeptModule_0 E w0 x N0 Q x2 x3 x5 x7 x8 S) :
    CodeD Try.prog E w0 x L_kit_KeptModule_0 (mkRow 124 [2, 3, 5, 7, 8] [x2, x3, x5, x7, x8]) S (loopKD (fun T S => N0 (T.getD 2 undefD) (T.getD 3 undefD) (T.getD 5 undefD) (T.getD 7 undefD) (T.getD 8 undefD) S) (K_kit_KeptModule_0 E w0 x Q)) := codeD_of_vc lo_kit_KeptModule cu_kit_KeptModule mixed (by kernel_rfl) h
theorem loop_kit_KeptModule_0 {E : Env} {w0 : World} {x : Bool} {Q : D → DSt → Prop} (I : Nat → D → D → D → D → D → DSt → Prop)
    (step : ∀ n x2 x3 x5 x7 x8 S, I n x2 x3 x5 x7 x8 S → B_kit_KeptModule_0 E w0 x (fun x2 x3 x5 x7 x8 S => ∃ m, m < n ∧ I m x2 x3 x5 x7 x8 S) Q x2 x3 x5 x7 x8 S)
    {n : Nat} {x2 x3 x5 x7 x8 : D} {S : DSt} (h : I n x2 x3 x5 x7 x8 S) : CodeD Try.prog E w0 x (.loop L_kit_KeptModule_0) (mkRow 124 [2, 3, 5, 7, 8] [x2, x3, x5, x7, x8]) S (K_kit_KeptModule_0 E w0 x Q) :=
  codeD_loop (k := 124) (n := n) (I := fun n T S => I n (T.getD 2 undefD) (T.getD 3 undefD) (T.getD 5 undefD) (T.getD 7 undefD) (T.getD 8 undefD) S) (fun n T S hl hI => codeD_row [2, 3, 5, 7, 8] hl (CodeD.mono (B_kit_KeptModule_0_ok (step n _ _ _ _ _ S hI)) fun ex T' S' _ hq => by cases ex <;> exact hq)) (mkRow_length ..) (Eq.mp (by kernel_rfl) h)
def V_kit_KeptModule (E : Env) (w0 : World) (x : Bool) (Q : D → DSt → Prop) (a0 a1 : D) (S : DSt) : Prop :=
  optW (cellsD a0) fun cs => allocD S cs fun v0 S1 =>
  optW (cellsD a1) fun cs => allocD S1 cs fun v2 S3 =>
  optW (offD 0 v2) fun v4 =>
  optW (loadSc S3 v4) fun v5 => (True) ∧
  optW (lenSl v5) fun v6 => (True) ∧
  optW (offD 1 v2) fun v7 =>
  optW (loadSc S3 v7) fun v8 => (True) ∧
  optW (lenSl v8) fun v9 => (True) ∧
  optW (offD 2 v2) fun v10 =>
  optW (loadSc S3 v10) fun v11 => (True) ∧
  optW (lenSl v11) fun v12 => (True) ∧
  optW (loadAg S3 3 v0) fun v13 =>
  optW (loadAg S3 3 v2) fun v14 =>
  DFn Try.prog E w0 x f_kit_SameModule [v13, v14] S3 fun v15 S16 =>
  optW (unD .not v15) fun v17 =>
  optW (valGD (wantsD v17 false) (offD 0 v0)) fun v18 =>
  optW (valGD (wantsD v17 false) (loadSc S16 v18)) fun v19 =>
  optW (valGD (wantsD v17 false) (some v6)) fun v20 =>
  optW (valGD (wantsD v17 false) (binI .add v20 (.int .i64 1))) fun v21 =>
  optW (valGD (wantsD v17 false) (sliceSl 5 v19 none (some v21) none)) fun v22 =>
  optW (valGD (wantsD v17 false) (some v6)) fun v23 =>
  optW (valGD (wantsD v17 false) (idxSl 5 v22 v23)) fun v24 =>
  optW (valGD (wantsD v17 false) (offD 1 v24)) fun v25 =>
  optW (valGD (wantsD v17 false) (loadSc S16 v25)) fun v26 =>
  optW (valGD (wantsD v17 false) (binS .neq v26 (.str [109, 97, 114, 107]))) fun v27 =>
  optW (pickD v17 (.bool true) v27) fun v28 =>
  optW (valGD (wantsD v28 false) (offD 1 v0)) fun v29 =>
  optW (valGD (wantsD v28 false) (loadSc S16 v29)) fun v30 =>
  optW (valGD (wantsD v28 false) (some v9)) fun v31 =>
  optW (valGD (wantsD v28 false) (binI .add v31 (.int .i64 1))) fun v32 =>
  optW (valGD (wantsD v28 false) (sliceSl 1 v30 none (some v32) none)) fun v33 =>
  optW (valGD (wantsD v28 false) (some v9)) fun v34 =>
  optW (valGD (wantsD v28 false) (idxSl 1 v33 v34)) fun v35 =>
  optW (valGD (wantsD v28 false) (loadSc S16 v35)) fun v36 =>
  optW (valGD (wantsD v28 false) (binS .neq v36 (.str [109, 97, 114, 107]))) fun v37 =>
  optW (pickD v28 (.bool true) v37) fun v38 =>
  optW (valGD (wantsD v38 false) (offD 2 v0)) fun v39 =>
  optW (valGD (wantsD v38 false) (loadSc S16 v39)) fun v40 =>
  optW (valGD (wantsD v38 false) (some v12)) fun v41 =>
  optW (valGD (wantsD v38 false) (binI .add v41 (.int .i64 1))) fun v42 =>
  optW (valGD (wantsD v38 false) (sliceSl 6 v40 none (some v42) none)) fun v43 =>
  optW (valGD (wantsD v38 false) (some v12)) fun v44 =>
  optW (valGD (wantsD v38 false) (idxSl 6 v43 v44)) fun v45 =>
  optW (valGD (wantsD v38 false) (offD 0 v45)) fun v46 =>
  optW (valGD (wantsD v38 false) (loadSc S16 v46)) fun v47 =>
  optW (valGD (wantsD v38 false) (binS .neq v47 (.str [109, 97, 114, 107]))) fun v48 =>
  optW (pickD v38 (.bool true) v48) fun v49 =>
  condD v49
  (Q (.bool false) S16)
  (CodeD Try.prog E w0 x (.loop L_kit_KeptModule_0) (mkRow 124 [2, 3, 5, 7, 8] [v0, v2, v6, v12, (.int .i64 0)]) S16 (K_kit_KeptModule_0 E w0 x Q))
theorem V_kit_KeptModule_ok {E : Env} {w0 : World} {x : Bool} {Q : D → DSt → Prop} {a0 a1 : D} {S : DSt} (h : V_kit_KeptModule E w0 x (FinD E Q) a0 a1 S) : DFn Try.prog E w0 x f_kit_KeptModule [a0, a1] S Q :=
  fnD_of_vc lo_kit_KeptModule cu_kit_KeptModule (fn := Try.f34) (c := Try.f34.body.getD .skip) mixed Try.func34 (by kernel_rfl) (by kernel_rfl) h

/- trammel/trammelkit.Bulk -/
def lo_kit_Bulk : List (Nat × List Nat) := [(6, [1, 2, 5, 6]), (14, [1, 2, 5, 6, 7]), (22, [1, 2, 5, 8]), (30, [1, 2, 5, 9])]
def cu_kit_Bulk : List (Nat × List Nat) := []
noncomputable def L_kit_Bulk_1 : Code := (codeAt [1, 1, 0, 1, 0, 0, 1, 0, 0, 1, 1, 0, 0] (Try.f30.body.getD .skip))
def K_kit_Bulk_1 (E : Env) (w0 : World) (x : Bool) (N0 : D → D → D → D → DSt → Prop) (Q : D → DSt → Prop) : AExit → List D → DSt → Prop :=
  (blockD 2 (blockD 1 (seqD Try.prog E w0 x lo_kit_Bulk cu_kit_Bulk (codeAt [1, 1, 0, 1, 0, 0, 1, 1] (Try.f30.body.getD .skip)) (loopKD (fun T S => N0 (T.getD 1 undefD) (T.getD 2 undefD) (T.getD 5 undefD) (T.getD 6 undefD) S) (blockD 0 (seqD Try.prog E w0 x lo_kit_Bulk cu_kit_Bulk (codeAt [1, 1, 1] (Try.f30.body.getD .skip)) (retD Try.prog Try.f30 Q)))))))
def B_kit_Bulk_1 (E : Env) (w0 : World) (x : Bool) (N0 : D → D → D → D → DSt → Prop) (N1 : D → D → D → D → D → DSt → Prop) (Q : D → DSt → Prop) (x1 x2 x5 x6 x7 : D) (S : DSt) : Prop :=
  optW (offD 0 x2) fun v35 =>
  optW (loadSc S v35) fun v36 =>
  optW (idxSl 5 v36 x6) fun v37 =>
  optW (offD 2 v37) fun v38 =>
  optW (loadSc S v38) fun v39 =>
  optW (lenSl v39) fun v40 =>
  optW (binI .lss x7 v40) fun v41 =>
  optW (valGD (wantsD v41 true) (some x5)) fun v42 =>
  optW (valGD (wantsD v41 true) (some x1)) fun v43 =>
  optW (valGD (wantsD v41 true) (binI .leq v42 v43)) fun v44 =>
  optW (pickD v41 v44 (.bool false)) fun v45 =>
  condD v45
  (optW (offD 0 x2) fun v46 =>
  optW (loadSc S v46) fun v47 =>
  optW (idxSl 5 v47 x6) fun v48 =>
  optW (offD 2 v48) fun v49 =>
  optW (loadSc S v49) fun v50 =>
  optW (idxSl 2 v50 x7) fun v51 =>
  optW (offD 0 v51) fun v52 =>
  optW (loadSc S v52) fun v53 =>
  optW (lenStr v53) fun v54 =>
  optW (binI .add x5 v54) fun v55 =>
  optW (binI .add x7 (.int .i64 1)) fun v56 =>
  N1 x1 x2 v55 x6 v56 S)
  (optW (binI .add x6 (.int .i64 1)) fun v57 =>
  N0 x1 x2 x5 v57 S)
theorem B_kit_Bulk_1_ok {E : Env} {w0 : World} {x : Bool} {N0 : D → D → D → D → DSt → Prop} {N1 : D → D → D → D → D → DSt → Prop} {Q : D → DSt → Prop} {x1 x2 x5 x6 x7 : D} {S : DSt} (h : B_kit_Bulk_1 E w0 x N0 N1 Q x1 x2 x5 x6 x7 S) :
    CodeD Try.prog E w0 x L_kit_Bulk_1 (mkRow 135 [1, 2, 5, 6, 7] [x1, x2, x5, x6, x7]) S (loopKD (fun T S => N1 (T.getD 1 undefD) (T.getD 2 undefD) (T.getD 5 undefD) (T.getD 6 undefD) (T.getD 7 undefD) S) (K_kit_Bulk_1 E w0 x N0 Q)) := codeD_of_vc lo_kit_Bulk cu_kit_Bulk mixed (by kernel_rfl) h
theorem loop_kit_Bulk_1 {E : Env} {w0 : World} {x : Bool} {N0 : D → D → D → D → DSt → Prop} {Q : D → DSt → Prop} (I : Nat → D → D → D → D → D → DSt → Prop)
    (step : ∀ n x1 x2 x5 x6 x7 S, I n x1 x2 x5 x6 x7 S → B_kit_Bulk_1 E w0 x N0 (fun x1 x2 x5 x6 x7 S => ∃ m, m < n ∧ I m x1 x2 x5 x6 x7 S) Q x1 x2 x5 x6 x7 S)
    {n : Nat} {x1 x2 x5 x6 x7 : D} {S : DSt} (h : I n x1 x2 x5 x6 x7 S) : CodeD Try.prog E w0 x (.loop L_kit_Bulk_1) (mkRow 135 [1, 2, 5, 6, 7] [x1, x2, x5, x6, x7]) S (K_kit_Bulk_1 E w0 x N0 Q) :=
  codeD_loop (k := 135) (n := n) (I := fun n T S => I n (T.getD 1 undefD) (T.getD 2 undefD) (T.getD 5 undefD) (T.getD 6 undefD) (T.getD 7 undefD) S) (fun n T S hl hI => codeD_row [1, 2, 5, 6, 7] hl (CodeD.mono (B_kit_Bulk_1_ok (step n _ _ _ _ _ S hI)) fun ex T' S' _ hq => by cases ex <;> exact hq)) (mkRow_length ..) (Eq.mp (by kernel_rfl) h)
noncomputable def L_kit_Bulk_3 : Code := (codeAt [1, 1, 1, 1, 0, 1, 0, 0] (Try.f30.body.getD .skip))
def K_kit_Bulk_3 (E : Env) (w0 : World) (x : Bool) (Q : D → DSt → Prop) : AExit → List D → DSt → Prop :=
  (blockD 6 (seqD Try.prog E w0 x lo_kit_Bulk cu_kit_Bulk (codeAt [1, 1, 1, 1, 1] (Try.f30.body.getD .skip)) (retD Try.prog Try.f30 Q)))
def B_kit_Bulk_3 (E : Env) (w0 : World) (x : Bool) (N3 : D → D → D → D → DSt → Prop) (Q : D → DSt → Prop) (x1 x2 x5 x9 : D) (S : DSt) : Prop :=
  optW (offD 2 x2) fun v73 =>
  optW (loadSc S v73) fun v74 =>
  optW (lenSl v74) fun v75 =>
  optW (binI .lss x9 v75) fun v76 =>
  optW (valGD (wantsD v76 true) (some x5)) fun v77 =>
  optW (valGD (wantsD v76 true) (some x1)) fun v78 =>
  optW (valGD (wantsD v76 true) (binI .leq v77 v78)) fun v79 =>
  optW (pickD v76 v79 (.bool false)) fun v80 =>
  condD v80
  (optW (offD 2 x2) fun v81 =>
  optW (loadSc S v81) fun v82 =>
  optW (idxSl 6 v82 x9) fun v83 =>
  optW (loadAg S 6 v83) fun v84 =>
  allocD S [(.str []), .nilSlc, .nilSlc, (.int .i64 0), (.int .i64 0), .nilSlc] fun v85 S86 =>
  storeD S86 6 v85 v84 fun v87 S88 =>
  optW (offD 0 v85) fun v89 =>
  optW (loadSc S88 v89) fun v90 =>
  optW (lenStr v90) fun v91 =>
  optW (binI .add x5 v91) fun v92 =>
  optW (offD 1 v85) fun v93 =>
  optW (loadSc S88 v93) fun v94 =>
  optW (lenSl v94) fun v95 =>
  optW (binI .add v92 v95) fun v96 =>
  optW (offD 2 v85) fun v97 =>
  optW (loadSc S88 v97) fun v98 =>
  optW (lenSl v98) fun v99 =>
  optW (binI .add v96 v99) fun v100 =>
  optW (offD 5 v85) fun v101 =>
  optW (loadSc S88 v101) fun v102 =>
  optW (lenSl v102) fun v103 =>
  optW (binI .add v100 v103) fun v104 =>
  optW (binI .add x9 (.int .i64 1)) fun v105 =>
  N3 x1 x2 v104 v105 S88)
  (Q x5 S)
theorem B_kit_Bulk_3_ok {E : Env} {w0 : World} {x : Bool} {N3 : D → D → D → D → DSt → Prop} {Q : D → DSt → Prop} {x1 x2 x5 x9 : D} {S : DSt} (h : B_kit_Bulk_3 E w0 x N3 Q x1 x2 x5 x9 S) :
    CodeD Try.prog E w0 x L_kit_Bulk_3 (mkRow 135 [1, 2, 5, 9] [x1, x2, x5, x9]) S (loopKD (fun T S => N3 (T.getD 1 undefD) (T.getD 2 undefD) (T.getD 5 undefD) (T.getD 9 undefD) S) (K_kit_Bulk_3 E w0 x Q)) := codeD_of_vc lo_kit_Bulk cu_kit_Bulk mixed (by kernel_rfl) h
theorem loop_kit_Bulk_3 {E : Env} {w0 : World} {x : Bool} {Q : D → DSt → Prop} (I : Nat → D → D → D → D → DSt → Prop)
    (step : ∀ n x1 x2 x5 x9 S, I n x1 x2 x5 x9 S → B_kit_Bulk_3 E w0 x (fun x1 x2 x5 x9 S => ∃ m, m < n ∧ I m x1 x2 x5 x9 S) Q x1 x2 x5 x9 S)
    {n : Nat} {x1 x2 x5 x9 : D} {S : DSt} (h : I n x1 x2 x5 x9 S) : CodeD Try.prog E w0 x (.loop L_kit_Bulk_3) (mkRow 135 [1, 2, 5, 9] [x1, x2, x5, x9]) S (K_kit_Bulk_3 E w0 x Q) :=
  codeD_loop (k := 135) (n := n) (I := fun n T S => I n (T.getD 1 undefD) (T.getD 2 undefD) (T.getD 5 undefD) (T.getD 9 undefD) S) (fun n T S hl hI => codeD_row [1, 2, 5, 9] hl (CodeD.mono (B_kit_Bulk_3_ok (step n _ _ _ _ S hI)) fun ex T' S' _ hq => by cases ex <;> exact hq)) (mkRow_length ..) (Eq.mp (by kernel_rfl) h)
noncomputable def L_kit_Bulk_2 : Code := (codeAt [1, 1, 1, 0, 1, 0, 0] (Try.f30.body.getD .skip))
def K_kit_Bulk_2 (E : Env) (w0 : World) (x : Bool) (Q : D → DSt → Prop) : AExit → List D → DSt → Prop :=
  (blockD 4 (seqD Try.prog E w0 x lo_kit_Bulk cu_kit_Bulk (codeAt [1, 1, 1, 1] (Try.f30.body.getD .skip)) (retD Try.prog Try.f30 Q)))
def B_kit_Bulk_2 (E : Env) (w0 : World) (x : Bool) (N2 : D → D → D → D → DSt → Prop) (Q : D → DSt → Prop) (x1 x2 x5 x8 : D) (S : DSt) : Prop :=
  optW (offD 1 x2) fun v58 =>
  optW (loadSc S v58) fun v59 =>
  optW (lenSl v59) fun v60 =>
  optW (binI .lss x8 v60) fun v61 =>
  optW (valGD (wantsD v61 true) (some x5)) fun v62 =>
  optW (valGD (wantsD v61 true) (some x1)) fun v63 =>
  optW (valGD (wantsD v61 true) (binI .leq v62 v63)) fun v64 =>
  optW (pickD v61 v64 (.bool false)) fun v65 =>
  condD v65
  (optW (offD 1 x2) fun v66 =>
  optW (loadSc S v66) fun v67 =>
  optW (idxSl 1 v67 x8) fun v68 =>
  optW (loadSc S v68) fun v69 =>
  optW (lenStr v69) fun v70 =>
  optW (binI .add x5 v70) fun v71 =>
  optW (binI .add x8 (.int .i64 1)) fun v72 =>
  N2 x1 x2 v71 v72 S)
  (CodeD Try.prog E w0 x (.loop L_kit_Bulk_3) (mkRow 135 [1, 2, 5, 9] [x1, x2, x5, (.int .i64 0)]) S (K_kit_Bulk_3 E w0 x Q))
theorem B_kit_Bulk_2_ok {E : Env} {w0 : World} {x : Bool} {N2 : D → D → D → D → DSt → Prop} {Q : D → DSt → Prop} {x1 x2 x5 x8 : D} {S : DSt} (h : B_kit_Bulk_2 E w0 x N2 Q x1 x2 x5 x8 S) :
    CodeD Try.prog E w0 x L_kit_Bulk_2 (mkRow 135 [1, 2, 5, 8] [x1, x2, x5, x8]) S (loopKD (fun T S => N2 (T.getD 1 undefD) (T.getD 2 undefD) (T.getD 5 undefD) (T.getD 8 undefD) S) (K_kit_Bulk_2 E w0 x Q)) := codeD_of_vc lo_kit_Bulk cu_kit_Bulk mixed (by kernel_rfl) h
theorem loop_kit_Bulk_2 {E : Env} {w0 : World} {x : Bool} {Q : D → DSt → Prop} (I : Nat → D → D → D → D → DSt → Prop)
    (step : ∀ n x1 x2 x5 x8 S, I n x1 x2 x5 x8 S → B_kit_Bulk_2 E w0 x (fun x1 x2 x5 x8 S => ∃ m, m < n ∧ I m x1 x2 x5 x8 S) Q x1 x2 x5 x8 S)
    {n : Nat} {x1 x2 x5 x8 : D} {S : DSt} (h : I n x1 x2 x5 x8 S) : CodeD Try.prog E w0 x (.loop L_kit_Bulk_2) (mkRow 135 [1, 2, 5, 8] [x1, x2, x5, x8]) S (K_kit_Bulk_2 E w0 x Q) :=
  codeD_loop (k := 135) (n := n) (I := fun n T S => I n (T.getD 1 undefD) (T.getD 2 undefD) (T.getD 5 undefD) (T.getD 8 undefD) S) (fun n T S hl hI => codeD_row [1, 2, 5, 8] hl (CodeD.mono (B_kit_Bulk_2_ok (step n _ _ _ _ S hI)) fun ex T' S' _ hq => by cases ex <;> exact hq)) (mkRow_length ..) (Eq.mp (by kernel_rfl) h)
noncomputable def L_kit_Bulk_0 : Code := (codeAt [1, 1, 0, 1, 0, 0] (Try.f30.body.getD .skip))
def K_kit_Bulk_0 (E : Env) (w0 : World) (x : Bool) (Q : D → DSt → Prop) : AExit → List D → DSt → Prop :=
  (blockD 0 (seqD Try.prog E w0 x lo_kit_Bulk cu_kit_Bulk (codeAt [1, 1, 1] (Try.f30.body.getD .skip)) (retD Try.prog Try.f30 Q)))
def B_kit_Bulk_0 (E : Env) (w0 : World) (x : Bool) (N0 : D → D → D → D → DSt → Prop) (Q : D → DSt → Prop) (x1 x2 x5 x6 : D) (S : DSt) : Prop :=
  optW (offD 0 x2) fun v13 =>
  optW (loadSc S v13) fun v14 =>
  optW (lenSl v14) fun v15 =>
  optW (binI .lss x6 v15) fun v16 =>
  optW (valGD (wantsD v16 true) (some x5)) fun v17 =>
  optW (valGD (wantsD v16 true) (some x1)) fun v18 =>
  optW (valGD (wantsD v16 true) (binI .leq v17 v18)) fun v19 =>
  optW (pickD v16 v19 (.bool false)) fun v20 =>
  condD v20
  (optW (offD 0 x2) fun v21 =>
  optW (loadSc S v21) fun v22 => (True) ∧
  optW (idxSl 5 v22 x6) fun v23 =>
  optW (offD 1 v23) fun v24 =>
  optW (loadSc S v24) fun v25 => (True) ∧
  optW (lenStr v25) fun v26 => (True) ∧
  optW (binI .add x5 v26) fun v27 =>
  optW (offD 0 x2) fun v28 =>
  optW (loadSc S v28) fun v29 => (True) ∧
  optW (idxSl 5 v29 x6) fun v30 =>
  optW (offD 2 v30) fun v31 =>
  optW (loadSc S v31) fun v32 => (True) ∧
  optW (lenSl v32) fun v33 => (True) ∧
  optW (binI .add v27 v33) fun v34 =>
  CodeD Try.prog E w0 x (.loop L_kit_Bulk_1) (mkRow 135 [1, 2, 5, 6, 7] [x1, x2, v34, x6, (.int .i64 0)]) S (K_kit_Bulk_1 E w0 x N0 Q))
  (CodeD Try.prog E w0 x (.loop L_kit_Bulk_2) (mkRow 135 [1, 2, 5, 8] [x1, x2, x5, (.int .i64 0)]) S (K_kit_Bulk_2 E w0 x Q))
theorem B_kit_Bulk_0_ok {E : Env} {w0 : World} {x : Bool} {N0 : D → D → D → D → DSt → Prop} {Q : D → DSt → Prop} {x1 x2 x5 x6 : D} {S : DSt} (h : B_kit_Bulk_0 E w0 x N0 Q x1 x2 x5 x6 S) :
    CodeD Try.prog E w0 x L_kit_Bulk_0 (mkRow 135 [1, 2, 5, 6] [x1, x2, x5, x6]) S (loopKD (fun T S => N0 (T.getD 1 undefD) (T.getD 2 undefD) (T.getD 5 undefD) (T.getD 6 undefD) S) (K_kit_Bulk_0 E w0 x Q)) := codeD_of_vc lo_kit_Bulk cu_kit_Bulk mixed (by kernel_rfl) h
theorem loop_kit_Bulk_0 {E : Env} {w0 : World} {x : Bool} {Q : D → DSt → Prop} (I : Nat → D → D → D → D → DSt → Prop)
    (step : ∀ n x1 x2 x5 x6 S, I n x1 x2 x5 x6 S → B_kit_Bulk_0 E w0 x (fun x1 x2 x5 x6 S => ∃ m, m < n ∧ I m x1 x2 x5 x6 S) Q x1 x2 x5 x6 S)
    {n : Nat} {x1 x2 x5 x6 : D} {S : DSt} (h : I n x1 x2 x5 x6 S) : CodeD Try.prog E w0 x (.loop L_kit_Bulk_0) (mkRow 135 [1, 2, 5, 6] [x1, x2, x5, x6]) S (K_kit_Bulk_0 E w0 x Q) :=
  codeD_loop (k := 135) (n := n) (I := fun n T S => I n (T.getD 1 undefD) (T.getD 2 undefD) (T.getD 5 undefD) (T.getD 6 undefD) S) (fun n T S hl hI => codeD_row [1, 2, 5, 6] hl (CodeD.mono (B_kit_Bulk_0_ok (step n _ _ _ _ S hI)) fun ex T' S' _ hq => by cases ex <;> exact hq)) (mkRow_length ..) (Eq.mp (by kernel_rfl) h)
def V_kit_Bulk (E : Env) (w0 : World) (x : Bool) (Q : D → DSt → Prop) (a0 a1 : D) (S : DSt) : Prop :=
  optW (cellsD a0) fun cs => allocD S cs fun v0 S1 =>
  optW (offD 0 v0) fun v2 =>
  optW (loadSc S1 v2) fun v3 =>
  optW (lenSl v3) fun v4 =>
  optW (offD 1 v0) fun v5 =>
  optW (loadSc S1 v5) fun v6 =>
  optW (lenSl v6) fun v7 =>
  optW (binI .add v4 v7) fun v8 =>
  optW (offD 2 v0) fun v9 =>
  optW (loadSc S1 v9) fun v10 =>
  optW (lenSl v10) fun v11 =>
  optW (binI .add v8 v11) fun v12 =>
  CodeD Try.prog E w0 x (.loop L_kit_Bulk_0) (mkRow 135 [1, 2, 5, 6] [a1, v0, v12, (.int .i64 0)]) S1 (K_kit_Bulk_0 E w0 x Q)
theorem V_kit_Bulk_ok {E : Env} {w0 : World} {x : Bool} {Q : D → DSt → Prop} {a0 a1 : D} {S : DSt} (h : V_kit_Bulk E w0 x (FinD E Q) a0 a1 S) : DFn Try.prog E w0 x f_kit_Bulk [a0, a1] S Q :=
  fnD_of_vc lo_kit_Bulk cu_kit_Bulk (fn := Try.f30) (c := Try.f30.body.getD .skip) mixed Try.func30 (by kernel_rfl) (by kernel_rfl) h
end Go.Proofs.Ytcboaonbfgjmgaa.d
end
