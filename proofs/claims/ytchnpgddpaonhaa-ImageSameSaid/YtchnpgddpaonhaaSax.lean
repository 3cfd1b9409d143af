/-
  Texts Vj Ga Vm Gb, as far as they are used.
-/
import Derived.Test.YtchnpgddpaonhaaRows
import Derived.Test.YtchnpgddpaonhaaSau
import Derived.KernelRfl
import Derived.Test.YtchnpgddpaonhaaSaw
section
open Go.Proofs Go Go.Am
namespace Go.Proofs.Ytchnpgddpaonhaa.d
set_option linter.unusedVariables false
set_option maxRecDepth 100000
/- trammel/image.Same -/
def lo_image_Same : List (Nat × List Nat) := []
def cu_image_Same : List (Nat × List Nat) := []
def V_image_Same (E : Env) (w0 : World) (x : Bool) (Q : D → DSt → Prop) (a0 a1 : D) (S : DSt) : Prop :=
  optW (cellsD a0) fun cs => allocD S cs fun v0 S1 =>
  optW (cellsD a1) fun cs => allocD S1 cs fun v2 S3 =>
  optW (offD 0 v0) fun v4 =>
  optW (loadSc S3 v4) fun v5 =>
  optW (offD 0 v2) fun v6 =>
  optW (loadSc S3 v6) fun v7 =>
  DFn Try.prog E w0 x f_slices_EqualFunc_api_Type [v5, v7, (.fn (.func f_image_Same_1) [] [])] S3 fun v8 S9 =>
  optW (valGD (wantsD v8 true) (offD 1 v0)) fun v10 =>
  optW (valGD (wantsD v8 true) (loadSc S9 v10)) fun v11 =>
  optW (valGD (wantsD v8 true) (offD 1 v2)) fun v12 =>
  optW (valGD (wantsD v8 true) (loadSc S9 v12)) fun v13 =>
  guardD (wantsD v8 true) (fun K => DFn Try.prog E w0 x f_slices_Equal_string [v11, v13] S9 K) S9 fun v14 S15 =>
  optW (pickD v8 v14 (.bool false)) fun v16 =>
  optW (valGD (wantsD v16 true) (offD 2 v0)) fun v17 =>
  optW (valGD (wantsD v16 true) (loadSc S15 v17)) fun v18 =>
  optW (valGD (wantsD v16 true) (offD 2 v2)) fun v19 =>
  optW (valGD (wantsD v16 true) (loadSc S15 v19)) fun v20 =>
  optW (valGD (wantsD v16 true) (some (.fn (.func f_image_Same_2) [] []))) fun v21 =>
  guardD (wantsD v16 true) (fun K => DFn Try.prog E w0 x f_slices_EqualFunc_api_Routine [v18, v20, v21] S15 K) S15 fun v22 S23 =>
  optW (pickD v16 v22 (.bool false)) fun v24 =>
  Q v24 S23
theorem V_image_Same_ok {E : Env} {w0 : World} {x : Bool} {Q : D → DSt → Prop} {a0 a1 : D} {S : DSt} (h : V_image_Same E w0 x (FinD E Q) a0 a1 S) : DFn Try.prog E w0 x f_image_Same [a0, a1] S Q :=
  fnD_of_vc lo_image_Same cu_image_Same (fn := Try.f13) (c := Try.f13.body.getD .skip) mixed Try.func13 (by kernel_rfl) (by kernel_rfl) h

/- trammel/image.Same$1 -/
def lo_image_Same_1 : List (Nat × List Nat) := []
def cu_image_Same_1 : List (Nat × List Nat) := []
def V_image_Same_1 (E : Env) (w0 : World) (x : Bool) (Q : D → DSt → Prop) (a0 a1 : D) (S : DSt) : Prop :=
  optW (cellsD a0) fun cs => allocD S cs fun v0 S1 =>
  optW (cellsD a1) fun cs => allocD S1 cs fun v2 S3 =>
  optW (offD 0 v0) fun v4 =>
  optW (loadSc S3 v4) fun v5 =>
  optW (offD 0 v2) fun v6 =>
  optW (loadSc S3 v6) fun v7 =>
  optW (binI .eql v5 v7) fun v8 =>
  optW (valGD (wantsD v8 true) (offD 1 v0)) fun v9 =>
  optW (valGD (wantsD v8 true) (loadSc S3 v9)) fun v10 =>
  optW (valGD (wantsD v8 true) (offD 1 v2)) fun v11 =>
  optW (valGD (wantsD v8 true) (loadSc S3 v11)) fun v12 =>
  optW (valGD (wantsD v8 true) (binS .eql v10 v12)) fun v13 =>
  optW (pickD v8 v13 (.bool false)) fun v14 =>
  optW (valGD (wantsD v14 true) (offD 3 v0)) fun v15 =>
  optW (valGD (wantsD v14 true) (loadSc S3 v15)) fun v16 =>
  optW (valGD (wantsD v14 true) (offD 3 v2)) fun v17 =>
  optW (valGD (wantsD v14 true) (loadSc S3 v17)) fun v18 =>
  optW (valGD (wantsD v14 true) (binI .eql v16 v18)) fun v19 =>
  optW (pickD v14 v19 (.bool false)) fun v20 =>
  optW (valGD (wantsD v20 true) (offD 4 v0)) fun v21 =>
  optW (valGD (wantsD v20 true) (loadSc S3 v21)) fun v22 =>
  optW (valGD (wantsD v20 true) (offD 4 v2)) fun v23 =>
  optW (valGD (wantsD v20 true) (loadSc S3 v23)) fun v24 =>
  optW (valGD (wantsD v20 true) (binI .eql v22 v24)) fun v25 =>
  optW (pickD v20 v25 (.bool false)) fun v26 =>
  optW (valGD (wantsD v26 true) (offD 2 v0)) fun v27 =>
  optW (valGD (wantsD v26 true) (loadSc S3 v27)) fun v28 =>
  optW (valGD (wantsD v26 true) (offD 2 v2)) fun v29 =>
  optW (valGD (wantsD v26 true) (loadSc S3 v29)) fun v30 =>
  guardD (wantsD v26 true) (fun K => DFn Try.prog E w0 x f_slices_Equal_api_Field [v28, v30] S3 K) S3 fun v31 S32 =>
  optW (pickD v26 v31 (.bool false)) fun v33 =>
  Q v33 S32
theorem V_image_Same_1_ok {E : Env} {w0 : World} {x : Bool} {Q : D → DSt → Prop} {a0 a1 : D} {S : DSt} (h : V_image_Same_1 E w0 x (FinD E Q) a0 a1 S) : DFn Try.prog E w0 x f_image_Same_1 [a0, a1] S Q :=
  fnD_of_vc lo_image_Same_1 cu_image_Same_1 (fn := Try.f29) (c := Try.f29.body.getD .skip) mixed Try.func29 (by kernel_rfl) (by kernel_rfl) h

/- trammel/image.Same$2 -/
def lo_image_Same_2 : List (Nat × List Nat) := []
def cu_image_Same_2 : List (Nat × List Nat) := []
def V_image_Same_2 (E : Env) (w0 : World) (x : Bool) (Q : D → DSt → Prop) (a0 a1 : D) (S : DSt) : Prop :=
  optW (cellsD a0) fun cs => allocD S cs fun v0 S1 =>
  optW (cellsD a1) fun cs => allocD S1 cs fun v2 S3 =>
  optW (offD 0 v0) fun v4 =>
  optW (loadSc S3 v4) fun v5 =>
  optW (offD 0 v2) fun v6 =>
  optW (loadSc S3 v6) fun v7 =>
  optW (binS .eql v5 v7) fun v8 =>
  optW (valGD (wantsD v8 true) (offD 3 v0)) fun v9 =>
  optW (valGD (wantsD v8 true) (loadSc S3 v9)) fun v10 =>
  optW (valGD (wantsD v8 true) (offD 3 v2)) fun v11 =>
  optW (valGD (wantsD v8 true) (loadSc S3 v11)) fun v12 =>
  optW (valGD (wantsD v8 true) (binI .eql v10 v12)) fun v13 =>
  optW (pickD v8 v13 (.bool false)) fun v14 =>
  optW (valGD (wantsD v14 true) (offD 4 v0)) fun v15 =>
  optW (valGD (wantsD v14 true) (loadSc S3 v15)) fun v16 =>
  optW (valGD (wantsD v14 true) (offD 4 v2)) fun v17 =>
  optW (valGD (wantsD v14 true) (loadSc S3 v17)) fun v18 =>
  optW (valGD (wantsD v14 true) (binI .eql v16 v18)) fun v19 =>
  optW (pickD v14 v19 (.bool false)) fun v20 =>
  optW (valGD (wantsD v20 true) (offD 1 v0)) fun v21 =>
  optW (valGD (wantsD v20 true) (loadSc S3 v21)) fun v22 =>
  optW (valGD (wantsD v20 true) (offD 1 v2)) fun v23 =>
  optW (valGD (wantsD v20 true) (loadSc S3 v23)) fun v24 =>
  guardD (wantsD v20 true) (fun K => DFn Try.prog E w0 x f_slices_Equal_int [v22, v24] S3 K) S3 fun v25 S26 =>
  optW (pickD v20 v25 (.bool false)) fun v27 =>
  optW (valGD (wantsD v27 true) (offD 2 v0)) fun v28 =>
  optW (valGD (wantsD v27 true) (loadSc S26 v28)) fun v29 =>
  optW (valGD (wantsD v27 true) (offD 2 v2)) fun v30 =>
  optW (valGD (wantsD v27 true) (loadSc S26 v30)) fun v31 =>
  guardD (wantsD v27 true) (fun K => DFn Try.prog E w0 x f_slices_Equal_int [v29, v31] S26 K) S26 fun v32 S33 =>
  optW (pickD v27 v32 (.bool false)) fun v34 =>
  optW (valGD (wantsD v34 true) (offD 5 v0)) fun v35 =>
  optW (valGD (wantsD v34 true) (loadSc S33 v35)) fun v36 =>
  optW (valGD (wantsD v34 true) (offD 5 v2)) fun v37 =>
  optW (valGD (wantsD v34 true) (loadSc S33 v37)) fun v38 =>
  guardD (wantsD v34 true) (fun K => DFn Try.prog E w0 x f_bytes_Equal [v36, v38] S33 K) S33 fun v39 S40 =>
  optW (pickD v34 v39 (.bool false)) fun v41 =>
  Q v41 S40
theorem V_image_Same_2_ok {E : Env} {w0 : World} {x : Bool} {Q : D → DSt → Prop} {a0 a1 : D} {S : DSt} (h : V_image_Same_2 E w0 x (FinD E Q) a0 a1 S) : DFn Try.prog E w0 x f_image_Same_2 [a0, a1] S Q :=
  fnD_of_vc lo_image_Same_2 cu_image_Same_2 (fn := Try.f31) (c := Try.f31.body.getD .skip) mixed Try.func31 (by kernel_rfl) (by kernel_rfl) h

/- slices.Equal[[]trammel/api.Field,trammel/api.Field] -/
def lo_slices_Equal_api_Field : List (Nat × List Nat) := [(8, [0, 1, 12, 13])]
def cu_slices_Equal_api_Field : List (Nat × List Nat) := []
noncomputable def L_slices_Equal_api_Field_0 : Code := (codeAt [1, 1, 0, 1, 0, 0] (Try.f30.body.getD .skip))
def K_slices_Equal_api_Field_0 (E : Env) (w0 : World) (x : Bool) (Q : D → DSt → Prop) : AExit → List D → DSt → Prop :=
  (blockD 0 (seqD Try.prog E w0 x lo_slices_Equal_api_Field cu_slices_Equal_api_Field (codeAt [1, 1, 1] (Try.f30.body.getD .skip)) (retD Try.prog Try.f30 Q)))
def B_slices_Equal_api_Field_0 (E : Env) (w0 : World) (x : Bool) (N0 : D → D → D → D → DSt → Prop) (Q : D → DSt → Prop) (x0 x1 x12 x13 : D) (S : DSt) : Prop :=
  optW (binI .lss x13 x12) fun v4 =>
  condD v4
  (optW (idxSl 2 x0 x13) fun v5 =>
  optW (loadAg S 2 v5) fun v6 => (True) ∧
  optW (idxSl 2 x1 x13) fun v7 =>
  optW (loadAg S 2 v7) fun v8 => (True) ∧
  optW (eqOp .neq (eqAg Try.prog t_api_Field v6 v8)) fun v9 =>
  condD v9
  (Q (.bool false) S)
  (optW (binI .add x13 (.int .i64 1)) fun v10 =>
  N0 x0 x1 x12 v10 S))
  (Q (.bool true) S)
theorem B_slices_Equal_api_Field_0_ok {E : Env} {w0 : World} {x : Bool} {N0 : D → D → D → D → DSt → Prop} {Q : D → DSt → Prop} {x0 x1 x12 x13 : D} {S : DSt} (h : B_slices_Equal_api_Field_0 E w0 x N0 Q x0 x1 x12 x13 S) :
    CodeD Try.prog E w0 x L_slices_Equal_api_Field_0 (mkRow 26 [0, 1, 12, 13] [x0, x1, x12, x13]) S (loopKD (fun T S => N0 (T.getD 0 undefD) (T.getD 1 undefD) (T.getD 12 undefD) (T.getD 13 undefD) S) (K_slices_Equal_api_Field_0 E w0 x Q)) := codeD_of_vc lo_slices_Equal_api_Field cu_slices_Equal_api_Field mixed (by kernel_rfl) h
theorem loop_slices_Equal_api_Field_0 {E : Env} {w0 : World} {x : Bool} {Q : D → DSt → Prop} (I : Nat → D → D → D → D → DSt → Prop)
    (step : ∀ n x0 x1 x12 x13 S, I n x0 x1 x12 x13 S → B_slices_Equal_api_Field_0 E w0 x (fun x0 x1 x12 x13 S => ∃ m, m < n ∧ I m x0 x1 x12 x13 S) Q x0 x1 x12 x13 S)
    {n : Nat} {x0 x1 x12 x13 : D} {S : DSt} (h : I n x0 x1 x12 x13 S) : CodeD Try.prog E w0 x (.loop L_slices_Equal_api_Field_0) (mkRow 26 [0, 1, 12, 13] [x0, x1, x12, x13]) S (K_slices_Equal_api_Field_0 E w0 x Q) :=
  codeD_loop (k := 26) (n := n) (I := fun n T S => I n (T.getD 0 undefD) (T.getD 1 undefD) (T.getD 12 undefD) (T.getD 13 undefD) S) (fun n T S hl hI => codeD_row [0, 1, 12, 13] hl (CodeD.mono (B_slices_Equal_api_Field_0_ok (step n _ _ _ _ S hI)) fun ex T' S' _ hq => by cases ex <;> exact hq)) (mkRow_length ..) (Eq.mp (by kernel_rfl) h)
def V_slices_Equal_api_Field (E : Env) (w0 : World) (x : Bool) (Q : D → DSt → Prop) (a0 a1 : D) (S : DSt) : Prop :=
  optW (lenSl a0) fun v0 =>
  optW (lenSl a1) fun v1 =>
  optW (binI .neq v0 v1) fun v2 =>
  condD v2
  (Q (.bool false) S)
  (optW (lenSl a0) fun v3 =>
  CodeD Try.prog E w0 x (.loop L_slices_Equal_api_Field_0) (mkRow 26 [0, 1, 12, 13] [a0, a1, v3, (.int .i64 0)]) S (K_slices_Equal_api_Field_0 E w0 x Q))
theorem V_slices_Equal_api_Field_ok {E : Env} {w0 : World} {x : Bool} {Q : D → DSt → Prop} {a0 a1 : D} {S : DSt} (h : V_slices_Equal_api_Field E w0 x (FinD E Q) a0 a1 S) : DFn Try.prog E w0 x f_slices_Equal_api_Field [a0, a1] S Q :=
  fnD_of_vc lo_slices_Equal_api_Field cu_slices_Equal_api_Field (fn := Try.f30) (c := Try.f30.body.getD .skip) mixed Try.func30 (by kernel_rfl) (by kernel_rfl) h

/- slices.Equal[[]int,int] -/
def lo_slices_Equal_int : List (Nat × List Nat) := [(8, [0, 1, 12, 13])]
def cu_slices_Equal_int : List (Nat × List Nat) := []
noncomputable def L_slices_Equal_int_0 : Code := (codeAt [1, 1, 0, 1, 0, 0] (Try.f32.body.getD .skip))
def K_slices_Equal_int_0 (E : Env) (w0 : World) (x : Bool) (Q : D → DSt → Prop) : AExit → List D → DSt → Prop :=
  (blockD 0 (seqD Try.prog E w0 x lo_slices_Equal_int cu_slices_Equal_int (codeAt [1, 1, 1] (Try.f32.body.getD .skip)) (retD Try.prog Try.f32 Q)))
def B_slices_Equal_int_0 (E : Env) (w0 : World) (x : Bool) (N0 : D → D → D → D → DSt → Prop) (Q : D → DSt → Prop) (x0 x1 x12 x13 : D) (S : DSt) : Prop :=
  optW (binI .lss x13 x12) fun v4 =>
  condD v4
  (optW (idxSl 1 x0 x13) fun v5 =>
  optW (loadSc S v5) fun v6 => (True) ∧
  optW (idxSl 1 x1 x13) fun v7 =>
  optW (loadSc S v7) fun v8 => (True) ∧
  optW (binI .neq v6 v8) fun v9 =>
  condD v9
  (Q (.bool false) S)
  (optW (binI .add x13 (.int .i64 1)) fun v10 =>
  N0 x0 x1 x12 v10 S))
  (Q (.bool true) S)
theorem B_slices_Equal_int_0_ok {E : Env} {w0 : World} {x : Bool} {N0 : D → D → D → D → DSt → Prop} {Q : D → DSt → Prop} {x0 x1 x12 x13 : D} {S : DSt} (h : B_slices_Equal_int_0 E w0 x N0 Q x0 x1 x12 x13 S) :
    CodeD Try.prog E w0 x L_slices_Equal_int_0 (mkRow 26 [0, 1, 12, 13] [x0, x1, x12, x13]) S (loopKD (fun T S => N0 (T.getD 0 undefD) (T.getD 1 undefD) (T.getD 12 undefD) (T.getD 13 undefD) S) (K_slices_Equal_int_0 E w0 x Q)) := codeD_of_vc lo_slices_Equal_int cu_slices_Equal_int mixed (by kernel_rfl) h
theorem loop_slices_Equal_int_0 {E : Env} {w0 : World} {x : Bool} {Q : D → DSt → Prop} (I : Nat → D → D → D → D → DSt → Prop)
    (step : ∀ n x0 x1 x12 x13 S, I n x0 x1 x12 x13 S → B_slices_Equal_int_0 E w0 x (fun x0 x1 x12 x13 S => ∃ m, m < n ∧ I m x0 x1 x12 x13 S) Q x0 x1 x12 x13 S)
    {n : Nat} {x0 x1 x12 x13 : D} {S : DSt} (h : I n x0 x1 x12 x13 S) : CodeD Try.prog E w0 x (.loop L_slices_Equal_int_0) (mkRow 26 [0, 1, 12, 13] [x0, x1, x12, x13]) S (K_slices_Equal_int_0 E w0 x Q) :=
  codeD_loop (k := 26) (n := n) (I := fun n T S => I n (T.getD 0 undefD) (T.getD 1 undefD) (T.getD 12 undefD) (T.getD 13 undefD) S) (fun n T S hl hI => codeD_row [0, 1, 12, 13] hl (CodeD.mono (B_slices_Equal_int_0_ok (step n _ _ _ _ S hI)) fun ex T' S' _ hq => by cases ex <;> exact hq)) (mkRow_length ..) (Eq.mp (by kernel_rfl) h)
def V_slices_Equal_int (E : Env) (w0 : World) (x : Bool) (Q : D → DSt → Prop) (a0 a1 : D) (S : DSt) : Prop :=
  optW (lenSl a0) fun v0 =>
  optW (lenSl a1) fun v1 =>
  optW (binI .neq v0 v1) fun v2 =>
  condD v2
  (Q (.bool false) S)
  (optW (lenSl a0) fun v3 =>
  CodeD Try.prog E w0 x (.loop L_slices_Equal_int_0) (mkRow 26 [0, 1, 12, 13] [a0, a1, v3, (.int .i64 0)]) S (K_slices_Equal_int_0 E w0 x Q))
theorem V_slices_Equal_int_ok {E : Env} {w0 : World} {x : Bool} {Q : D → DSt → Prop} {a0 a1 : D} {S : DSt} (h : V_slices_Equal_int E w0 x (FinD E Q) a0 a1 S) : DFn Try.prog E w0 x f_slices_Equal_int [a0, a1] S Q :=
  fnD_of_vc lo_slices_Equal_int cu_slices_Equal_int (fn := Try.f32) (c := Try.f32.body.getD .skip) mixed Try.func32 (by kernel_rfl) (by kernel_rfl) h

/- slices.Equal[[]string,string] -/
def lo_slices_Equal_string : List (Nat × List Nat) := [(8, [0, 1, 12, 13])]
def cu_slices_Equal_string : List (Nat × List Nat) := []
noncomputable def L_slices_Equal_string_0 : Code := (codeAt [1, 1, 0, 1, 0, 0] (Try.f35.body.getD .skip))
def K_slices_Equal_string_0 (E : Env) (w0 : World) (x : Bool) (Q : D → DSt → Prop) : AExit → List D → DSt → Prop :=
  (blockD 0 (seqD Try.prog E w0 x lo_slices_Equal_string cu_slices_Equal_string (codeAt [1, 1, 1] (Try.f35.body.getD .skip)) (retD Try.prog Try.f35 Q)))
def B_slices_Equal_string_0 (E : Env) (w0 : World) (x : Bool) (N0 : D → D → D → D → DSt → Prop) (Q : D → DSt → Prop) (x0 x1 x12 x13 : D) (S : DSt) : Prop :=
  optW (binI .lss x13 x12) fun v4 =>
  condD v4
  (optW (idxSl 1 x0 x13) fun v5 =>
  optW (loadSc S v5) fun v6 => (True) ∧
  optW (idxSl 1 x1 x13) fun v7 =>
  optW (loadSc S v7) fun v8 => (True) ∧
  optW (binS .neq v6 v8) fun v9 =>
  condD v9
  (Q (.bool false) S)
  (optW (binI .add x13 (.int .i64 1)) fun v10 =>
  N0 x0 x1 x12 v10 S))
  (Q (.bool true) S)
theorem B_slices_Equal_string_0_ok {E : Env} {w0 : World} {x : Bool} {N0 : D → D → D → D → DSt → Prop} {Q : D → DSt → Prop} {x0 x1 x12 x13 : D} {S : DSt} (h : B_slices_Equal_string_0 E w0 x N0 Q x0 x1 x12 x13 S) :
    CodeD Try.prog E w0 x L_slices_Equal_string_0 (mkRow 26 [0, 1, 12, 13] [x0, x1, x12, x13]) S (loopKD (fun T S => N0 (T.getD 0 undefD) (T.getD 1 undefD) (T.getD 12 undefD) (T.getD 13 undefD) S) (K_slices_Equal_string_0 E w0 x Q)) := codeD_of_vc lo_slices_Equal_string cu_slices_Equal_string mixed (by kernel_rfl) h
theorem loop_slices_Equal_string_0 {E : Env} {w0 : World} {x : Bool} {Q : D → DSt → Prop} (I : Nat → D → D → D → D → DSt → Prop)
    (step : ∀ n x0 x1 x12 x13 S, I n x0 x1 x12 x13 S → B_slices_Equal_string_0 E w0 x (fun x0 x1 x12 x13 S => ∃ m, m < n ∧ I m x0 x1 x12 x13 S) Q x0 x1 x12 x13 S)
    {n : Nat} {x0 x1 x12 x13 : D} {S : DSt} (h : I n x0 x1 x12 x13 S) : CodeD Try.prog E w0 x (.loop L_slices_Equal_string_0) (mkRow 26 [0, 1, 12, 13] [x0, x1, x12, x13]) S (K_slices_Equal_string_0 E w0 x Q) :=
  codeD_loop (k := 26) (n := n) (I := fun n T S => I n (T.getD 0 undefD) (T.getD 1 undefD) (T.getD 12 undefD) (T.getD 13 undefD) S) (fun n T S hl hI => codeD_row [0, 1, 12, 13] hl (CodeD.mono (B_slices_Equal_string_0_ok (step n _ _ _ _ S hI)) fun ex T' S' _ hq => by cases ex <;> exact hq)) (mkRow_length ..) (Eq.mp (by kernel_rfl) h)
def V_slices_Equal_string (E : Env) (w0 : World) (x : Bool) (Q : D → DSt → Prop) (a0 a1 : D) (S : DSt) : Prop :=
  optW (lenSl a0) fun v0 =>
  optW (lenSl a1) fun v1 =>
  optW (binI .neq v0 v1) fun v2 =>
  condD v2
  (Q (.bool false) S)
  (optW (lenSl a0) fun v3 =>
  CodeD Try.prog E w0 x (.loop L_slices_Equal_string_0) (mkRow 26 [0, 1, 12, 13] [a0, a1, v3, (.int .i64 0)]) S (K_slices_Equal_string_0 E w0 x Q))
theorem V_slices_Equal_string_ok {E : Env} {w0 : World} {x : Bool} {Q : D → DSt → Prop} {a0 a1 : D} {S : DSt} (h : V_slices_Equal_string E w0 x (FinD E Q) a0 a1 S) : DFn Try.prog E w0 x f_slices_Equal_string [a0, a1] S Q :=
  fnD_of_vc lo_slices_Equal_string cu_slices_Equal_string (fn := Try.f35) (c := Try.f35.body.getD .skip) mixed Try.func35 (by kernel_rfl) (by kernel_rfl) h

/- bytes.Equal -/
def lo_bytes_Equal : List (Nat × List Nat) := []
def cu_bytes_Equal : List (Nat × List Nat) := []
def V_bytes_Equal (E : Env) (w0 : World) (x : Bool) (Q : D → DSt → Prop) (a0 a1 : D) (S : DSt) : Prop :=
  optW (convBS S a0) fun v0 =>
  optW (convBS S a1) fun v1 =>
  optW (binS .eql v0 v1) fun v2 =>
  Q v2 S
theorem V_bytes_Equal_ok {E : Env} {w0 : World} {x : Bool} {Q : D → DSt → Prop} {a0 a1 : D} {S : DSt} (h : V_bytes_Equal E w0 x (FinD E Q) a0 a1 S) : DFn Try.prog E w0 x f_bytes_Equal [a0, a1] S Q :=
  fnD_of_vc lo_bytes_Equal cu_bytes_Equal (fn := Try.f33) (c := Try.f33.body.getD .skip) mixed Try.func33 (by kernel_rfl) (by kernel_rfl) h

/- slices.EqualFunc[[]trammel/api.Type,[]trammel/api.Type,trammel/api.Type,trammel/api.Type] -/
def lo_slices_EqualFunc_api_Type : List (Nat × List Nat) := [(8, [1, 2, 15, 16, 17])]
def cu_slices_EqualFunc_api_Type : List (Nat × List Nat) := []
noncomputable def L_slices_EqualFunc_api_Type_0 : Code := (codeAt [1, 1, 0, 1, 0, 0] (Try.f34.body.getD .skip))
def K_slices_EqualFunc_api_Type_0 (E : Env) (w0 : World) (x : Bool) (Q : D → DSt → Prop) : AExit → List D → DSt → Prop :=
  (blockD 0 (seqD Try.prog E w0 x lo_slices_EqualFunc_api_Type cu_slices_EqualFunc_api_Type (codeAt [1, 1, 1] (Try.f34.body.getD .skip)) (retD Try.prog Try.f34 Q)))
def B_slices_EqualFunc_api_Type_0 (E : Env) (w0 : World) (x : Bool) (N0 : D → D → D → D → D → DSt → Prop) (Q : D → DSt → Prop) (x1 x2 x15 x16 x17 : D) (S : DSt) : Prop :=
  optW (binI .lss x17 x16) fun v4 =>
  condD v4
  (optW (idxSl 5 x15 x17) fun v5 =>
  optW (loadAg S 5 v5) fun v6 =>
  allocD S [(.int .u8 0), (.str []), .nilSlc, (.int .i64 0), (.int .i64 0)] fun v7 S8 =>
  storeD S8 5 v7 v6 fun v9 S10 =>
  optW (idxSl 5 x1 x17) fun v11 =>
  optW (loadAg S10 5 v11) fun v12 =>
  allocD S10 [(.int .u8 0), (.str []), .nilSlc, (.int .i64 0), (.int .i64 0)] fun v13 S14 =>
  storeD S14 5 v13 v12 fun v15 S16 =>
  optW (loadAg S16 5 v7) fun v17 =>
  optW (loadAg S16 5 v13) fun v18 =>
  callVD Try.prog (DFn Try.prog E w0 x) S16 x2 [v17, v18] fun v19 S20 =>
  optW (unD .not v19) fun v21 =>
  condD v21
  (Q (.bool false) S20)
  (optW (binI .add x17 (.int .i64 1)) fun v22 =>
  N0 x1 x2 x15 x16 v22 S20))
  (Q (.bool true) S)
theorem B_slices_EqualFunc_api_Type_0_ok {E : Env} {w0 : World} {x : Bool} {N0 : D → D → D → D → D → DSt → Prop} {Q : D → DSt → Prop} {x1 x2 x15 x16 x17 : D} {S : DSt} (h : B_slices_EqualFunc_api_Type_0 E w0 x N0 Q x1 x2 x15 x16 x17 S) :
    CodeD Try.prog E w0 x L_slices_EqualFunc_api_Type_0 (mkRow 32 [1, 2, 15, 16, 17] [x1, x2, x15, x16, x17]) S (loopKD (fun T S => N0 (T.getD 1 undefD) (T.getD 2 undefD) (T.getD 15 undefD) (T.getD 16 undefD) (T.getD 17 undefD) S) (K_slices_EqualFunc_api_Type_0 E w0 x Q)) := codeD_of_vc lo_slices_EqualFunc_api_Type cu_slices_EqualFunc_api_Type mixed (by kernel_rfl) h
theorem loop_slices_EqualFunc_api_Type_0 {E : Env} {w0 : World} {x : Bool} {Q : D → DSt → Prop} (I : Nat → D → D → D → D → D → DSt → Prop)
    (step : ∀ n x1 x2 x15 x16 x17 S, I n x1 x2 x15 x16 x17 S → B_slices_EqualFunc_api_Type_0 E w0 x (fun x1 x2 x15 x16 x17 S => ∃ m, m < n ∧ I m x1 x2 x15 x16 x17 S) Q x1 x2 x15 x16 x17 S)
    {n : Nat} {x1 x2 x15 x16 x17 : D} {S : DSt} (h : I n x1 x2 x15 x16 x17 S) : CodeD Try.prog E w0 x (.loop L_slices_EqualFunc_api_Type_0) (mkRow 32 [1, 2, 15, 16, 17] [x1, x2, x15, x16, x17]) S (K_slices_EqualFunc_api_Type_0 E w0 x Q) :=
  codeD_loop (k := 32) (n := n) (I := fun n T S => I n (T.getD 1 undefD) (T.getD 2 undefD) (T.getD 15 undefD) (T.getD 16 undefD) (T.getD 17 undefD) S) (fun n T S hl hI => codeD_row [1, 2, 15, 16, 17] hl (CodeD.mono (B_slices_EqualFunc_api_Type_0_ok (step n _ _ _ _ _ S hI)) fun ex T' S' _ hq => by cases ex <;> exact hq)) (mkRow_length ..) (Eq.mp (by kernel_rfl) h)
def V_slices_EqualFunc_api_Type (E : Env) (w0 : World) (x : Bool) (Q : D → DSt → Prop) (a0 a1 a2 : D) (S : DSt) : Prop :=
  optW (lenSl a0) fun v0 =>
  optW (lenSl a1) fun v1 =>
  optW (binI .neq v0 v1) fun v2 =>
  condD v2
  (Q (.bool false) S)
  (optW (lenSl a0) fun v3 =>
  CodeD Try.prog E w0 x (.loop L_slices_EqualFunc_api_Type_0) (mkRow 32 [1, 2, 15, 16, 17] [a1, a2, a0, v3, (.int .i64 0)]) S (K_slices_EqualFunc_api_Type_0 E w0 x Q))
theorem V_slices_EqualFunc_api_Type_ok {E : Env} {w0 : World} {x : Bool} {Q : D → DSt → Prop} {a0 a1 a2 : D} {S : DSt} (h : V_slices_EqualFunc_api_Type E w0 x (FinD E Q) a0 a1 a2 S) : DFn Try.prog E w0 x f_slices_EqualFunc_api_Type [a0, a1, a2] S Q :=
  fnD_of_vc lo_slices_EqualFunc_api_Type cu_slices_EqualFunc_api_Type (fn := Try.f34) (c := Try.f34.body.getD .skip) mixed Try.func34 (by kernel_rfl) (by kernel_rfl) h

/- slices.EqualFunc[[]trammel/api.Routine,[]trammel/api.Routine,trammel/api.Routine,trammel/api.Routine] -/
def lo_slices_EqualFunc_api_Routine : List (Nat × List Nat) := [(8, [1, 2, 15, 16, 17])]
def cu_slices_EqualFunc_api_Routine : List (Nat × List Nat) := []
noncomputable def L_slices_EqualFunc_api_Routine_0 : Code := (codeAt [1, 1, 0, 1, 0, 0] (Try.f36.body.getD .skip))
def K_slices_EqualFunc_api_Routine_0 (E : Env) (w0 : World) (x : Bool) (Q : D → DSt → Prop) : AExit → List D → DSt → Prop :=
  (blockD 0 (seqD Try.prog E w0 x lo_slices_EqualFunc_api_Routine cu_slices_EqualFunc_api_Routine (codeAt [1, 1, 1] (Try.f36.body.getD .skip)) (retD Try.prog Try.f36 Q)))
def B_slices_EqualFunc_api_Routine_0 (E : Env) (w0 : World) (x : Bool) (N0 : D → D → D → D → D → DSt → Prop) (Q : D → DSt → Prop) (x1 x2 x15 x16 x17 : D) (S : DSt) : Prop :=
  optW (binI .lss x17 x16) fun v4 =>
  condD v4
  (optW (idxSl 6 x15 x17) fun v5 =>
  optW (loadAg S 6 v5) fun v6 =>
  allocD S [(.str []), .nilSlc, .nilSlc, (.int .i64 0), (.int .i64 0), .nilSlc] fun v7 S8 =>
  storeD S8 6 v7 v6 fun v9 S10 =>
  optW (idxSl 6 x1 x17) fun v11 =>
  optW (loadAg S10 6 v11) fun v12 =>
  allocD S10 [(.str []), .nilSlc, .nilSlc, (.int .i64 0), (.int .i64 0), .nilSlc] fun v13 S14 =>
  storeD S14 6 v13 v12 fun v15 S16 =>
  optW (loadAg S16 6 v7) fun v17 =>
  optW (loadAg S16 6 v13) fun v18 =>
  callVD Try.prog (DFn Try.prog E w0 x) S16 x2 [v17, v18] fun v19 S20 =>
  optW (unD .not v19) fun v21 =>
  condD v21
  (Q (.bool false) S20)
  (optW (binI .add x17 (.int .i64 1)) fun v22 =>
  N0 x1 x2 x15 x16 v22 S20))
  (Q (.bool true) S)
theorem B_slices_EqualFunc_api_Routine_0_ok {E : Env} {w0 : World} {x : Bool} {N0 : D → D → D → D → D → DSt → Prop} {Q : D → DSt → Prop} {x1 x2 x15 x16 x17 : D} {S : DSt} (h : B_slices_EqualFunc_api_Routine_0 E w0 x N0 Q x1 x2 x15 x16 x17 S) :
    CodeD Try.prog E w0 x L_slices_EqualFunc_api_Routine_0 (mkRow 32 [1, 2, 15, 16, 17] [x1, x2, x15, x16, x17]) S (loopKD (fun T S => N0 (T.getD 1 undefD) (T.getD 2 undefD) (T.getD 15 undefD) (T.getD 16 undefD) (T.getD 17 undefD) S) (K_slices_EqualFunc_api_Routine_0 E w0 x Q)) := codeD_of_vc lo_slices_EqualFunc_api_Routine cu_slices_EqualFunc_api_Routine mixed (by kernel_rfl) h
theorem loop_slices_EqualFunc_api_Routine_0 {E : Env} {w0 : World} {x : Bool} {Q : D → DSt → Prop} (I : Nat → D → D → D → D → D → DSt → Prop)
    (step : ∀ n x1 x2 x15 x16 x17 S, I n x1 x2 x15 x16 x17 S → B_slices_EqualFunc_api_Routine_0 E w0 x (fun x1 x2 x15 x16 x17 S => ∃ m, m < n ∧ I m x1 x2 x15 x16 x17 S) Q x1 x2 x15 x16 x17 S)
    {n : Nat} {x1 x2 x15 x16 x17 : D} {S : DSt} (h : I n x1 x2 x15 x16 x17 S) : CodeD Try.prog E w0 x (.loop L_slices_EqualFunc_api_Routine_0) (mkRow 32 [1, 2, 15, 16, 17] [x1, x2, x15, x16, x17]) S (K_slices_EqualFunc_api_Routine_0 E w0 x Q) :=
  codeD_loop (k := 32) (n := n) (I := fun n T S => I n (T.getD 1 undefD) (T.getD 2 undefD) (T.getD 15 undefD) (T.getD 16 undefD) (T.getD 17 undefD) S) (fun n T S hl hI => codeD_row [1, 2, 15, 16, 17] hl (CodeD.mono (B_slices_EqualFunc_api_Routine_0_ok (step n _ _ _ _ _ S hI)) fun ex T' S' _ hq => by cases ex <;> exact hq)) (mkRow_length ..) (Eq.mp (by kernel_rfl) h)
def V_slices_EqualFunc_api_Routine (E : Env) (w0 : World) (x : Bool) (Q : D → DSt → Prop) (a0 a1 a2 : D) (S : DSt) : Prop :=
  optW (lenSl a0) fun v0 =>
  optW (lenSl a1) fun v1 =>
  optW (binI .neq v0 v1) fun v2 =>
  condD v2
  (Q (.bool false) S)
  (optW (lenSl a0) fun v3 =>
  CodeD Try.prog E w0 x (.loop L_slices_EqualFunc_api_Routine_0) (mkRow 32 [1, 2, 15, 16, 17] [a1, a2, a0, v3, (.int .i64 0)]) S (K_slices_EqualFunc_api_Routine_0 E w0 x Q))
theorem V_slices_EqualFunc_api_Routine_ok {E : Env} {w0 : World} {x : Bool} {Q : D → DSt → Prop} {a0 a1 a2 : D} {S : DSt} (h : V_slices_EqualFunc_api_Routine E w0 x (FinD E Q) a0 a1 a2 S) : DFn Try.prog E w0 x f_slices_EqualFunc_api_Routine [a0, a1, a2] S Q :=
  fnD_of_vc lo_slices_EqualFunc_api_Routine cu_slices_EqualFunc_api_Routine (fn := Try.f36) (c := Try.f36.body.getD .skip) mixed Try.func36 (by kernel_rfl) (by kernel_rfl) h
end Go.Proofs.Ytchnpgddpaonhaa.d
end

section
open Go.Proofs Go Go.Am Go.Op
namespace Go.Proofs.Ytchnpgddpaonhaa.d
set_option linter.unusedVariables false
set_option linter.unusedSimpArgs false
set_option maxRecDepth 100000
section
variable {E : Env} {w0 : World}
theorem bneT (a b : Tx) : (!(a == b)) = decide (a ≠ b) := by by_cases h : a = b <;> simp [h]
theorem bsNeT (a b : Tx) : binS .neq (.str a) (.str b) = some (.bool (decide (a ≠ b))) := by rw [bsNe, bneT]
theorem bsEqT (a b : Tx) : binS .eql (.str a) (.str b) = some (.bool (decide (a = b))) := by rw [bsEq, beqT]
theorem biNeD (k : IntKind) (a b : Int) : binI .neq (.int k a) (.int k b) = some (.bool (decide (a ≠ b))) := by rw [biNe, bneD]
theorem biEqD (k : IntKind) (a b : Int) : binI .eql (.int k a) (.int k b) = some (.bool (decide (a = b))) := by rw [biEq, beqD]
theorem neFldD (p q : Tx × Int) : eqOp .neq (eqAg Try.prog t_api_Field (.agg (fldR p)) (.agg (fldR q))) = some (.bool (decide (p ≠ q))) := by rw [eqFldD, eqN, ← decide_not]
theorem Equal_int_ok {a b : List Int} (hl : a.length < 2 ^ 60) (hb : b.length < 2 ^ 60) : Pure Try.prog E w0 f_slices_Equal_int [iD a, iD b] (.bool (decide (a = b))) := fun x S => by
  refine V_slices_Equal_int_ok ?_
  unfold V_slices_Equal_int
  simp only [iD_len, oD, biNeD]
  rw [cdI]
  refine ⟨fun h => ?_, fun h => ?_⟩
  · rw [decide_eq_false (fun e => h (by rw [e]))]
    exact FinD.pure
  have h : a.length = b.length := by omega
  refine loop_slices_Equal_int_0 (I := fun n x0 x1 x12 x13 T => S = T ∧ x0 = iD a ∧ x1 = iD b ∧ x12 = .int .i64 (a.length : Int) ∧ ∃ i : Nat, x13 = .int .i64 (i : Int) ∧ i + n = a.length ∧ a.take i = b.take i) ?_ (n := a.length) ⟨rfl, rfl, rfl, rfl, 0, rfl, by omega, rfl⟩
  rintro n _ _ _ _ _ ⟨rfl, rfl, rfl, rfl, i, rfl, hi, ht⟩
  unfold B_slices_Equal_int_0
  rw [biLt, oD, cdI]
  refine ⟨fun hlt => ?_, fun hge => ?_⟩
  · have hlt : i < a.length := by omega
    have ea : a[i]? = some a[i] := List.getElem?_eq_getElem hlt
    have eb : b[i]? = some b[i] := List.getElem?_eq_getElem (by omega)
    simp only [iD_at ea, iD_at eb, oD, lsE, List.getElem?_cons_zero, biNeD]
    refine ⟨by trivial, by trivial, ?_⟩
    rw [cdI]
    refine ⟨fun hne => ?_, fun he => ?_⟩
    · rw [decide_eq_false (fun e => hne (by simp only [e]))]
      exact FinD.pure
    · rw [biAdd, oD, wrap_i64 (by omega) (by omega)]
      refine ⟨n - 1, by omega, by trivial, by trivial, by trivial, by trivial, i + 1, rfl, by omega, ?_⟩
      rw [List.take_add_one, List.take_add_one, ht, ea, eb, Classical.not_not.1 he]
  · rw [List.take_of_length_le (by omega), List.take_of_length_le (by omega)] at ht
    rw [decide_eq_true ht]
    exact FinD.pure
theorem Equal_str_ok {a b : List Tx} (hl : a.length < 2 ^ 60) (hb : b.length < 2 ^ 60) : Pure Try.prog E w0 f_slices_Equal_string [txsD a, txsD b] (.bool (decide (a = b))) := fun x S => by
  refine V_slices_Equal_string_ok ?_
  unfold V_slices_Equal_string
  simp only [txsD_len, oD, biNeD]
  rw [cdI]
  refine ⟨fun h => ?_, fun h => ?_⟩
  · rw [decide_eq_false (fun e => h (by rw [e]))]
    exact FinD.pure
  have h : a.length = b.length := by omega
  refine loop_slices_Equal_string_0 (I := fun n x0 x1 x12 x13 T => S = T ∧ x0 = txsD a ∧ x1 = txsD b ∧ x12 = .int .i64 (a.length : Int) ∧ ∃ i : Nat, x13 = .int .i64 (i : Int) ∧ i + n = a.length ∧ a.take i = b.take i) ?_ (n := a.length) ⟨rfl, rfl, rfl, rfl, 0, rfl, by omega, rfl⟩
  rintro n _ _ _ _ _ ⟨rfl, rfl, rfl, rfl, i, rfl, hi, ht⟩
  unfold B_slices_Equal_string_0
  rw [biLt, oD, cdI]
  refine ⟨fun hlt => ?_, fun hge => ?_⟩
  · have hlt : i < a.length := by omega
    have ea : a[i]? = some a[i] := List.getElem?_eq_getElem hlt
    have eb : b[i]? = some b[i] := List.getElem?_eq_getElem (by omega)
    simp only [txsD_at ea, txsD_at eb, oD, lsE, List.getElem?_cons_zero, bsNeT]
    refine ⟨by trivial, by trivial, ?_⟩
    rw [cdI]
    refine ⟨fun hne => ?_, fun he => ?_⟩
    · rw [decide_eq_false (fun e => hne (by simp only [e]))]
      exact FinD.pure
    · rw [biAdd, oD, wrap_i64 (by omega) (by omega)]
      refine ⟨n - 1, by omega, by trivial, by trivial, by trivial, by trivial, i + 1, rfl, by omega, ?_⟩
      rw [List.take_add_one, List.take_add_one, ht, ea, eb, Classical.not_not.1 he]
  · rw [List.take_of_length_le (by omega), List.take_of_length_le (by omega)] at ht
    rw [decide_eq_true ht]
    exact FinD.pure
theorem Equal_fld_ok {a b : List (Tx × Int)} (hl : a.length < 2 ^ 60) (hb : b.length < 2 ^ 60) : Pure Try.prog E w0 f_slices_Equal_api_Field [fldsD a, fldsD b] (.bool (decide (a = b))) := fun x S => by
  refine V_slices_Equal_api_Field_ok ?_
  unfold V_slices_Equal_api_Field
  simp only [fldsD_len, oD, biNeD]
  rw [cdI]
  refine ⟨fun h => ?_, fun h => ?_⟩
  · rw [decide_eq_false (fun e => h (by rw [e]))]
    exact FinD.pure
  have h : a.length = b.length := by omega
  refine loop_slices_Equal_api_Field_0 (I := fun n x0 x1 x12 x13 T => S = T ∧ x0 = fldsD a ∧ x1 = fldsD b ∧ x12 = .int .i64 (a.length : Int) ∧ ∃ i : Nat, x13 = .int .i64 (i : Int) ∧ i + n = a.length ∧ a.take i = b.take i) ?_ (n := a.length) ⟨rfl, rfl, rfl, rfl, 0, rfl, by omega, rfl⟩
  rintro n _ _ _ _ _ ⟨rfl, rfl, rfl, rfl, i, rfl, hi, ht⟩
  unfold B_slices_Equal_api_Field_0
  rw [biLt, oD, cdI]
  refine ⟨fun hlt => ?_, fun hge => ?_⟩
  · have hlt : i < a.length := by omega
    have ea : a[i]? = some a[i] := List.getElem?_eq_getElem hlt
    have eb : b[i]? = some b[i] := List.getElem?_eq_getElem (by omega)
    simp only [fldsD_at ea, fldsD_at eb, oD, laFld, neFldD]
    refine ⟨by trivial, by trivial, ?_⟩
    rw [cdI]
    refine ⟨fun hne => ?_, fun he => ?_⟩
    · rw [decide_eq_false (fun e => hne (by simp only [e]))]
      exact FinD.pure
    · rw [biAdd, oD, wrap_i64 (by omega) (by omega)]
      refine ⟨n - 1, by omega, by trivial, by trivial, by trivial, by trivial, i + 1, rfl, by omega, ?_⟩
      rw [List.take_add_one, List.take_add_one, ht, ea, eb, Classical.not_not.1 he]
  · rw [List.take_of_length_le (by omega), List.take_of_length_le (by omega)] at ht
    rw [decide_eq_true ht]
    exact FinD.pure
theorem bytes_Equal_ok {a b : List Int} (ha : ∀ x ∈ a, Byte x) (hb : ∀ x ∈ b, Byte x) : Pure Try.prog E w0 f_bytes_Equal [bD a, bD b] (.bool (decide (a = b))) := fun x S => by
  refine V_bytes_Equal_ok ?_
  unfold V_bytes_Equal
  rw [convB, oD, convB, oD, bsEqT, oD, show decide (strB a = strB b) = decide (a = b) from decide_eq_decide.2 ⟨strB_inj ha hb, fun h => by rw [h]⟩]
  exact FinD.pure
theorem Same_ty_ok {y z : Ty} (hy : y.Ok) (hz : z.Ok) : Pure Try.prog E w0 f_image_Same_1 [.agg (tyR y), .agg (tyR z)] (.bool (decide (y = z))) := fun x S => by
  refine V_image_Same_1_ok ?_
  unfold V_image_Same_1
  rw [clA, oD]
  intro k a n
  rw [clA, oD]
  intro k2 a2 n2
  obtain ⟨ne2, n2'⟩ := DSt.fresh n2
  generalize hS3 : (S.set k _).set k2 _ = S3
  have h2 : Cel S3 k2 5 (tyR z) := by rw [← hS3]; exact Cel.new
  have h0 : Cel S3 k 5 (tyR y) := by rw [← hS3]; exact (Cel.new).set n2
  have hle : S.le S3 := by rw [← hS3]; exact DSt.le_set (DSt.le_new n) n2'
  have hx : ∀ y : Ty, (tyR y)[0]? = some (.int .u8 y.kind) ∧ (tyR y)[1]? = some (.str y.name) ∧ (tyR y)[2]? = some (fldsD y.fields) ∧ (tyR y)[3]? = some (.int .i64 y.elem) ∧ (tyR y)[4]? = some (.int .i64 y.len) := fun _ => ⟨rfl, rfl, rfl, rfl, rfl⟩
  have fin : ∀ b : Bool, decide (y = z) = b → FinD E (fun d' S' => d' = D.bool (decide (y = z)) ∧ S' = S) (.bool b) S3 := fun b h => by rw [h]; exact FinD.less hle FinD.pure
  have t1 : (false == true) = false := rfl
  have t2 : (true == true) = true := rfl
  simp only [ofP, oD, h2.ld, h0.ld, Nat.zero_add, (hx y).1, (hx z).1, biEqD, wdB]
  by_cases c1 : y.kind = z.kind
  case neg => simp only [decide_eq_false c1, wdB, t1, vdF, gdF, oD, pdB, Bool.false_eq_true, if_false]; exact fin false (decide_eq_false fun h => c1 (by rw [h]))
  simp only [decide_eq_true c1, wdB, t2, vdT, oD, pdB, if_true, h2.ld, h0.ld, (hx y).2.1, (hx z).2.1, bsEqT]
  by_cases c2 : y.name = z.name
  case neg => simp only [decide_eq_false c2, wdB, t1, vdF, gdF, oD, pdB, Bool.false_eq_true, if_false]; exact fin false (decide_eq_false fun h => c2 (by rw [h]))
  simp only [decide_eq_true c2, wdB, t2, vdT, oD, pdB, if_true, h2.ld, h0.ld, (hx y).2.2.2.1, (hx z).2.2.2.1, biEqD]
  by_cases c3 : y.elem = z.elem
  case neg => simp only [decide_eq_false c3, wdB, t1, vdF, gdF, oD, pdB, Bool.false_eq_true, if_false]; exact fin false (decide_eq_false fun h => c3 (by rw [h]))
  simp only [decide_eq_true c3, wdB, t2, vdT, oD, pdB, if_true, h2.ld, h0.ld, (hx y).2.2.2.2, (hx z).2.2.2.2, biEqD]
  by_cases c4 : y.len = z.len
  case neg => simp only [decide_eq_false c4, wdB, t1, vdF, gdF, oD, pdB, Bool.false_eq_true, if_false]; exact fin false (decide_eq_false fun h => c4 (by rw [h]))
  simp only [decide_eq_true c4, wdB, t2, vdT, gdT, oD, pdB, if_true, h2.ld, h0.ld, (hx y).2.2.1, (hx z).2.2.1]
  have := hy.fields
  have := hz.fields
  refine (Equal_fld_ok (by omega) (by omega)).use ?_
  refine fin _ (decide_eq_decide.2 ⟨fun h => by rw [h], fun h => ?_⟩)
  cases y; cases z; simp_all
theorem Same_ro_ok {y z : Ro} (hy : y.Ok) (hz : z.Ok) : Pure Try.prog E w0 f_image_Same_2 [.agg (roR y), .agg (roR z)] (.bool (decide (y = z))) := fun x S => by
  refine V_image_Same_2_ok ?_
  unfold V_image_Same_2
  rw [clA, oD]
  intro k a n
  rw [clA, oD]
  intro k2 a2 n2
  obtain ⟨ne2, n2'⟩ := DSt.fresh n2
  generalize hS3 : (S.set k _).set k2 _ = S3
  have h2 : Cel S3 k2 6 (roR z) := by rw [← hS3]; exact Cel.new
  have h0 : Cel S3 k 6 (roR y) := by rw [← hS3]; exact (Cel.new).set n2
  have hle : S.le S3 := by rw [← hS3]; exact DSt.le_set (DSt.le_new n) n2'
  have hx : ∀ y : Ro, (roR y)[0]? = some (.str y.name) ∧ (roR y)[1]? = some (iD y.params) ∧ (roR y)[2]? = some (iD y.results) ∧ (roR y)[3]? = some (.int .i64 y.locals) ∧ (roR y)[4]? = some (.int .i64 y.stack) ∧ (roR y)[5]? = some (bD y.code) := fun _ => ⟨rfl, rfl, rfl, rfl, rfl, rfl⟩
  have fin : ∀ b : Bool, decide (y = z) = b → FinD E (fun d' S' => d' = D.bool (decide (y = z)) ∧ S' = S) (.bool b) S3 := fun b h => by rw [h]; exact FinD.less hle FinD.pure
  have t1 : (false == true) = false := rfl
  have t2 : (true == true) = true := rfl
  have := hy.params
  have := hz.params
  have := hy.results
  have := hz.results
  simp only [ofP, oD, h2.ld, h0.ld, Nat.zero_add, (hx y).1, (hx z).1, bsEqT, wdB]
  by_cases c1 : y.name = z.name
  case neg => simp only [decide_eq_false c1, wdB, t1, vdF, gdF, oD, pdB, Bool.false_eq_true, if_false]; exact fin false (decide_eq_false fun h => c1 (by rw [h]))
  simp only [decide_eq_true c1, wdB, t2, vdT, oD, pdB, if_true, h2.ld, h0.ld, (hx y).2.2.2.1, (hx z).2.2.2.1, biEqD]
  by_cases c2 : y.locals = z.locals
  case neg => simp only [decide_eq_false c2, wdB, t1, vdF, gdF, oD, pdB, Bool.false_eq_true, if_false]; exact fin false (decide_eq_false fun h => c2 (by rw [h]))
  simp only [decide_eq_true c2, wdB, t2, vdT, oD, pdB, if_true, h2.ld, h0.ld, (hx y).2.2.2.2.1, (hx z).2.2.2.2.1, biEqD]
  by_cases c3 : y.stack = z.stack
  case neg => simp only [decide_eq_false c3, wdB, t1, vdF, gdF, oD, pdB, Bool.false_eq_true, if_false]; exact fin false (decide_eq_false fun h => c3 (by rw [h]))
  simp only [decide_eq_true c3, wdB, t2, vdT, gdT, oD, pdB, if_true, h2.ld, h0.ld, (hx y).2.1, (hx z).2.1]
  refine (Equal_int_ok (by omega) (by omega)).use ?_
  by_cases c4 : y.params = z.params
  case neg => simp only [decide_eq_false c4, wdB, t1, vdF, gdF, oD, pdB, Bool.false_eq_true, if_false]; exact fin false (decide_eq_false fun h => c4 (by rw [h]))
  simp only [decide_eq_true c4, wdB, t2, vdT, gdT, oD, pdB, if_true, h2.ld, h0.ld, (hx y).2.2.1, (hx z).2.2.1]
  refine (Equal_int_ok (by omega) (by omega)).use ?_
  by_cases c5 : y.results = z.results
  case neg => simp only [decide_eq_false c5, wdB, t1, vdF, gdF, oD, pdB, Bool.false_eq_true, if_false]; exact fin false (decide_eq_false fun h => c5 (by rw [h]))
  simp only [decide_eq_true c5, wdB, t2, vdT, gdT, oD, pdB, if_true, h2.ld, h0.ld, (hx y).2.2.2.2.2, (hx z).2.2.2.2.2]
  refine (bytes_Equal_ok hy.bytes hz.bytes).use ?_
  refine fin _ (decide_eq_decide.2 ⟨fun h => by rw [h], fun h => ?_⟩)
  cases y; cases z; simp_all
theorem callF {x : Bool} {f : FuncId} (hf : bodied Try.prog f = true) {ds : List D} {S : DSt} {K : D → DSt → Prop} (h : DFn Try.prog E w0 x f ds S K) : callVD Try.prog (DFn Try.prog E w0 x) S (.fn (.func f) [] []) ds K := by
  simp only [callVD, enterD, hf, List.nil_append, List.append_nil, if_true]; exact h
theorem EqF_ty_ok {a b : List Ty} (ha : ∀ y ∈ a, y.Ok) (hb : ∀ y ∈ b, y.Ok) (la : a.length < 2 ^ 60) (lb : b.length < 2 ^ 60) : Pure Try.prog E w0 f_slices_EqualFunc_api_Type [tysD a, tysD b, .fn (.func f_image_Same_1) [] []] (.bool (decide (a = b))) := fun x S => by
  refine V_slices_EqualFunc_api_Type_ok ?_
  unfold V_slices_EqualFunc_api_Type
  simp only [tysD_len, oD, biNeD]
  rw [cdI]
  refine ⟨fun h => ?_, fun h => ?_⟩
  · rw [decide_eq_false (fun e => h (by rw [e]))]
    exact FinD.pure
  have h : a.length = b.length := by omega
  refine loop_slices_EqualFunc_api_Type_0 (I := fun n x1 x2 x15 x16 x17 T => S.le T ∧ x1 = tysD b ∧ x2 = .fn (.func f_image_Same_1) [] [] ∧ x15 = tysD a ∧ x16 = .int .i64 (a.length : Int) ∧ ∃ i : Nat, x17 = .int .i64 (i : Int) ∧ i + n = a.length ∧ a.take i = b.take i) ?_ (n := a.length) ⟨DSt.le_refl _, rfl, rfl, rfl, rfl, 0, rfl, by omega, rfl⟩
  rintro n _ _ _ _ _ T ⟨hle, rfl, rfl, rfl, rfl, i, rfl, hi, ht⟩
  unfold B_slices_EqualFunc_api_Type_0
  rw [biLt, oD, cdI]
  refine ⟨fun hlt => ?_, fun hge => ?_⟩
  · have hlt : i < a.length := by omega
    have ea : a[i]? = some a[i] := List.getElem?_eq_getElem hlt
    have eb : b[i]? = some b[i] := List.getElem?_eq_getElem (by omega)
    rw [tysD_at ea, oD, laTy, oD]
    intro k7 a7 n7
    refine (Cel.new (sz := 5) (c := [(.int .u8 0), (.str []), .nilSlc, (.int .i64 0), (.int .i64 0)])).st (ds := tyR a[i]) (clA _) ⟨rfl, by decide, by decide⟩ fun a7 => ?_
    rw [DSt.set_set, show setManyD [(D.int .u8 0), (.str []), .nilSlc, (.int .i64 0), (.int .i64 0)] 0 (tyR a[i]) = tyR a[i] from rfl, tysD_at eb, oD, laTy, oD]
    have c7 : Cel (T.set k7 ⟨5, [tyR a[i]], a7⟩) k7 5 (tyR a[i]) := Cel.new
    have l7 : S.le (T.set k7 ⟨5, [tyR a[i]], a7⟩) := DSt.le_set hle (DSt.none_of hle n7)
    generalize T.set k7 ⟨5, [tyR a[i]], a7⟩ = T7 at *
    intro k8 a8 n8
    refine (Cel.new (sz := 5) (c := [(.int .u8 0), (.str []), .nilSlc, (.int .i64 0), (.int .i64 0)])).st (ds := tyR b[i]) (clA _) ⟨rfl, by decide, by decide⟩ fun a8 => ?_
    rw [DSt.set_set, show setManyD [(D.int .u8 0), (.str []), .nilSlc, (.int .i64 0), (.int .i64 0)] 0 (tyR b[i]) = tyR b[i] from rfl]
    rw [(c7.set n8).all (n := 5) (by decide) rfl, oD, (Cel.new).all (n := 5) (by decide) rfl, oD]
    refine callF (by kernel_rfl) ((Same_ty_ok (ha _ (List.getElem_mem _)) (hb _ (List.getElem_mem _))).use ?_)
    rw [unN, oD, cdB]
    have l8 : S.le (T7.set k8 ⟨5, [tyR b[i]], a8⟩) := DSt.le_set l7 (DSt.none_of l7 n8)
    refine ⟨fun hne => ?_, fun he => ?_⟩
    · have hne : ¬ a[i] = b[i] := by simpa using hne
      rw [decide_eq_false (fun e => hne (by simp only [e]))]
      exact FinD.less l8 FinD.pure
    · have he : a[i] = b[i] := by simpa using he
      rw [biAdd, oD, wrap_i64 (by omega) (by omega)]
      refine ⟨n - 1, by omega, l8, by trivial, by trivial, by trivial, by trivial, i + 1, rfl, by omega, ?_⟩
      rw [List.take_add_one, List.take_add_one, ht, ea, eb, he]
  · rw [List.take_of_length_le (by omega), List.take_of_length_le (by omega)] at ht
    rw [decide_eq_true ht]
    exact FinD.less hle FinD.pure
theorem EqF_ro_ok {a b : List Ro} (ha : ∀ y ∈ a, y.Ok) (hb : ∀ y ∈ b, y.Ok) (la : a.length < 2 ^ 60) (lb : b.length < 2 ^ 60) : Pure Try.prog E w0 f_slices_EqualFunc_api_Routine [rosD a, rosD b, .fn (.func f_image_Same_2) [] []] (.bool (decide (a = b))) := fun x S => by
  refine V_slices_EqualFunc_api_Routine_ok ?_
  unfold V_slices_EqualFunc_api_Routine
  simp only [rosD_len, oD, biNeD]
  rw [cdI]
  refine ⟨fun h => ?_, fun h => ?_⟩
  · rw [decide_eq_false (fun e => h (by rw [e]))]
    exact FinD.pure
  have h : a.length = b.length := by omega
  refine loop_slices_EqualFunc_api_Routine_0 (I := fun n x1 x2 x15 x16 x17 T => S.le T ∧ x1 = rosD b ∧ x2 = .fn (.func f_image_Same_2) [] [] ∧ x15 = rosD a ∧ x16 = .int .i64 (a.length : Int) ∧ ∃ i : Nat, x17 = .int .i64 (i : Int) ∧ i + n = a.length ∧ a.take i = b.take i) ?_ (n := a.length) ⟨DSt.le_refl _, rfl, rfl, rfl, rfl, 0, rfl, by omega, rfl⟩
  rintro n _ _ _ _ _ T ⟨hle, rfl, rfl, rfl, rfl, i, rfl, hi, ht⟩
  unfold B_slices_EqualFunc_api_Routine_0
  rw [biLt, oD, cdI]
  refine ⟨fun hlt => ?_, fun hge => ?_⟩
  · have hlt : i < a.length := by omega
    have ea : a[i]? = some a[i] := List.getElem?_eq_getElem hlt
    have eb : b[i]? = some b[i] := List.getElem?_eq_getElem (by omega)
    rw [rosD_at ea, oD, laRo, oD]
    intro k7 a7 n7
    refine (Cel.new (sz := 6) (c := [(.str []), .nilSlc, .nilSlc, (.int .i64 0), (.int .i64 0), .nilSlc])).st (ds := roR a[i]) (clA _) ⟨rfl, by decide, by decide⟩ fun a7 => ?_
    rw [DSt.set_set, show setManyD [(D.str []), .nilSlc, .nilSlc, (.int .i64 0), (.int .i64 0), .nilSlc] 0 (roR a[i]) = roR a[i] from rfl, rosD_at eb, oD, laRo, oD]
    have c7 : Cel (T.set k7 ⟨6, [roR a[i]], a7⟩) k7 6 (roR a[i]) := Cel.new
    have l7 : S.le (T.set k7 ⟨6, [roR a[i]], a7⟩) := DSt.le_set hle (DSt.none_of hle n7)
    generalize T.set k7 ⟨6, [roR a[i]], a7⟩ = T7 at *
    intro k8 a8 n8
    refine (Cel.new (sz := 6) (c := [(.str []), .nilSlc, .nilSlc, (.int .i64 0), (.int .i64 0), .nilSlc])).st (ds := roR b[i]) (clA _) ⟨rfl, by decide, by decide⟩ fun a8 => ?_
    rw [DSt.set_set, show setManyD [(D.str []), .nilSlc, .nilSlc, (.int .i64 0), (.int .i64 0), .nilSlc] 0 (roR b[i]) = roR b[i] from rfl]
    rw [(c7.set n8).all (n := 6) (by decide) rfl, oD, (Cel.new).all (n := 6) (by decide) rfl, oD]
    refine callF (by kernel_rfl) ((Same_ro_ok (ha _ (List.getElem_mem _)) (hb _ (List.getElem_mem _))).use ?_)
    rw [unN, oD, cdB]
    have l8 : S.le (T7.set k8 ⟨6, [roR b[i]], a8⟩) := DSt.le_set l7 (DSt.none_of l7 n8)
    refine ⟨fun hne => ?_, fun he => ?_⟩
    · have hne : ¬ a[i] = b[i] := by simpa using hne
      rw [decide_eq_false (fun e => hne (by simp only [e]))]
      exact FinD.less l8 FinD.pure
    · have he : a[i] = b[i] := by simpa using he
      rw [biAdd, oD, wrap_i64 (by omega) (by omega)]
      refine ⟨n - 1, by omega, l8, by trivial, by trivial, by trivial, by trivial, i + 1, rfl, by omega, ?_⟩
      rw [List.take_add_one, List.take_add_one, ht, ea, eb, he]
  · rw [List.take_of_length_le (by omega), List.take_of_length_le (by omega)] at ht
    rw [decide_eq_true ht]
    exact FinD.less hle FinD.pure
theorem image_Same_ok {a b : Mo} (ha : a.Ok) (hb : b.Ok) : Pure Try.prog E w0 f_image_Same [moD a, moD b] (.bool (decide (a = b))) := fun x S => by
  refine V_image_Same_ok ?_
  unfold V_image_Same
  rw [moD, clA, oD]
  intro k c n
  rw [moD, clA, oD]
  intro k2 c2 n2
  obtain ⟨ne2, n2'⟩ := DSt.fresh n2
  generalize hS3 : (S.set k _).set k2 _ = S3
  have h2 : Cel S3 k2 3 (moC b) := by rw [← hS3]; exact Cel.new
  have h0 : Cel S3 k 3 (moC a) := by rw [← hS3]; exact (Cel.new).set n2
  have hle : S.le S3 := by rw [← hS3]; exact DSt.le_set (DSt.le_new n) n2'
  have hx : ∀ y : Mo, (moC y)[0]? = some (tysD y.types) ∧ (moC y)[1]? = some (txsD y.texts) ∧ (moC y)[2]? = some (rosD y.funcs) := fun _ => ⟨rfl, rfl, rfl⟩
  have fin : ∀ e : Bool, decide (a = b) = e → FinD E (fun d' S' => d' = D.bool (decide (a = b)) ∧ S' = S) (.bool e) S3 := fun e h => by rw [h]; exact FinD.less hle FinD.pure
  have t1 : (false == true) = false := rfl
  have t2 : (true == true) = true := rfl
  have := ha.types
  have := hb.types
  have := ha.texts
  have := hb.texts
  have := ha.funcs
  have := hb.funcs
  simp only [ofP, oD, h2.ld, h0.ld, Nat.zero_add, (hx a).1, (hx b).1]
  refine (EqF_ty_ok ha.ty hb.ty (by omega) (by omega)).use ?_
  by_cases c1 : a.types = b.types
  case neg => simp only [decide_eq_false c1, wdB, t1, vdF, gdF, oD, pdB, Bool.false_eq_true, if_false]; exact fin false (decide_eq_false fun h => c1 (by rw [h]))
  simp only [decide_eq_true c1, wdB, t2, vdT, gdT, oD, pdB, if_true, h2.ld, h0.ld, (hx a).2.1, (hx b).2.1]
  refine (Equal_str_ok (by omega) (by omega)).use ?_
  by_cases c2 : a.texts = b.texts
  case neg => simp only [decide_eq_false c2, wdB, t1, vdF, gdF, oD, pdB, Bool.false_eq_true, if_false]; exact fin false (decide_eq_false fun h => c2 (by rw [h]))
  simp only [decide_eq_true c2, wdB, t2, vdT, gdT, oD, pdB, if_true, h2.ld, h0.ld, (hx a).2.2, (hx b).2.2]
  refine (EqF_ro_ok ha.ro hb.ro (by omega) (by omega)).use ?_
  refine fin _ (decide_eq_decide.2 ⟨fun h => by rw [h], fun h => ?_⟩)
  cases a; cases b; simp_all
end
end Go.Proofs.Ytchnpgddpaonhaa.d
end

section
open Go.Proofs Go Go.Am
namespace Go.Proofs.Ytchnpgddpaonhaa.d
set_option linter.unusedVariables false
set_option maxRecDepth 100000
/- trammel/trammellaw13.ImageSame -/
def lo_law13_ImageSame : List (Nat × List Nat) := []
def cu_law13_ImageSame : List (Nat × List Nat) := []
def V_law13_ImageSame (E : Env) (w0 : World) (x : Bool) (Q : D → DSt → Prop) (a0 a1 : D) (S : DSt) : Prop :=
  optW (cellsD a0) fun cs => allocD S cs fun v0 S1 =>
  optW (cellsD a1) fun cs => allocD S1 cs fun v2 S3 =>
  optW (loadAg S3 3 v0) fun v4 =>
  DFn Try.prog E w0 x f_kit_Bulk [v4, (.int .i64 100000)] S3 fun v5 S6 =>
  optW (binI .gtr v5 (.int .i64 100000)) fun v7 =>
  optW (valGD (wantsD v7 false) (loadAg S6 3 v2)) fun v8 =>
  guardD (wantsD v7 false) (fun K => DFn Try.prog E w0 x f_kit_Bulk [v8, (.int .i64 100000)] S6 K) S6 fun v9 S10 =>
  optW (valGD (wantsD v7 false) (binI .gtr v9 (.int .i64 100000))) fun v11 =>
  optW (pickD v7 (.bool true) v11) fun v12 =>
  condD v12
  (DFn Try.prog E w0 x f_law13_works [] S10 fun v13 S14 =>
  Q v13 S14)
  (optW (loadAg S10 3 v0) fun v15 => (True) ∧
  optW (loadAg S10 3 v2) fun v16 => (True) ∧
  DF E (FnX Try.prog E w0) f_image_Same [v15, v16] S10 fun v17 S18 => (True) ∧
  optW (loadAg S18 3 v0) fun v19 => ((loadAg S10 3 v0 ≠ none ∧ footW v0 S10 S18) ∧ True) ∧
  optW (loadAg S18 3 v2) fun v20 => ((loadAg S10 3 v2 ≠ none ∧ footW v2 S10 S18) ∧ True) ∧
  DF E (FnX Try.prog E w0) f_kit_SameModule [v19, v20] S18 fun v21 S22 => (True) ∧
  optW (eqOp .eql (eqBo v17 v21)) fun v23 =>
  optW (valGD (wantsD v23 true) (loadAg S22 3 v0)) fun v24 => (True) ∧
  guardD (wantsD v23 true) (fun K => DF E (FnX Try.prog E w0) f_kit_LentModule [v24] S22 K) S22 fun v25 S26 => (True) ∧
  optW (valGD (wantsD v23 true) (loadAg S26 3 v0)) fun v27 => ((valGD (wantsD v23 true) (loadAg S22 3 v0) ≠ none ∧ footW v0 S22 S26) ∧ True) ∧
  guardD (wantsD v23 true) (fun K => DF E (FnX Try.prog E w0) f_image_Same [v25, v27] S26 K) S26 fun v28 S29 => (True) ∧
  optW (pickD v23 v28 (.bool false)) fun v30 =>
  guardD (wantsD v30 true) (fun K => DF E (FnX Try.prog E w0) f_law13_works [] S29 K) S29 fun v31 S32 => (True) ∧
  optW (pickD v30 v31 (.bool false)) fun v33 =>
  Q v33 S32)
theorem V_law13_ImageSame_ok {E : Env} {w0 : World} {x : Bool} {Q : D → DSt → Prop} {a0 a1 : D} {S : DSt} (h : V_law13_ImageSame E w0 x (FinD E Q) a0 a1 S) : DFn Try.prog E w0 x f_law13_ImageSame [a0, a1] S Q :=
  fnD_of_vc lo_law13_ImageSame cu_law13_ImageSame (fn := Try.f4) (c := Try.f4.body.getD .skip) mixed Try.func4 (by kernel_rfl) (by kernel_rfl) h

/- trammel/trammellaw13.ImageUnlike -/
end Go.Proofs.Ytchnpgddpaonhaa.d
end

section
open Go.Proofs Go Go.Am Go.Op
namespace Go.Proofs.Ytchnpgddpaonhaa.d
set_option linter.unusedVariables false
set_option linter.unusedSimpArgs false
set_option maxRecDepth 100000
section
variable {E : Env} {w0 : World}
/-- A closed function, by one run. -/
theorem run_ok {f : FuncId} {n : Nat} (h : (callFA Try.prog (fun _ => none) noOv n f [] AHeap.empty).map (·.1) = some (.bool true)) : Pure Try.prog E w0 f [] (.bool true) := fun x S => by
  have key : ∀ H, FnX Try.prog E w0 f [] H fun v H' => v = .bool true ∧ H' = H := fun H => by
    cases hr : callFA Try.prog (fun _ => none) noOv n f [] AHeap.empty with
    | none => rw [hr] at h; cases h
    | some r =>
      obtain ⟨v, H1⟩ := r
      rw [hr] at h
      simp only [Option.map_some, Option.some.injEq] at h
      subst h
      refine (fnX_pure mixed hr ?_ ?_).mono fun v' H' h => h
      · intro ρ vs h
        exact h
      · intro ρ ρ' u h
        exact h
  refine DFn.any ?_
  intro R H avs hF hC ha
  have : avs = [] := by simpa only [RpL] using ha
  subst this
  refine (key H).mono ?_
  rintro v H' ⟨rfl, rfl⟩
  exact ⟨hF, R, S, .bool true, Fz.le_refl R, hC, by simp only [Rp], rfl, rfl⟩
theorem works13_ok : Pure Try.prog E w0 f_law13_works [] (.bool true) := run_ok (n := 400) (by kernel_rfl)
theorem Mo.Small.fits {m : Mo} {N : Nat} (hm : m.Ok) (h : m.Small N) (hN : N < 2 ^ 30) : m.Fits :=
  ⟨hm, by have := h.types; omega, by have := h.texts; omega, by have := h.funcs; omega, fun t ht => by have := h.fields t ht; omega, fun r hr => by have := h.params r hr; omega⟩
theorem ImageSame_true {a b : Mo} (ha : a.Ok) (hb : b.Ok) {S : DSt} : DFn Try.prog E w0 false f_law13_ImageSame [moD a, moD b] S fun v _ => v = .bool true := by
  refine V_law13_ImageSame_ok ?_
  unfold V_law13_ImageSame
  rw [moD, clA, oD]
  intro k c n
  rw [moD, clA, oD]
  intro k2 c2 n2
  obtain ⟨ne2, n2'⟩ := DSt.fresh n2
  generalize hS3 : (S.set k _).set k2 _ = S3
  have h2 : Cel S3 k2 3 (moC b) := by rw [← hS3]; exact Cel.new
  have h0 : Cel S3 k 3 (moC a) := by rw [← hS3]; exact (Cel.new).set n2
  have l0 : loadAg S3 3 (.ptr k 0) = some (moD a) := h0.all (by decide) rfl
  have l2 : loadAg S3 3 (.ptr k2 0) = some (moD b) := h2.all (by decide) rfl
  rw [l0, oD]
  refine (kit_Bulk_ok ha (N := 100000) (by decide)).use ?_
  rintro v S' ⟨rfl, b1, rfl, s1⟩
  rw [biGt, oD]
  have wk : ∀ {S' : DSt}, DFn Try.prog E w0 false f_law13_works [] S' fun v13 S14 => FinD E (fun v _ => v = .bool true) v13 S14 := works13_ok.use (FinD.here rfl)
  by_cases c1 : b1 > 100000
  · simp only [decide_eq_true c1, wdB, vdF, gdF, oD, pdB, if_true, cdT, show ((true == false) = false) from rfl]
    exact wk
  simp only [decide_eq_false c1, wdB, vdT, gdT, oD, l2, show ((false == false) = true) from rfl]
  refine (kit_Bulk_ok hb (N := 100000) (by decide)).use ?_
  rintro v S' ⟨rfl, b2, rfl, s2⟩
  simp only [biGt, oD, pdB, Bool.false_eq_true, if_false]
  rw [cdI]
  refine ⟨fun _ => wk, fun c2' => ?_⟩
  have fa := Mo.Small.fits ha (s1 (by omega)) (by decide)
  have fb := Mo.Small.fits hb (s2 (by omega)) (by decide)
  rw [l0, oD]
  refine ⟨by trivial, ?_⟩
  rw [l2, oD]
  refine ⟨by trivial, (image_Same_ok ha hb).useX ⟨by trivial, ?_⟩⟩
  rw [l0, oD]
  refine ⟨⟨⟨by simp, rfl⟩, by trivial⟩, ?_⟩
  rw [l2, oD]
  refine ⟨⟨⟨by simp, rfl⟩, by trivial⟩, (kit_SameModule_ok ha hb).useX ⟨by trivial, ?_⟩⟩
  rw [eqBB, eqE, oD, show (decide (a = b) == decide (a = b)) = true by simp]
  simp only [wdB, vdT, gdT, oD, pdB, if_true, show ((true == true) = true) from rfl, l0]
  refine ⟨by trivial, (kit_LentModule_ok fa).useX ⟨by trivial, ?_⟩⟩
  simp only [wdB, vdT, gdT, oD, pdB, if_true, show ((true == true) = true) from rfl, l0]
  refine ⟨⟨⟨by simp, rfl⟩, by trivial⟩, DF.weak (es := [moD a, moD a]) ⟨moX_wk a, Wk.refl _, trivial⟩ ((image_Same_ok ha ha).useX ⟨by trivial, ?_⟩)⟩
  simp only [decide_true, wdB, vdT, gdT, oD, pdB, if_true, show ((true == true) = true) from rfl]
  refine works13_ok.useX ⟨by trivial, ?_⟩
  exact FinD.here rfl
end
end Go.Proofs.Ytchnpgddpaonhaa.d
end
