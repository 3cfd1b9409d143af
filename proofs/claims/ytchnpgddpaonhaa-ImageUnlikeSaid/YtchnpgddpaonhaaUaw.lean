/-
  Texts Vb Cc Cd Ce, as far as they are used.
-/
import Derived.Test.YtchnpgddpaonhaaRows
import Derived.Test.YtchnpgddpaonhaaUau
import Derived.KernelRfl
import Derived.Test.YtchnpgddpaonhaaUav
section
open Go.Proofs Go Go.Am
namespace Go.Proofs.Ytchnpgddpaonhaa.d
set_option linter.unusedVariables false
set_option maxRecDepth 100000
/- trammel/ops.layout -/
def lo_ops_layout : List (Nat × List Nat) := []
def cu_ops_layout : List (Nat × List Nat) := [(89, [0, 4, 5, 6, 13, 29]), (101, [0, 4, 5, 6, 13, 44]), (113, [0, 5, 6, 13, 50]), (137, [0, 5, 6, 13, 61])]
noncomputable def R_ops_layout_137 : Code := (codeAt [1, 1, 1, 0, 1, 0, 1, 1, 1, 1, 1, 1, 1, 1, 1, 1, 1, 1, 1, 1, 1] (Try.f64.body.getD .skip))
def KC_ops_layout_137 (E : Env) (w0 : World) (x : Bool) (Q : D → DSt → Prop) : AExit → List D → DSt → Prop :=
  (blockD 0 (seqD Try.prog E w0 x lo_ops_layout cu_ops_layout (codeAt [1, 1, 1, 1] (Try.f64.body.getD .skip)) (retD Try.prog Try.f64 Q)))
def P_ops_layout_137 (E : Env) (w0 : World) (x : Bool) (Q : D → DSt → Prop) (x0 x5 x6 x13 x61 : D) (S : DSt) : Prop :=
  condD x61
  (optW (loadAg S 2 x5) fun v56 =>
  litD S 2 (fillR 2 (List.replicate 1 [(.int .i64 0), .nilFn]) [(0, v56)]) 1 fun v57 S58 =>
  Q (.tup [v57, (.bool true)]) S58)
  (optW (binI .eql x13 (.int .u8 52)) fun v59 =>
  condD v59
  (DFn Try.prog E w0 x f_ops_between [(.int .i64 0), (.int .i64 255)] S fun v60 S61 =>
  optW (aggD (fillD [(.int .i64 0), .nilFn] [(0, 1, (.int .i64 1)), (1, 1, v60)])) fun v62 =>
  litD S61 2 (fillR 2 (List.replicate 1 [(.int .i64 0), .nilFn]) [(0, v62)]) 1 fun v63 S64 =>
  Q (.tup [v63, (.bool true)]) S64)
  (optW (binI .eql x13 (.int .u8 49)) fun v65 =>
  condD v65
  (optW (loadAg S 2 x6) fun v66 =>
  litD S 2 (fillR 2 (List.replicate 1 [(.int .i64 0), .nilFn]) [(0, v66)]) 1 fun v67 S68 =>
  Q (.tup [v67, (.bool true)]) S68)
  (optW (binI .geq x0 (.int .u8 11)) fun v69 =>
  optW (valGD (wantsD v69 true) (some x0)) fun v70 =>
  optW (valGD (wantsD v69 true) (binI .leq v70 (.int .u8 28))) fun v71 =>
  optW (pickD v69 v71 (.bool false)) fun v72 =>
  condD v72
  (optW (loadAg S 2 x6) fun v73 =>
  litD S 2 (fillR 2 (List.replicate 1 [(.int .i64 0), .nilFn]) [(0, v73)]) 1 fun v74 S75 =>
  Q (.tup [v74, (.bool true)]) S75)
  (optW (binI .geq x0 (.int .u8 1)) fun v76 =>
  optW (valGD (wantsD v76 true) (some x0)) fun v77 =>
  optW (valGD (wantsD v76 true) (binI .leq v77 (.int .u8 52))) fun v78 =>
  optW (pickD v76 v78 (.bool false)) fun v79 =>
  Q (.tup [.nilSlc, v79]) S))))
def C_ops_layout_137 (E : Env) (w0 : World) (x : Bool) (Q : D → DSt → Prop) (x0 x5 x6 x13 x61 : D) (S : DSt) : Prop := CodeD Try.prog E w0 x R_ops_layout_137 (mkRow 90 [0, 5, 6, 13, 61] [x0, x5, x6, x13, x61]) S (KC_ops_layout_137 E w0 x Q)
theorem C_ops_layout_137_ok {E : Env} {w0 : World} {x : Bool} {Q : D → DSt → Prop} {x0 x5 x6 x13 x61 : D} {S : DSt} (h : P_ops_layout_137 E w0 x Q x0 x5 x6 x13 x61 S) : C_ops_layout_137 E w0 x Q x0 x5 x6 x13 x61 S := codeD_of_vc lo_ops_layout cu_ops_layout mixed (by kernel_rfl) h
noncomputable def R_ops_layout_113 : Code := (codeAt [1, 1, 1, 0, 1, 0, 1, 1, 1, 1, 1, 1, 1, 1, 1, 1, 1] (Try.f64.body.getD .skip))
def KC_ops_layout_113 (E : Env) (w0 : World) (x : Bool) (Q : D → DSt → Prop) : AExit → List D → DSt → Prop :=
  (blockD 0 (seqD Try.prog E w0 x lo_ops_layout cu_ops_layout (codeAt [1, 1, 1, 1] (Try.f64.body.getD .skip)) (retD Try.prog Try.f64 Q)))
def P_ops_layout_113 (E : Env) (w0 : World) (x : Bool) (Q : D → DSt → Prop) (x0 x5 x6 x13 x50 : D) (S : DSt) : Prop :=
  condD x50
  (DFn Try.prog E w0 x f_ops_between [(.int .i64 1), (.int .i64 5)] S fun v46 S47 =>
  optW (aggD (fillD [(.int .i64 0), .nilFn] [(0, 1, (.int .i64 1)), (1, 1, v46)])) fun v48 =>
  litD S47 2 (fillR 2 (List.replicate 1 [(.int .i64 0), .nilFn]) [(0, v48)]) 1 fun v49 S50 =>
  Q (.tup [v49, (.bool true)]) S50)
  (optW (binI .eql x13 (.int .u8 29)) fun v51 =>
  condD v51
  (optW (loadAg S 2 x6) fun v52 =>
  optW (loadAg S 2 x6) fun v53 =>
  litD S 2 (fillR 2 (List.replicate 2 [(.int .i64 0), .nilFn]) [(0, v52), (1, v53)]) 2 fun v54 S55 =>
  Q (.tup [v54, (.bool true)]) S55)
  (optW (binI .eql x13 (.int .u8 46)) fun v80 =>
  condD v80
  (C_ops_layout_137 E w0 x Q x0 x5 x6 x13 v80 S)
  (optW (binI .eql x13 (.int .u8 47)) fun v81 =>
  condD v81
  (C_ops_layout_137 E w0 x Q x0 x5 x6 x13 v81 S)
  (optW (binI .eql x13 (.int .u8 48)) fun v82 =>
  C_ops_layout_137 E w0 x Q x0 x5 x6 x13 v82 S))))
def C_ops_layout_113 (E : Env) (w0 : World) (x : Bool) (Q : D → DSt → Prop) (x0 x5 x6 x13 x50 : D) (S : DSt) : Prop := CodeD Try.prog E w0 x R_ops_layout_113 (mkRow 90 [0, 5, 6, 13, 50] [x0, x5, x6, x13, x50]) S (KC_ops_layout_113 E w0 x Q)
theorem C_ops_layout_113_ok {E : Env} {w0 : World} {x : Bool} {Q : D → DSt → Prop} {x0 x5 x6 x13 x50 : D} {S : DSt} (h : P_ops_layout_113 E w0 x Q x0 x5 x6 x13 x50 S) : C_ops_layout_113 E w0 x Q x0 x5 x6 x13 x50 S := codeD_of_vc lo_ops_layout cu_ops_layout mixed (by kernel_rfl) h
noncomputable def R_ops_layout_101 : Code := (codeAt [1, 1, 1, 0, 1, 0, 1, 1, 1, 1, 1, 1, 1, 1, 1] (Try.f64.body.getD .skip))
def KC_ops_layout_101 (E : Env) (w0 : World) (x : Bool) (Q : D → DSt → Prop) : AExit → List D → DSt → Prop :=
  (blockD 0 (seqD Try.prog E w0 x lo_ops_layout cu_ops_layout (codeAt [1, 1, 1, 1] (Try.f64.body.getD .skip)) (retD Try.prog Try.f64 Q)))
def P_ops_layout_101 (E : Env) (w0 : World) (x : Bool) (Q : D → DSt → Prop) (x0 x4 x5 x6 x13 x44 : D) (S : DSt) : Prop :=
  condD x44
  (optW (loadAg S 2 x4) fun v42 =>
  optW (loadAg S 2 x4) fun v43 =>
  litD S 2 (fillR 2 (List.replicate 2 [(.int .i64 0), .nilFn]) [(0, v42), (1, v43)]) 2 fun v44 S45 =>
  Q (.tup [v44, (.bool true)]) S45)
  (optW (binI .eql x13 (.int .u8 23)) fun v83 =>
  condD v83
  (C_ops_layout_113 E w0 x Q x0 x5 x6 x13 v83 S)
  (optW (binI .eql x13 (.int .u8 24)) fun v84 =>
  C_ops_layout_113 E w0 x Q x0 x5 x6 x13 v84 S))
def C_ops_layout_101 (E : Env) (w0 : World) (x : Bool) (Q : D → DSt → Prop) (x0 x4 x5 x6 x13 x44 : D) (S : DSt) : Prop := CodeD Try.prog E w0 x R_ops_layout_101 (mkRow 90 [0, 4, 5, 6, 13, 44] [x0, x4, x5, x6, x13, x44]) S (KC_ops_layout_101 E w0 x Q)
theorem C_ops_layout_101_ok {E : Env} {w0 : World} {x : Bool} {Q : D → DSt → Prop} {x0 x4 x5 x6 x13 x44 : D} {S : DSt} (h : P_ops_layout_101 E w0 x Q x0 x4 x5 x6 x13 x44 S) : C_ops_layout_101 E w0 x Q x0 x4 x5 x6 x13 x44 S := codeD_of_vc lo_ops_layout cu_ops_layout mixed (by kernel_rfl) h
noncomputable def R_ops_layout_89 : Code := (codeAt [1, 1, 1, 0, 1, 0, 1, 1, 1, 1, 1, 1, 1] (Try.f64.body.getD .skip))
def KC_ops_layout_89 (E : Env) (w0 : World) (x : Bool) (Q : D → DSt → Prop) : AExit → List D → DSt → Prop :=
  (blockD 0 (seqD Try.prog E w0 x lo_ops_layout cu_ops_layout (codeAt [1, 1, 1, 1] (Try.f64.body.getD .skip)) (retD Try.prog Try.f64 Q)))
def P_ops_layout_89 (E : Env) (w0 : World) (x : Bool) (Q : D → DSt → Prop) (x0 x4 x5 x6 x13 x29 : D) (S : DSt) : Prop :=
  condD x29
  (optW (loadAg S 2 x4) fun v39 =>
  litD S 2 (fillR 2 (List.replicate 1 [(.int .i64 0), .nilFn]) [(0, v39)]) 1 fun v40 S41 =>
  Q (.tup [v40, (.bool true)]) S41)
  (optW (binI .eql x13 (.int .u8 37)) fun v85 =>
  condD v85
  (C_ops_layout_101 E w0 x Q x0 x4 x5 x6 x13 v85 S)
  (optW (binI .eql x13 (.int .u8 38)) fun v86 =>
  C_ops_layout_101 E w0 x Q x0 x4 x5 x6 x13 v86 S))
def C_ops_layout_89 (E : Env) (w0 : World) (x : Bool) (Q : D → DSt → Prop) (x0 x4 x5 x6 x13 x29 : D) (S : DSt) : Prop := CodeD Try.prog E w0 x R_ops_layout_89 (mkRow 90 [0, 4, 5, 6, 13, 29] [x0, x4, x5, x6, x13, x29]) S (KC_ops_layout_89 E w0 x Q)
theorem C_ops_layout_89_ok {E : Env} {w0 : World} {x : Bool} {Q : D → DSt → Prop} {x0 x4 x5 x6 x13 x29 : D} {S : DSt} (h : P_ops_layout_89 E w0 x Q x0 x4 x5 x6 x13 x29 S) : C_ops_layout_89 E w0 x Q x0 x4 x5 x6 x13 x29 S := codeD_of_vc lo_ops_layout cu_ops_layout mixed (by kernel_rfl) h
def V_ops_layout (E : Env) (w0 : World) (x : Bool) (Q : D → DSt → Prop) (a0 : D) (S : DSt) : Prop :=
  DFn Try.prog E w0 x f_ops_between [(.int .i64 0), (.int .i64 65535)] S fun v0 S1 =>
  optW (aggD (fillD [(.int .i64 0), .nilFn] [(0, 1, (.int .i64 2)), (1, 1, v0)])) fun v2 =>
  DFn Try.prog E w0 x f_ops_between [(.int .i64 0), (.int .i64 4294967295)] S1 fun v3 S4 =>
  optW (aggD (fillD [(.int .i64 0), .nilFn] [(0, 1, (.int .i64 4)), (1, 1, v3)])) fun v5 =>
  allocD S4 [(.int .i64 0), .nilFn] fun v6 S7 =>
  allocD S7 [(.int .i64 0), .nilFn] fun v8 S9 =>
  storeD S9 2 v6 v2 fun v10 S11 =>
  storeD S11 2 v8 v5 fun v12 S13 =>
  DFn Try.prog E w0 x f_ops_between [(.int .i64 1), (.int .i64 3)] S13 fun v14 S15 =>
  optW (aggD (fillD [(.int .i64 0), .nilFn] [(0, 1, (.int .i64 1)), (1, 1, v14)])) fun v16 =>
  allocD S15 [(.int .i64 0), .nilFn] fun v17 S18 =>
  storeD S18 2 v17 v16 fun v19 S20 =>
  optW (binI .eql a0 (.int .u8 1)) fun v21 =>
  condD v21
  (DFn Try.prog E w0 x f_ops_fits [(.int .u8 1)] S20 fun v22 S23 =>
  optW (aggD (fillD [(.int .i64 0), .nilFn] [(0, 1, (.int .i64 1)), (1, 1, v22)])) fun v24 =>
  litD S23 2 (fillR 2 (List.replicate 1 [(.int .i64 0), .nilFn]) [(0, v24)]) 1 fun v25 S26 =>
  Q (.tup [v25, (.bool true)]) S26)
  (optW (binI .eql a0 (.int .u8 2)) fun v27 =>
  condD v27
  (DFn Try.prog E w0 x f_ops_fits [(.int .u8 2)] S20 fun v28 S29 =>
  optW (aggD (fillD [(.int .i64 0), .nilFn] [(0, 1, (.int .i64 4)), (1, 1, v28)])) fun v30 =>
  litD S29 2 (fillR 2 (List.replicate 1 [(.int .i64 0), .nilFn]) [(0, v30)]) 1 fun v31 S32 =>
  Q (.tup [v31, (.bool true)]) S32)
  (optW (binI .eql a0 (.int .u8 3)) fun v33 =>
  condD v33
  (DFn Try.prog E w0 x f_ops_fits [(.int .u8 3)] S20 fun v34 S35 =>
  optW (aggD (fillD [(.int .i64 0), .nilFn] [(0, 1, (.int .i64 8)), (1, 1, v34)])) fun v36 =>
  litD S35 2 (fillR 2 (List.replicate 1 [(.int .i64 0), .nilFn]) [(0, v36)]) 1 fun v37 S38 =>
  Q (.tup [v37, (.bool true)]) S38)
  (optW (binI .eql a0 (.int .u8 6)) fun v87 =>
  condD v87
  (C_ops_layout_89 E w0 x Q a0 v6 v8 v17 a0 v87 S20)
  (optW (binI .eql a0 (.int .u8 7)) fun v88 =>
  condD v88
  (C_ops_layout_89 E w0 x Q a0 v6 v8 v17 a0 v88 S20)
  (optW (binI .eql a0 (.int .u8 8)) fun v89 =>
  condD v89
  (C_ops_layout_89 E w0 x Q a0 v6 v8 v17 a0 v89 S20)
  (optW (binI .eql a0 (.int .u8 50)) fun v90 =>
  condD v90
  (C_ops_layout_89 E w0 x Q a0 v6 v8 v17 a0 v90 S20)
  (optW (binI .eql a0 (.int .u8 36)) fun v91 =>
  condD v91
  (C_ops_layout_89 E w0 x Q a0 v6 v8 v17 a0 v91 S20)
  (optW (binI .eql a0 (.int .u8 39)) fun v92 =>
  condD v92
  (C_ops_layout_89 E w0 x Q a0 v6 v8 v17 a0 v92 S20)
  (optW (binI .eql a0 (.int .u8 40)) fun v93 =>
  condD v93
  (C_ops_layout_89 E w0 x Q a0 v6 v8 v17 a0 v93 S20)
  (optW (binI .eql a0 (.int .u8 41)) fun v94 =>
  condD v94
  (C_ops_layout_89 E w0 x Q a0 v6 v8 v17 a0 v94 S20)
  (optW (binI .eql a0 (.int .u8 42)) fun v95 =>
  condD v95
  (C_ops_layout_89 E w0 x Q a0 v6 v8 v17 a0 v95 S20)
  (optW (binI .eql a0 (.int .u8 43)) fun v96 =>
  condD v96
  (C_ops_layout_89 E w0 x Q a0 v6 v8 v17 a0 v96 S20)
  (optW (binI .eql a0 (.int .u8 44)) fun v97 =>
  condD v97
  (C_ops_layout_89 E w0 x Q a0 v6 v8 v17 a0 v97 S20)
  (optW (binI .eql a0 (.int .u8 45)) fun v98 =>
  C_ops_layout_89 E w0 x Q a0 v6 v8 v17 a0 v98 S20))))))))))))))
theorem V_ops_layout_ok {E : Env} {w0 : World} {x : Bool} {Q : D → DSt → Prop} {a0 : D} {S : DSt} (h : V_ops_layout E w0 x (FinD E Q) a0 S) : DFn Try.prog E w0 x f_ops_layout [a0] S Q :=
  fnD_of_vc lo_ops_layout cu_ops_layout (fn := Try.f64) (c := Try.f64.body.getD .skip) mixed Try.func64 (by kernel_rfl) (by kernel_rfl) h

/- trammel/ops.put -/
def lo_ops_put : List (Nat × List Nat) := []
def cu_ops_put : List (Nat × List Nat) := []
def V_ops_put (E : Env) (w0 : World) (x : Bool) (Q : D → DSt → Prop) (a0 a1 : D) (S : DSt) : Prop :=
  appendD S 1 1 a0 a1 fun v0 S1 =>
  Q v0 S1
theorem V_ops_put_ok {E : Env} {w0 : World} {x : Bool} {Q : D → DSt → Prop} {a0 a1 : D} {S : DSt} (h : V_ops_put E w0 x (FinD E Q) a0 a1 S) : DFn Try.prog E w0 x f_ops_put [a0, a1] S Q :=
  fnD_of_vc lo_ops_put cu_ops_put (fn := Try.f65) (c := Try.f65.body.getD .skip) mixed Try.func65 (by kernel_rfl) (by kernel_rfl) h

/- trammel/ops.number -/
def lo_ops_number : List (Nat × List Nat) := []
def cu_ops_number : List (Nat × List Nat) := []
def V_ops_number (E : Env) (w0 : World) (x : Bool) (Q : D → DSt → Prop) (a0 a1 a2 : D) (S : DSt) : Prop :=
  optW (cellsD a1) fun cs => allocD S cs fun v0 S1 =>
  optW (convI .u64 a2) fun v2 =>
  optW (offD 0 v0) fun v3 =>
  optW (loadSc S1 v3) fun v4 => (True) ∧
  DF E (FnX Try.prog E w0) f_wire_Fixed [v2, v4] S1 fun v5 S6 => (True) ∧
  DF E (FnX Try.prog E w0) f_ops_put [a0, v5] S6 fun v7 S8 => (True) ∧
  optW (offD 1 v0) fun v9 =>
  optW (loadSc S8 v9) fun v10 => ((loadSc S6 (orAny (offD 1 v0)) ≠ none ∧ footW (orAny (offD 1 v0)) S6 S8) ∧ (loadSc S1 (orAny (offD 1 v0)) ≠ none ∧ footW (orAny (offD 1 v0)) S1 S8) ∧ True) ∧
  callVD Try.prog (DF E (FnX Try.prog E w0)) S8 v10 [a2] fun v11 S12 => (True) ∧
  Q (.tup [v7, v11]) S12
theorem V_ops_number_ok {E : Env} {w0 : World} {x : Bool} {Q : D → DSt → Prop} {a0 a1 a2 : D} {S : DSt} (h : V_ops_number E w0 x (FinD E Q) a0 a1 a2 S) : DFn Try.prog E w0 x f_ops_number [a0, a1, a2] S Q :=
  fnD_of_vc lo_ops_number cu_ops_number (fn := Try.f66) (c := Try.f66.body.getD .skip) mixed Try.func66 (by kernel_rfl) (by kernel_rfl) h

/- trammel/ops.arms -/
def lo_ops_arms : List (Nat × List Nat) := [(16, [0, 3, 6, 7, 8, 33, 34, 35])]
def cu_ops_arms : List (Nat × List Nat) := []
noncomputable def L_ops_arms_0 : Code := (codeAt [1, 1, 1, 1, 1, 1, 0, 1, 0, 0] (Try.f67.body.getD .skip))
def K_ops_arms_0 (E : Env) (w0 : World) (x : Bool) (Q : D → DSt → Prop) : AExit → List D → DSt → Prop :=
  (blockD 0 (seqD Try.prog E w0 x lo_ops_arms cu_ops_arms (codeAt [1, 1, 1, 1, 1, 1, 1] (Try.f67.body.getD .skip)) (retD Try.prog Try.f67 Q)))
def B_ops_arms_0 (E : Env) (w0 : World) (x : Bool) (N0 : D → D → D → D → D → D → D → D → DSt → Prop) (Q : D → DSt → Prop) (x0 x3 x6 x7 x8 x33 x34 x35 : D) (S : DSt) : Prop :=
  optW (binI .lss x35 x34) fun v34 =>
  condD v34
  (optW (idxSl 2 x33 x35) fun v35 =>
  optW (loadAg S 2 v35) fun v36 =>
  allocD S [(.int .i64 0), (.int .i64 0)] fun v37 S38 =>
  storeD S38 2 v37 v36 fun v39 S40 =>
  optW (loadAg S40 2 x7) fun v41 =>
  optW (offD 0 v37) fun v42 =>
  optW (loadSc S40 v42) fun v43 =>
  DFn Try.prog E w0 x f_ops_number [x0, v41, v43] S40 fun v44 S45 =>
  optW (extractD v44 0) fun v46 =>
  optW (extractD v44 1) fun v47 =>
  optW (loadAg S45 2 x6) fun v48 =>
  optW (offD 1 v37) fun v49 =>
  optW (loadSc S45 v49) fun v50 =>
  DFn Try.prog E w0 x f_ops_number [v46, v48, v50] S45 fun v51 S52 =>
  optW (extractD v51 0) fun v53 =>
  optW (extractD v51 1) fun v54 =>
  optW (valGD (wantsD x8 true) (some v47)) fun v55 =>
  optW (pickD x8 v55 (.bool false)) fun v56 =>
  optW (valGD (wantsD v56 true) (some v54)) fun v57 =>
  optW (pickD v56 v57 (.bool false)) fun v58 =>
  optW (binI .add x35 (.int .i64 1)) fun v59 =>
  N0 v53 x3 x6 x7 v58 x33 x34 v59 S52)
  (optW (loadAg S 2 x6) fun v60 =>
  optW (offD 2 x3) fun v61 =>
  optW (loadSc S v61) fun v62 =>
  DFn Try.prog E w0 x f_ops_number [x0, v60, v62] S fun v63 S64 =>
  optW (extractD v63 0) fun v65 =>
  optW (extractD v63 1) fun v66 =>
  optW (valGD (wantsD x8 true) (some v66)) fun v67 =>
  optW (pickD x8 v67 (.bool false)) fun v68 =>
  Q (.tup [v65, v68]) S64)
theorem B_ops_arms_0_ok {E : Env} {w0 : World} {x : Bool} {N0 : D → D → D → D → D → D → D → D → DSt → Prop} {Q : D → DSt → Prop} {x0 x3 x6 x7 x8 x33 x34 x35 : D} {S : DSt} (h : B_ops_arms_0 E w0 x N0 Q x0 x3 x6 x7 x8 x33 x34 x35 S) :
    CodeD Try.prog E w0 x L_ops_arms_0 (mkRow 76 [0, 3, 6, 7, 8, 33, 34, 35] [x0, x3, x6, x7, x8, x33, x34, x35]) S (loopKD (fun T S => N0 (T.getD 0 undefD) (T.getD 3 undefD) (T.getD 6 undefD) (T.getD 7 undefD) (T.getD 8 undefD) (T.getD 33 undefD) (T.getD 34 undefD) (T.getD 35 undefD) S) (K_ops_arms_0 E w0 x Q)) := codeD_of_vc lo_ops_arms cu_ops_arms mixed (by kernel_rfl) h
theorem loop_ops_arms_0 {E : Env} {w0 : World} {x : Bool} {Q : D → DSt → Prop} (I : Nat → D → D → D → D → D → D → D → D → DSt → Prop)
    (step : ∀ n x0 x3 x6 x7 x8 x33 x34 x35 S, I n x0 x3 x6 x7 x8 x33 x34 x35 S → B_ops_arms_0 E w0 x (fun x0 x3 x6 x7 x8 x33 x34 x35 S => ∃ m, m < n ∧ I m x0 x3 x6 x7 x8 x33 x34 x35 S) Q x0 x3 x6 x7 x8 x33 x34 x35 S)
    {n : Nat} {x0 x3 x6 x7 x8 x33 x34 x35 : D} {S : DSt} (h : I n x0 x3 x6 x7 x8 x33 x34 x35 S) : CodeD Try.prog E w0 x (.loop L_ops_arms_0) (mkRow 76 [0, 3, 6, 7, 8, 33, 34, 35] [x0, x3, x6, x7, x8, x33, x34, x35]) S (K_ops_arms_0 E w0 x Q) :=
  codeD_loop (k := 76) (n := n) (I := fun n T S => I n (T.getD 0 undefD) (T.getD 3 undefD) (T.getD 6 undefD) (T.getD 7 undefD) (T.getD 8 undefD) (T.getD 33 undefD) (T.getD 34 undefD) (T.getD 35 undefD) S) (fun n T S hl hI => codeD_row [0, 3, 6, 7, 8, 33, 34, 35] hl (CodeD.mono (B_ops_arms_0_ok (step n _ _ _ _ _ _ _ _ S hI)) fun ex T' S' _ hq => by cases ex <;> exact hq)) (mkRow_length ..) (Eq.mp (by kernel_rfl) h)
def V_ops_arms (E : Env) (w0 : World) (x : Bool) (Q : D → DSt → Prop) (a0 a1 : D) (S : DSt) : Prop :=
  optW (cellsD a1) fun cs => allocD S cs fun v0 S1 =>
  DFn Try.prog E w0 x f_ops_between [(.int .i64 0), (.int .i64 4294967295)] S1 fun v2 S3 =>
  optW (aggD (fillD [(.int .i64 0), .nilFn] [(0, 1, (.int .i64 4)), (1, 1, v2)])) fun v4 =>
  allocD S3 [(.int .i64 0), .nilFn] fun v5 S6 =>
  storeD S6 2 v5 v4 fun v7 S8 =>
  optW (offD 1 v0) fun v9 =>
  optW (loadSc S8 v9) fun v10 =>
  optW (convI .u8 v10) fun v11 =>
  DFn Try.prog E w0 x f_ops_fits [v11] S8 fun v12 S13 =>
  optW (aggD (fillD [(.int .i64 0), .nilFn] [(0, 1, (.int .i64 8)), (1, 1, v12)])) fun v14 =>
  allocD S13 [(.int .i64 0), .nilFn] fun v15 S16 =>
  storeD S16 2 v15 v14 fun v17 S18 =>
  optW (offD 3 v0) fun v19 =>
  optW (loadSc S18 v19) fun v20 =>
  optW (lenSl v20) fun v21 =>
  optW (binI .gtr v21 (.int .i64 65535)) fun v22 =>
  condD v22
  (Q (.tup [.nilSlc, (.bool false)]) S18)
  (optW (offD 3 v0) fun v23 =>
  optW (loadSc S18 v23) fun v24 =>
  optW (lenSl v24) fun v25 =>
  optW (convI .u64 v25) fun v26 =>
  DFn Try.prog E w0 x f_wire_Fixed [v26, (.int .i64 2)] S18 fun v27 S28 =>
  DFn Try.prog E w0 x f_ops_put [a0, v27] S28 fun v29 S30 =>
  optW (offD 3 v0) fun v31 =>
  optW (loadSc S30 v31) fun v32 =>
  optW (lenSl v32) fun v33 =>
  CodeD Try.prog E w0 x (.loop L_ops_arms_0) (mkRow 76 [0, 3, 6, 7, 8, 33, 34, 35] [v29, v0, v5, v15, (.bool true), v32, v33, (.int .i64 0)]) S30 (K_ops_arms_0 E w0 x Q))
theorem V_ops_arms_ok {E : Env} {w0 : World} {x : Bool} {Q : D → DSt → Prop} {a0 a1 : D} {S : DSt} (h : V_ops_arms E w0 x (FinD E Q) a0 a1 S) : DFn Try.prog E w0 x f_ops_arms [a0, a1] S Q :=
  fnD_of_vc lo_ops_arms cu_ops_arms (fn := Try.f67) (c := Try.f67.body.getD .skip) mixed Try.func67 (by kernel_rfl) (by kernel_rfl) h

/- trammel/ops.Encode -/
def lo_ops_Encode : List (Nat × List Nat) := [(8, [1, 4, 5, 6, 21, 22, 23])]
def cu_ops_Encode : List (Nat × List Nat) := []
def J_ops_Encode_0 (E : Env) (w0 : World) (x : Bool) (N0 : D → D → D → D → D → D → D → DSt → Prop) (Q : D → DSt → Prop) (x1 x4 x5 x6 x8 x9 x21 x22 x23 : D) (S : DSt) : Prop :=
  optW (loadAg S 2 x8) fun v24 =>
  DFn Try.prog E w0 x f_ops_number [x6, v24, x9] S fun v25 S26 =>
  optW (extractD v25 0) fun v27 =>
  optW (extractD v25 1) fun v28 =>
  optW (valGD (wantsD x5 true) (some v28)) fun v29 =>
  optW (pickD x5 v29 (.bool false)) fun v30 =>
  optW (binI .add x23 (.int .i64 1)) fun v31 =>
  N0 x1 x4 v30 v27 x21 x22 v31 S26
def J_ops_Encode_1 (E : Env) (w0 : World) (x : Bool) (Q : D → DSt → Prop) (x5 x6 : D) (S : DSt) : Prop :=
  optW (unD .not x5) fun v35 =>
  condD v35
  (Q (.tup [.nilSlc, (.int .i64 120)]) S)
  (Q (.tup [x6, (.int .i64 0)]) S)
noncomputable def L_ops_Encode_0 : Code := (codeAt [1, 1, 1, 0, 1, 0, 0] (Try.f42.body.getD .skip))
def K_ops_Encode_0 (E : Env) (w0 : World) (x : Bool) (Q : D → DSt → Prop) : AExit → List D → DSt → Prop :=
  (blockD 0 (seqD Try.prog E w0 x lo_ops_Encode cu_ops_Encode (codeAt [1, 1, 1, 1] (Try.f42.body.getD .skip)) (retD Try.prog Try.f42 Q)))
def B_ops_Encode_0 (E : Env) (w0 : World) (x : Bool) (N0 : D → D → D → D → D → D → D → DSt → Prop) (Q : D → DSt → Prop) (x1 x4 x5 x6 x21 x22 x23 : D) (S : DSt) : Prop :=
  optW (binI .lss x23 x22) fun v15 =>
  condD v15
  (optW (idxSl 2 x21 x23) fun v16 =>
  optW (loadAg S 2 v16) fun v17 =>
  allocD S [(.int .i64 0), .nilFn] fun v18 S19 =>
  storeD S19 2 v18 v17 fun v20 S21 =>
  optW (offD 1 x1) fun v22 =>
  optW (loadSc S21 v22) fun v23 =>
  optW (binI .eql x23 (.int .i64 1)) fun v32 =>
  condD v32
  (optW (offD 2 x1) fun v33 =>
  optW (loadSc S21 v33) fun v34 =>
  J_ops_Encode_0 E w0 x N0 Q x1 x4 x5 x6 v18 v34 x21 x22 x23 S21)
  (J_ops_Encode_0 E w0 x N0 Q x1 x4 x5 x6 v18 v23 x21 x22 x23 S21))
  (optW (offD 0 x1) fun v36 =>
  optW (loadSc S v36) fun v37 =>
  optW (binI .eql v37 (.int .u8 49)) fun v38 =>
  optW (valGD (wantsD v38 true) (some x5)) fun v39 =>
  optW (pickD v38 v39 (.bool false)) fun v40 =>
  condD v40
  (optW (loadAg S 4 x1) fun v41 =>
  DFn Try.prog E w0 x f_ops_arms [x6, v41] S fun v42 S43 =>
  optW (extractD v42 0) fun v44 =>
  optW (extractD v42 1) fun v45 =>
  J_ops_Encode_1 E w0 x Q v45 v44 S43)
  (optW (offD 3 x1) fun v46 =>
  optW (loadSc S v46) fun v47 =>
  optW (lenSl v47) fun v48 =>
  optW (binI .gtr v48 (.int .i64 0)) fun v49 =>
  condD v49
  (condD v49
  (J_ops_Encode_1 E w0 x Q (.bool false) x6 S)
  (J_ops_Encode_1 E w0 x Q x5 x6 S))
  (optW (lenSl x4) fun v50 =>
  optW (binI .lss v50 (.int .i64 2)) fun v51 =>
  optW (valGD (wantsD v51 true) (offD 2 x1)) fun v52 =>
  optW (valGD (wantsD v51 true) (loadSc S v52)) fun v53 =>
  optW (valGD (wantsD v51 true) (binI .neq v53 (.int .i64 0))) fun v54 =>
  optW (pickD v51 v54 (.bool false)) fun v55 =>
  condD v55
  (condD v55
  (J_ops_Encode_1 E w0 x Q (.bool false) x6 S)
  (J_ops_Encode_1 E w0 x Q x5 x6 S))
  (optW (lenSl x4) fun v56 =>
  optW (binI .lss v56 (.int .i64 1)) fun v57 =>
  optW (valGD (wantsD v57 true) (offD 1 x1)) fun v58 =>
  optW (valGD (wantsD v57 true) (loadSc S v58)) fun v59 =>
  optW (valGD (wantsD v57 true) (binI .neq v59 (.int .i64 0))) fun v60 =>
  optW (pickD v57 v60 (.bool false)) fun v61 =>
  condD v61
  (J_ops_Encode_1 E w0 x Q (.bool false) x6 S)
  (J_ops_Encode_1 E w0 x Q x5 x6 S)))))
theorem B_ops_Encode_0_ok {E : Env} {w0 : World} {x : Bool} {N0 : D → D → D → D → D → D → D → DSt → Prop} {Q : D → DSt → Prop} {x1 x4 x5 x6 x21 x22 x23 : D} {S : DSt} (h : B_ops_Encode_0 E w0 x N0 Q x1 x4 x5 x6 x21 x22 x23 S) :
    CodeD Try.prog E w0 x L_ops_Encode_0 (mkRow 83 [1, 4, 5, 6, 21, 22, 23] [x1, x4, x5, x6, x21, x22, x23]) S (loopKD (fun T S => N0 (T.getD 1 undefD) (T.getD 4 undefD) (T.getD 5 undefD) (T.getD 6 undefD) (T.getD 21 undefD) (T.getD 22 undefD) (T.getD 23 undefD) S) (K_ops_Encode_0 E w0 x Q)) := codeD_of_vc lo_ops_Encode cu_ops_Encode mixed (by kernel_rfl) h
theorem loop_ops_Encode_0 {E : Env} {w0 : World} {x : Bool} {Q : D → DSt → Prop} (I : Nat → D → D → D → D → D → D → D → DSt → Prop)
    (step : ∀ n x1 x4 x5 x6 x21 x22 x23 S, I n x1 x4 x5 x6 x21 x22 x23 S → B_ops_Encode_0 E w0 x (fun x1 x4 x5 x6 x21 x22 x23 S => ∃ m, m < n ∧ I m x1 x4 x5 x6 x21 x22 x23 S) Q x1 x4 x5 x6 x21 x22 x23 S)
    {n : Nat} {x1 x4 x5 x6 x21 x22 x23 : D} {S : DSt} (h : I n x1 x4 x5 x6 x21 x22 x23 S) : CodeD Try.prog E w0 x (.loop L_ops_Encode_0) (mkRow 83 [1, 4, 5, 6, 21, 22, 23] [x1, x4, x5, x6, x21, x22, x23]) S (K_ops_Encode_0 E w0 x Q) :=
  codeD_loop (k := 83) (n := n) (I := fun n T S => I n (T.getD 1 undefD) (T.getD 4 undefD) (T.getD 5 undefD) (T.getD 6 undefD) (T.getD 21 undefD) (T.getD 22 undefD) (T.getD 23 undefD) S) (fun n T S hl hI => codeD_row [1, 4, 5, 6, 21, 22, 23] hl (CodeD.mono (B_ops_Encode_0_ok (step n _ _ _ _ _ _ _ S hI)) fun ex T' S' _ hq => by cases ex <;> exact hq)) (mkRow_length ..) (Eq.mp (by kernel_rfl) h)
def V_ops_Encode (E : Env) (w0 : World) (x : Bool) (Q : D → DSt → Prop) (a0 : D) (S : DSt) : Prop :=
  optW (cellsD a0) fun cs => allocD S cs fun v0 S1 =>
  optW (offD 0 v0) fun v2 =>
  optW (loadSc S1 v2) fun v3 =>
  DFn Try.prog E w0 x f_ops_layout [v3] S1 fun v4 S5 =>
  optW (extractD v4 0) fun v6 =>
  optW (extractD v4 1) fun v7 =>
  optW (offD 0 v0) fun v8 =>
  optW (loadSc S5 v8) fun v9 =>
  litD S5 1 (fillR 1 (List.replicate 1 [(.int .u8 0)]) [(0, v9)]) 1 fun v10 S11 =>
  DFn Try.prog E w0 x f_ops_put [.nilSlc, v10] S11 fun v12 S13 =>
  optW (lenSl v6) fun v14 =>
  CodeD Try.prog E w0 x (.loop L_ops_Encode_0) (mkRow 83 [1, 4, 5, 6, 21, 22, 23] [v0, v6, v7, v12, v6, v14, (.int .i64 0)]) S13 (K_ops_Encode_0 E w0 x Q)
theorem V_ops_Encode_ok {E : Env} {w0 : World} {x : Bool} {Q : D → DSt → Prop} {a0 : D} {S : DSt} (h : V_ops_Encode E w0 x (FinD E Q) a0 S) : DFn Try.prog E w0 x f_ops_Encode [a0] S Q :=
  fnD_of_vc lo_ops_Encode cu_ops_Encode (fn := Try.f42) (c := Try.f42.body.getD .skip) mixed Try.func42 (by kernel_rfl) (by kernel_rfl) h

/- trammel/ops.Size -/
def lo_ops_Size : List (Nat × List Nat) := []
def cu_ops_Size : List (Nat × List Nat) := []
def V_ops_Size (E : Env) (w0 : World) (x : Bool) (Q : D → DSt → Prop) (a0 : D) (S : DSt) : Prop :=
  optW (cellsD a0) fun cs => allocD S cs fun v0 S1 =>
  optW (loadAg S1 4 v0) fun v2 =>
  DFn Try.prog E w0 x f_ops_Encode [v2] S1 fun v3 S4 =>
  optW (extractD v3 0) fun v5 =>
  optW (extractD v3 1) fun v6 =>
  optW (lenSl v5) fun v7 =>
  Q v7 S4
theorem V_ops_Size_ok {E : Env} {w0 : World} {x : Bool} {Q : D → DSt → Prop} {a0 : D} {S : DSt} (h : V_ops_Size E w0 x (FinD E Q) a0 S) : DFn Try.prog E w0 x f_ops_Size [a0] S Q :=
  fnD_of_vc lo_ops_Size cu_ops_Size (fn := Try.f85) (c := Try.f85.body.getD .skip) mixed Try.func85 (by kernel_rfl) (by kernel_rfl) h
end Go.Proofs.Ytchnpgddpaonhaa.d
end

section
open Go.Proofs Go Go.Am Go.Op
namespace Go.Proofs.Ytchnpgddpaonhaa.d
set_option linter.unusedVariables false
set_option linter.unusedSimpArgs false
set_option maxRecDepth 100000
def fR (l : List Fld) : List (List D) := l.map fun f => [.int .i64 (f.size : Int), betD f.lo f.hi]
/-- The fields behind an Op. -/
def rowsF (op : Int) : List (List D) := if op = 1 then [[.int .i64 1, fitD 1]] else if op = 2 then [[.int .i64 4, fitD 2]] else if op = 3 then [[.int .i64 8, fitD 3]] else fR ((lay op).getD [])
section
variable {E : Env} {w0 : World} {x : Bool} {S : DSt} {Q : D → DSt → Prop} {k4 k5 k6 : Nat} {a4 a5 a6 : List AV} {op : Int} {b : Bool}
theorem fill2 {n : Int} {v : D} (h : cellsD v = some [v]) : aggD (fillD [(.int .i64 0), .nilFn] [(0, 1, (.int .i64 n)), (1, 1, v)]) = some (.agg [.int .i64 n, v]) := by
  simp [fillD, h, setManyD]
@[simp] theorem clBet (lo hi : Int) : cellsD (betD lo hi) = some [betD lo hi] := (rfl)
@[simp] theorem clFit (w : Int) : cellsD (fitD w) = some [fitD w] := (rfl)
theorem one_lit {n : Int} {v : D} {K : D → DSt → Prop} (h : K (.lst [[.int .i64 n, v]] 2) S) : litD S 2 (fillR 2 (List.replicate 1 [(.int .i64 0), .nilFn]) [(0, .agg [.int .i64 n, v])]) 1 K := by
  simp only [fillR, clA, List.length_cons, List.length_nil, List.replicate, List.set]
  rw [if_pos (by decide)]
  exact lit_lst rfl h
theorem two_lit {n : Int} {v : D} {K : D → DSt → Prop} (h : K (.lst [[.int .i64 n, v], [.int .i64 n, v]] 2) S) : litD S 2 (fillR 2 (List.replicate 2 [(.int .i64 0), .nilFn]) [(0, .agg [.int .i64 n, v]), (1, .agg [.int .i64 n, v])]) 2 K := by
  simp only [fillR, clA, List.length_cons, List.length_nil, List.replicate, List.set]
  rw [if_pos (by decide), if_pos (by decide)]
  exact lit_lst rfl h
theorem bx {k : Nat} {n : Int} {v : D} {acs : List AV} (h : S k = some ⟨2, [[.int .i64 n, v]], acs⟩) : loadAg S 2 (.ptr k 0) = some (.agg [.int .i64 n, v]) := laP h ⟨by decide, by simp⟩
theorem lay_j3 (h5 : S k5 = some ⟨2, [[.int .i64 4, betD 0 4294967295]], a5⟩) (h6 : S k6 = some ⟨2, [[.int .i64 1, betD 1 3]], a6⟩) (hQ : FinD E Q (.tup [.lst (fR ((lay3 b op).getD [])) 2, .bool (lay3 b op).isSome]) S) :
    C_ops_layout_137 E w0 x (FinD E Q) (.int .u8 op) (.ptr k5 0) (.ptr k6 0) (.int .u8 op) (.bool b) S := by
  refine C_ops_layout_137_ok ?_
  unfold P_ops_layout_137
  unfold lay3 at hQ
  have nilq : FinD E Q (.tup [.lst [] 2, .bool true]) S → FinD E Q (.tup [.nilSlc, .bool true]) S := fun h => FinD.nilT (lp := []) (sz := 2) h
  have nilf : FinD E Q (.tup [.lst [] 2, .bool false]) S → FinD E Q (.tup [.nilSlc, .bool false]) S := fun h => FinD.nilT (lp := []) (sz := 2) h
  cases b with
  | true => rw [cdT, bx h5, oD]; exact one_lit hQ
  | false =>
    rw [cdF, biEq, oD, cdB]
    simp only [Bool.false_eq_true, if_false] at hQ
    refine ⟨fun h => ?_, fun h => ?_⟩
    · rw [if_pos (by simpa using h)] at hQ
      refine ops_between_ok.use ?_
      rw [fill2 (clBet _ _), oD]
      exact one_lit hQ
    rw [if_neg (by simpa using h)] at hQ
    rw [biEq, oD, cdB]
    refine ⟨fun h => ?_, fun h => ?_⟩
    · rw [if_pos (by simpa using h)] at hQ; rw [bx h6, oD]; exact one_lit hQ
    rw [if_neg (by simpa using h)] at hQ
    by_cases h1 : 11 ≤ op
    · by_cases h2 : op ≤ 28
      · rw [if_pos ⟨h1, h2⟩] at hQ
        simp [h1, h2, bx h6]
        exact one_lit hQ
      · rw [if_neg (by omega)] at hQ
        simp [h1, h2]
        by_cases h3 : op ≤ 52
        · rw [if_pos (by omega)] at hQ
          simp [show (1 : Int) ≤ op by omega, h3]
          exact nilq hQ
        · rw [if_neg (by omega)] at hQ
          simp [show (1 : Int) ≤ op by omega, h3]
          exact nilf hQ
    · rw [if_neg (by omega)] at hQ
      simp [h1]
      by_cases h3 : 1 ≤ op
      · rw [if_pos (by omega)] at hQ
        simp [h3, show op ≤ 52 by omega]
        exact nilq hQ
      · rw [if_neg (by omega)] at hQ
        simp [h3]
        exact nilf hQ
theorem lay_j2 (h5 : S k5 = some ⟨2, [[.int .i64 4, betD 0 4294967295]], a5⟩) (h6 : S k6 = some ⟨2, [[.int .i64 1, betD 1 3]], a6⟩) (hQ : FinD E Q (.tup [.lst (fR ((lay2 b op).getD [])) 2, .bool (lay2 b op).isSome]) S) :
    C_ops_layout_113 E w0 x (FinD E Q) (.int .u8 op) (.ptr k5 0) (.ptr k6 0) (.int .u8 op) (.bool b) S := by
  refine C_ops_layout_113_ok ?_
  unfold P_ops_layout_113
  unfold lay2 at hQ
  cases b with
  | true =>
    rw [cdT]
    refine ops_between_ok.use ?_
    rw [fill2 (clBet _ _), oD]
    exact one_lit hQ
  | false =>
    rw [cdF, biEq, oD, cdB]
    simp only [Bool.false_eq_true, if_false] at hQ
    refine ⟨fun h => ?_, fun h => ?_⟩
    · rw [if_pos (by simpa using h)] at hQ; rw [bx h6, oD, oD]; exact two_lit hQ
    rw [if_neg (by simpa using h)] at hQ
    simp only [biEq, oD, cdB]
    refine ⟨fun h => ?_, fun h => ⟨fun h' => ?_, fun h' => ?_⟩⟩
    · rw [h]; refine lay_j3 h5 h6 ?_; simpa [h] using hQ
    · rw [h']; refine lay_j3 h5 h6 ?_; simpa [h, h'] using hQ
    · refine lay_j3 h5 h6 ?_; simpa [h, h'] using hQ
theorem lay_j1 (h4 : S k4 = some ⟨2, [[.int .i64 2, betD 0 65535]], a4⟩) (h5 : S k5 = some ⟨2, [[.int .i64 4, betD 0 4294967295]], a5⟩) (h6 : S k6 = some ⟨2, [[.int .i64 1, betD 1 3]], a6⟩) (hQ : FinD E Q (.tup [.lst (fR ((lay1 b op).getD [])) 2, .bool (lay1 b op).isSome]) S) :
    C_ops_layout_101 E w0 x (FinD E Q) (.int .u8 op) (.ptr k4 0) (.ptr k5 0) (.ptr k6 0) (.int .u8 op) (.bool b) S := by
  refine C_ops_layout_101_ok ?_
  unfold P_ops_layout_101
  unfold lay1 at hQ
  cases b with
  | true => rw [cdT, bx h4, oD, oD]; exact two_lit hQ
  | false =>
    rw [cdF]
    simp only [Bool.false_eq_true, if_false] at hQ
    simp only [biEq, oD, cdB]
    refine ⟨fun h => ?_, fun h => ?_⟩
    · rw [h]; refine lay_j2 h5 h6 ?_; simpa [h] using hQ
    · refine lay_j2 h5 h6 ?_; simpa [h] using hQ
theorem lay_j0 (h4 : S k4 = some ⟨2, [[.int .i64 2, betD 0 65535]], a4⟩) (h5 : S k5 = some ⟨2, [[.int .i64 4, betD 0 4294967295]], a5⟩) (h6 : S k6 = some ⟨2, [[.int .i64 1, betD 1 3]], a6⟩) (hQ : FinD E Q (.tup [.lst (fR ((lay0 b op).getD [])) 2, .bool (lay0 b op).isSome]) S) :
    C_ops_layout_89 E w0 x (FinD E Q) (.int .u8 op) (.ptr k4 0) (.ptr k5 0) (.ptr k6 0) (.int .u8 op) (.bool b) S := by
  refine C_ops_layout_89_ok ?_
  unfold P_ops_layout_89
  unfold lay0 at hQ
  cases b with
  | true => rw [cdT, bx h4, oD]; exact one_lit hQ
  | false =>
    rw [cdF]
    simp only [Bool.false_eq_true, if_false] at hQ
    simp only [biEq, oD, cdB]
    refine ⟨fun h => ?_, fun h => ?_⟩
    · rw [h]; refine lay_j1 h4 h5 h6 ?_; simpa [h] using hQ
    · refine lay_j1 h4 h5 h6 ?_; simpa [h] using hQ
theorem ops_layout_ok : Pure Try.prog E w0 f_ops_layout [.int .u8 op] (.tup [.lst (rowsF op) 2, .bool (lay op).isSome]) := fun x S0 => by
  refine V_ops_layout_ok ?_
  unfold V_ops_layout
  refine ops_between_ok.use ?_
  rw [fill2 (clBet _ _), oD]
  refine ops_between_ok.use ?_
  rw [fill2 (clBet _ _), oD]
  intro k4 a4 n4 k5 a5 n5
  obtain ⟨ne5, n5'⟩ := DSt.fresh n5
  refine stP (ds := [.int .i64 2, betD 0 65535]) (by rw [DSt.set_ne _ _ _ (Ne.symm ne5)]; exact DSt.set_same _ _ _) (clA _) ⟨rfl, by decide, by simp⟩ fun a4 => ?_
  rw [DSt.set_in _ (Ne.symm ne5)]
  refine stP (ds := [.int .i64 4, betD 0 4294967295]) (DSt.set_same _ _ _) (clA _) ⟨rfl, by decide, by simp⟩ fun a5 => ?_
  rw [DSt.set_set]
  refine ops_between_ok.use ?_
  rw [fill2 (clBet _ _), oD]
  intro k6 a6 n6
  refine stP (ds := [.int .i64 1, betD 1 3]) (DSt.set_same _ _ _) (clA _) ⟨rfl, by decide, by simp⟩ fun a6 => ?_
  rw [DSt.set_set]
  obtain ⟨ne6, n6'⟩ := DSt.fresh n6
  obtain ⟨ne6', n6''⟩ := DSt.fresh n6'
  generalize hS : ((S0.set k4 _).set k5 _).set k6 _ = S
  have hle : S0.le S := by rw [← hS]; exact DSt.le_set (DSt.le_set (DSt.le_new n4) n5') n6''
  have h6 : S k6 = some ⟨2, [[.int .i64 1, betD 1 3]], a6⟩ := by rw [← hS]; exact DSt.set_same _ _ _
  have h5 : S k5 = some ⟨2, [[.int .i64 4, betD 0 4294967295]], a5⟩ := by rw [← hS, DSt.set_ne _ _ _ (Ne.symm ne6)]; exact DSt.set_same _ _ _
  have h4 : S k4 = some ⟨2, [[.int .i64 2, betD 0 65535]], a4⟩ := by rw [← hS, DSt.set_ne _ _ _ (Ne.symm ne6'), DSt.set_ne _ _ _ (Ne.symm ne5)]; exact DSt.set_same _ _ _
  have hQ : FinD E (fun d' S' => d' = .tup [.lst (rowsF op) 2, .bool (lay op).isSome] ∧ S' = S0) (.tup [.lst (rowsF op) 2, .bool (lay op).isSome]) S := FinD.less hle FinD.pure
  clear hS
  generalize hQ0 : (fun d' S' => d' = D.tup [.lst (rowsF op) 2, .bool (lay op).isSome] ∧ S' = S0) = Q0 at hQ ⊢
  clear hQ0
  simp only [biEq, oD, cdB, beq_iff_eq, beq_eq_false_iff_ne, ne_eq]
  refine ⟨fun h => ?_, fun g1 => ⟨fun h => ?_, fun g2 => ⟨fun h => ?_, fun g3 => ?_⟩⟩⟩
  · refine ops_fits_ok.use ?_
    rw [fill2 (clFit _), oD]
    refine one_lit ?_
    rw [h] at hQ; exact hQ
  · refine ops_fits_ok.use ?_
    rw [fill2 (clFit _), oD]
    refine one_lit ?_
    rw [h] at hQ; exact hQ
  · refine ops_fits_ok.use ?_
    rw [fill2 (clFit _), oD]
    refine one_lit ?_
    rw [h] at hQ; exact hQ
  have e : lay op = lay0 (op == 6 || op == 7 || op == 8 || op == 50 || op == 36 || op == 39 || op == 40 || op == 41 || op == 42 || op == 43 || op == 44 || op == 45) op := by unfold lay; rw [if_neg g1, if_neg g2, if_neg g3]
  rw [show rowsF op = fR ((lay op).getD []) by unfold rowsF; rw [if_neg g1, if_neg g2, if_neg g3], e] at hQ
  generalize hb : (op == 6 || op == 7 || op == 8 || op == 50 || op == 36 || op == 39 || op == 40 || op == 41 || op == 42 || op == 43 || op == 44 || op == 45) = b at hQ
  have fin : ∀ c : Bool, c = b → C_ops_layout_89 E w0 x (FinD E Q0) (.int .u8 op) (.ptr k4 0) (.ptr k5 0) (.ptr k6 0) (.int .u8 op) (.bool c) S := by
    rintro c rfl
    exact lay_j0 h4 h5 h6 hQ
  refine ⟨fun h => fin _ (by rw [← hb]; simp [h]), fun h1 => ⟨fun h => fin _ (by rw [← hb]; simp [h]), fun h2 => ⟨fun h => fin _ (by rw [← hb]; simp [h]), fun h3 => ⟨fun h => fin _ (by rw [← hb]; simp [h]), fun h4 => ⟨fun h => fin _ (by rw [← hb]; simp [h]), fun h5 => ⟨fun h => fin _ (by rw [← hb]; simp [h]), fun h6 =>
    ⟨fun h => fin _ (by rw [← hb]; simp [h]), fun h7 => ⟨fun h => fin _ (by rw [← hb]; simp [h]), fun h8 => ⟨fun h => fin _ (by rw [← hb]; simp [h]), fun h9 => ⟨fun h => fin _ (by rw [← hb]; simp [h]), fun h10 => ⟨fun h => fin _ (by rw [← hb]; simp [h]), fun h11 => fin _ (by rw [← hb]; simp [h1, h2, h3, h4, h5, h6, h7, h8, h9, h10, h11])⟩⟩⟩⟩⟩⟩⟩⟩⟩⟩⟩
end
end Go.Proofs.Ytchnpgddpaonhaa.d
end

section
open Go.Proofs Go Go.Am Go.Op
namespace Go.Proofs.Ytchnpgddpaonhaa.d
set_option linter.unusedVariables false
set_option linter.unusedSimpArgs false
set_option maxRecDepth 100000
theorem byteAt_wrap (n : Int) {i : Nat} (hi : i < 8) : byteAt (n % 18446744073709551616) i = byteAt n i := by
  have h : i = 0 ∨ i = 1 ∨ i = 2 ∨ i = 3 ∨ i = 4 ∨ i = 5 ∨ i = 6 ∨ i = 7 := by omega
  rcases h with rfl | rfl | rfl | rfl | rfl | rfl | rfl | rfl <;> simp [byteAt] <;> omega
theorem fixS_wrap (n : Int) {s : Nat} (hs : s ≤ 8) : fixS (n % 18446744073709551616) s = fixS n s := by
  unfold fixS
  refine List.map_congr_left fun i hi => byteAt_wrap n ?_
  have := List.mem_range.1 hi
  omega
/-- Bytes that grow. -/
abbrev GrwB (S0 : DSt) (t : D) (bs : List Int) (S : DSt) : Prop := Grw S0 t (ones (bs.map (D.int .u8))) 1 S
/-- What tells whether a number is from one to another. -/
def MayD (fv : D) (lo hi : Int) : Prop := fv = betD lo hi ∨ ∃ w, fv = fitD w ∧ lo = fitLo w ∧ hi = fitHi w
theorem MayD.bet (lo hi : Int) : MayD (betD lo hi) lo hi := .inl rfl
theorem MayD.fit (w : Int) : MayD (fitD w) (fitLo w) (fitHi w) := .inr ⟨w, rfl, rfl, rfl⟩
theorem MayD.cells {fv : D} {lo hi : Int} (h : MayD fv lo hi) : cellsD fv = some [fv] := by
  rcases h with rfl | ⟨w, rfl, _⟩ <;> rfl
theorem fnb1 : bodied Try.prog f_ops_between_1 = true := by kernel_rfl
theorem fnb2 : bodied Try.prog f_ops_fits_1 = true := by kernel_rfl
/-- A row of a field. -/
def FldD (row : List D) (f : Fld) : Prop := ∃ fv, row = [.int .i64 (f.size : Int), fv] ∧ MayD fv f.lo f.hi
theorem rowsF_at {op : Int} {i : Nat} {f : Fld} (h : ((lay op).getD [])[i]? = some f) : ∃ row, (rowsF op)[i]? = some row ∧ FldD row f := by
  unfold rowsF
  by_cases h1 : op = 1
  · have e : lay op = some [⟨1, fitLo 1, fitHi 1⟩] := by unfold lay; rw [if_pos h1]
    rw [e] at h
    rw [if_pos h1]
    cases i with
    | zero => cases h; exact ⟨_, rfl, _, rfl, .fit 1⟩
    | succ i => cases h
  rw [if_neg h1]
  by_cases h2 : op = 2
  · have e : lay op = some [⟨4, fitLo 2, fitHi 2⟩] := by unfold lay; rw [if_neg h1, if_pos h2]
    rw [e] at h
    rw [if_pos h2]
    cases i with
    | zero => cases h; exact ⟨_, rfl, _, rfl, .fit 2⟩
    | succ i => cases h
  rw [if_neg h2]
  by_cases h3 : op = 3
  · have e : lay op = some [⟨8, fitLo 3, fitHi 3⟩] := by unfold lay; rw [if_neg h1, if_neg h2, if_pos h3]
    rw [e] at h
    rw [if_pos h3]
    cases i with
    | zero => cases h; exact ⟨_, rfl, _, rfl, .fit 3⟩
    | succ i => cases h
  rw [if_neg h3]
  exact ⟨_, by unfold fR; rw [List.getElem?_map, h]; rfl, _, rfl, .bet _ _⟩
theorem rowsF_length {op : Int} : (rowsF op).length = ((lay op).getD []).length := by
  unfold rowsF
  by_cases h1 : op = 1
  · rw [if_pos h1]; unfold lay; rw [if_pos h1]; rfl
  rw [if_neg h1]
  by_cases h2 : op = 2
  · rw [if_pos h2]; unfold lay; rw [if_neg h1, if_pos h2]; rfl
  rw [if_neg h2]
  by_cases h3 : op = 3
  · rw [if_pos h3]; unfold lay; rw [if_neg h1, if_neg h2, if_pos h3]; rfl
  rw [if_neg h3, fR, List.length_map]
section
variable {E : Env} {w0 : World} {x : Bool} {S0 S : DSt} {t : D} {bs ms : List Int}
theorem may_call {fv : D} {lo hi n : Int} (h : MayD fv lo hi) (hn : I64 n) {K : D → DSt → Prop} (hK : K (.bool (decide (lo ≤ n ∧ n ≤ hi))) S) : callVD Try.prog (DFn Try.prog E w0 x) S fv [.int .i64 n] K := by
  rcases h with rfl | ⟨w, rfl, rfl, rfl⟩
  · simp only [betD, callVD, enterD, fnb1, if_true]
    exact ops_between_1_ok.use hK
  · simp only [fitD, callVD, enterD, fnb2, if_true]
    exact (ops_fits_1_ok hn).use hK
theorem ops_put_ok (h : GrwB S0 t bs S) (hl : bs.length + ms.length < 2 ^ 44) : DFn Try.prog E w0 x f_ops_put [t, bD ms] S fun v S' => GrwB S0 v (bs ++ ms) S' := by
  refine V_ops_put_ok ?_
  unfold V_ops_put
  refine h.push (bD_rows _ _) ⟨by decide, by simp only [ones_length, List.length_map]; omega⟩ fun t' S' h' => FinD.here ?_
  unfold GrwB
  rw [List.map_append, ones_append]
  exact h'
theorem ops_number_ok (h : GrwB S0 t bs S) {row : List D} {f : Fld} (hf : FldD row f) {n : Int} (hn : I64 n) (h1 : 1 ≤ f.size) (h8 : f.size ≤ 8) (hl : bs.length < 2 ^ 40) : DFn Try.prog E w0 x f_ops_number [t, .agg row, .int .i64 n] S fun v S' =>
    ∃ t', v = .tup [t', .bool (f.may n)] ∧ GrwB S0 t' (bs ++ fixS n f.size) S' := by
  obtain ⟨fv, rfl, hm⟩ := hf
  refine V_ops_number_ok ?_
  unfold V_ops_number
  rw [clA, oD]
  intro k acs hk
  have hbox : ∀ {S' : DSt}, (S.set k ⟨2, [[.int .i64 (f.size : Int), fv]], acs⟩).le S' ∨ S' k = some ⟨2, [[.int .i64 (f.size : Int), fv]], acs⟩ → S' k = some ⟨2, [[.int .i64 (f.size : Int), fv]], acs⟩ := fun h => h.elim (fun h => h _ _ (DSt.set_same _ _ _)) id
  rw [cvI, oD, ofP, oD, ldP (DSt.set_same _ _ _), List.getElem?_cons_zero, oD]
  refine ⟨by trivial, (wire_Fixed_ok h1 h8).useX ⟨by trivial, ?_⟩⟩
  rw [u64_wrap, fixS_wrap n h8]
  have hg := h.under (o := ⟨2, [[.int .i64 (f.size : Int), fv]], acs⟩) hk
  refine DFn.toX (ops_put_ok hg (by rw [fixS_length]; omega)) fun v S' hg' => ⟨by trivial, ?_⟩
  have hb : S' k = some ⟨2, [[.int .i64 (f.size : Int), fv]], acs⟩ := hg'.le _ _ (DSt.set_same _ _ _)
  have e1 : loadSc S' (.ptr k (0 + 1)) = some fv := by rw [ldP hb]; rfl
  have e0 : loadSc (S.set k ⟨[D.int .i64 (f.size : Int), fv].length, [[.int .i64 (f.size : Int), fv]], acs⟩) (.ptr k (0 + 1)) = some fv := by rw [ldP (DSt.set_same _ _ _)]; rfl
  have hk0 : S0 k = none := by
    cases e : S0 k with
    | none => rfl
    | some o => rw [h.le _ _ e] at hk; cases hk
  rw [ofP, oD, e1, oD]
  simp only [orAny, fwP, e0]
  refine ⟨⟨⟨by simp, ?_⟩, ⟨by simp, ?_⟩, by trivial⟩, ?_⟩
  · rw [hb]; exact (DSt.set_same _ _ _).symm
  · rw [hb]; exact (DSt.set_same _ _ _).symm
  refine may_call (x := true) hm hn ⟨by trivial, ?_⟩
  obtain ⟨S2, hle, hg2⟩ := hg'.drop hk0
  exact FinD.less hle (FinD.here ⟨v, rfl, hg2⟩)
end
end Go.Proofs.Ytchnpgddpaonhaa.d
end

section
open Go.Proofs Go Go.Am Go.Op
namespace Go.Proofs.Ytchnpgddpaonhaa.d
set_option linter.unusedVariables false
set_option linter.unusedSimpArgs false
set_option maxRecDepth 100000
def armR (y : Int × Int) : List D := [.int .i64 y.1, .int .i64 y.2]
/-- Arms; an instruction. -/
def armD (arms : List (Int × Int)) : D := .lst (arms.map armR) 2
def inC (y : In) : List D := [.int .u8 y.op, .int .i64 y.a, .int .i64 y.b, armD y.arms]
def inD (y : In) : D := .agg (inC y)
/-- Its bytes, if it is one. -/
def encS (y : In) : List Int := if isS y = true then encB y else []
section
variable {E : Env} {w0 : World} {x : Bool} {S0 S : DSt} {t : D} {bs ms : List Int}
@[simp] theorem armD_len (arms : List (Int × Int)) : lenSl (armD arms) = some (.int .i64 arms.length) := by simp [armD]
theorem armD_at {arms : List (Int × Int)} {i : Nat} {y : Int × Int} (h : arms[i]? = some y) : idxSl 2 (armD arms) (.int .i64 (i : Int)) = some (.elt (armR y) 0) := idxL (by rw [List.getElem?_map, h]; rfl)
theorem ops_arms_ok (h : GrwB S0 t bs S) {y : In} (ho : y.Ok) (h49 : y.op = 49) (hl : bs.length < 2 ^ 30) : DFn Try.prog E w0 x f_ops_arms [t, inD y] S fun v S' =>
    ∃ t' bs', v = .tup [t', .bool (decide (y.arms.length ≤ 65535) && y.arms.all (armOk (IntKind.u8.wrap y.a)) && fLeap.may y.b)] ∧ GrwB S0 t' bs' S' ∧ (y.arms.length ≤ 65535 → bs' = bs ++ (fixS y.arms.length 2 ++ armsB y.arms ++ fixS y.b 4)) := by
  refine V_ops_arms_ok ?_
  unfold V_ops_arms
  rw [inD, clA, oD]
  intro k0 a0 n0
  refine ops_between_ok.use ?_
  rw [fill2 (clBet _ _), oD]
  intro k5 a5 n5
  refine stP (ds := [.int .i64 4, betD 0 4294967295]) (DSt.set_same _ _ _) (clA _) ⟨rfl, by decide, by simp⟩ fun a5 => ?_
  rw [DSt.set_set]
  obtain ⟨ne5, n5'⟩ := DSt.fresh n5
  have l0 : ∀ {S' : DSt}, (S.set k0 ⟨(inC y).length, [inC y], a0⟩).le S' → ∀ i, loadSc S' (.ptr k0 i) = (inC y)[i]? := fun h i => ldP (h _ _ (DSt.set_same _ _ _))
  rw [ofP, oD, l0 (DSt.le_new n5), show (inC y)[0 + 1]? = some (.int .i64 y.a) from rfl, oD, cvI, oD]
  refine ops_fits_ok.use ?_
  rw [fill2 (clFit _), oD]
  intro k6 a6 n6
  refine stP (ds := [.int .i64 8, fitD (IntKind.u8.wrap y.a)]) (DSt.set_same _ _ _) (clA _) ⟨rfl, by decide, by simp⟩ fun a6 => ?_
  rw [DSt.set_set]
  have g0 := h.under (o := ⟨(inC y).length, [inC y], a0⟩) n0
  have g5 := g0.under (o := ⟨[D.int .i64 0, .nilFn].length, [setManyD [D.int .i64 0, .nilFn] 0 [.int .i64 4, betD 0 4294967295]], a5⟩) n5
  have g6 := g5.under (o := ⟨[D.int .i64 0, .nilFn].length, [setManyD [D.int .i64 0, .nilFn] 0 [.int .i64 8, fitD (IntKind.u8.wrap y.a)]], a6⟩) n6
  have z0 : S0 k0 = none := by
    cases e : S0 k0 with
    | none => rfl
    | some o => rw [h.le _ _ e] at n0; cases n0
  obtain ⟨B, hB⟩ : ∃ B, B = ((S0.set k0 ⟨(inC y).length, [inC y], a0⟩).set k5 ⟨[D.int .i64 0, .nilFn].length, [setManyD [D.int .i64 0, .nilFn] 0 [.int .i64 4, betD 0 4294967295]], a5⟩).set k6 ⟨[D.int .i64 0, .nilFn].length, [setManyD [D.int .i64 0, .nilFn] 0 [.int .i64 8, fitD (IntKind.u8.wrap y.a)]], a6⟩ := ⟨_, rfl⟩
  rw [← hB] at g6
  generalize (((S.set k0 _).set k5 _).set k6 _) = S1 at g6 ⊢
  obtain ⟨ne6, n6'⟩ := DSt.fresh n6
  obtain ⟨ne6', n6''⟩ := DSt.fresh n6'
  have b0 : B k0 = some ⟨4, [inC y], a0⟩ := by rw [hB, DSt.set_ne _ _ _ (Ne.symm ne6'), DSt.set_ne _ _ _ (Ne.symm ne5)]; exact DSt.set_same _ _ _
  have b5 : B k5 = some ⟨2, [[.int .i64 4, betD 0 4294967295]], a5⟩ := by rw [hB, DSt.set_ne _ _ _ (Ne.symm ne6)]; exact DSt.set_same _ _ _
  have b6 : B k6 = some ⟨2, [[.int .i64 8, fitD (IntKind.u8.wrap y.a)]], a6⟩ := by rw [hB]; exact DSt.set_same _ _ _
  have z5 : S0 k5 = none := by
    cases e : S0 k5 with
    | none => rfl
    | some o => rw [h.le _ _ e] at n5'; cases n5'
  have z6 : S0 k6 = none := by
    cases e : S0 k6 with
    | none => rfl
    | some o => rw [h.le _ _ e] at n6''; cases n6''
  have hle : S0.le B := by rw [hB]; exact DSt.le_set (DSt.le_set (DSt.le_new z0) z5) z6
  clear hB n0 n5 n5' n6 n6' n6'' g0 g5 l0
  have l0 : ∀ {S' : DSt}, B.le S' → ∀ i, loadSc S' (.ptr k0 i) = (inC y)[i]? := fun h i => ldP (h _ _ b0)
  have l5 : ∀ {S' : DSt}, B.le S' → loadAg S' 2 (.ptr k5 0) = some (.agg [.int .i64 4, betD 0 4294967295]) := fun h => bx (h _ _ b5)
  have l6 : ∀ {S' : DSt}, B.le S' → loadAg S' 2 (.ptr k6 0) = some (.agg [.int .i64 8, fitD (IntKind.u8.wrap y.a)]) := fun h => bx (h _ _ b6)
  have f5 : FldD [.int .i64 4, betD 0 4294967295] fLeap := ⟨_, rfl, .bet _ _⟩
  have f6 : FldD [.int .i64 8, fitD (IntKind.u8.wrap y.a)] (vF (IntKind.u8.wrap y.a)) := ⟨_, rfl, .fit _⟩
  have hsh := ho.short
  simp only [ofP, oD, l0 g6.le, show (inC y)[0 + 3]? = some (armD y.arms) from rfl, armD_len, biGt]
  rw [cdI]
  refine ⟨fun hbig => ?_, fun hsm => ?_⟩
  · have c : decide (y.arms.length ≤ 65535) = false := decide_eq_false (by omega)
    refine FinD.less (DSt.le_trans hle g6.le) (FinD.here ⟨.nilSlc, [], ?_, .inl ⟨rfl, rfl, rfl⟩, fun h => by omega⟩)
    rw [c, Bool.false_and, Bool.false_and]
  have hsm : y.arms.length ≤ 65535 := by omega
  rw [cvI, oD, u64_nat (by omega)]
  refine (wire_Fixed_ok (s := 2) (by decide) (by decide)).use ?_
  refine (ops_put_ok g6 (by rw [fixS_length]; omega)).use fun t1 S2 g7 => ?_
  simp only [ofP, oD, l0 g7.le, show (inC y)[0 + 3]? = some (armD y.arms) from rfl, armD_len]
  refine loop_ops_arms_0 (I := fun n x0 x3 x6 x7 x8 x33 x34 x35 S => ∃ (B' : DSt) (j : Nat), B.le B' ∧ j + n = y.arms.length ∧ GrwB B' x0 (bs ++ fixS y.arms.length 2 ++ armsB (y.arms.take j)) S ∧
      x3 = .ptr k0 0 ∧ x6 = .ptr k5 0 ∧ x7 = .ptr k6 0 ∧ x8 = .bool ((y.arms.take j).all (armOk (IntKind.u8.wrap y.a))) ∧ x33 = armD y.arms ∧ x34 = .int .i64 (y.arms.length : Int) ∧ x35 = .int .i64 (j : Int)) ?_ (n := y.arms.length)
    ⟨B, 0, DSt.le_refl _, by omega, by simpa [armsB] using g7, rfl, rfl, rfl, rfl, rfl, rfl, rfl⟩
  rintro n x0 _ _ _ _ _ _ _ S3 ⟨B', j, hB', hj, g8, rfl, rfl, rfl, rfl, rfl, rfl, rfl⟩
  unfold B_ops_arms_0
  have hle8 := DSt.le_trans hB' g8.le
  have hbl : (bs ++ fixS y.arms.length 2 ++ armsB (y.arms.take j)).length < 2 ^ 40 := by
    simp only [List.length_append, fixS_length, armsB_length, List.length_take]
    omega
  rw [biLt, oD, cdI]
  refine ⟨fun hlt => ?_, fun hge => ?_⟩
  · have hlt : j < y.arms.length := by omega
    obtain ⟨z, hz⟩ : ∃ z, z = y.arms[j] := ⟨_, rfl⟩
    have hjz : y.arms[j]? = some z := by rw [List.getElem?_eq_getElem hlt, hz]
    obtain ⟨hz1, hz2⟩ := ho.arms z (by rw [hz]; exact List.getElem_mem _)
    rw [armD_at hjz, oD, laE, if_pos (by simp [armR]), oD]
    intro k a nk
    refine stP (ds := armR z) (DSt.set_same _ _ _) (clA _) ⟨rfl, by decide, by simp [armR]⟩ fun a => ?_
    rw [DSt.set_set]
    have hk : B.le (S3.set k ⟨[D.int .i64 0, .int .i64 0].length, [setManyD [D.int .i64 0, .int .i64 0] 0 (armR z)], a⟩) := DSt.le_trans hle8 (DSt.le_new nk)
    have g9 := g8.under (o := ⟨[D.int .i64 0, .int .i64 0].length, [setManyD [D.int .i64 0, .int .i64 0] 0 (armR z)], a⟩) nk
    have zk : B' k = none := by
      cases e : B' k with
      | none => rfl
      | some o => rw [g8.le _ _ e] at nk; cases nk
    have lk : ∀ {S' : DSt}, (B'.set k ⟨[D.int .i64 0, .int .i64 0].length, [setManyD [D.int .i64 0, .int .i64 0] 0 (armR z)], a⟩).le S' → ∀ i, loadSc S' (.ptr k i) = (armR z)[i]? := fun h i => by
      rw [ldP (h _ _ (DSt.set_same _ _ _))]; rfl
    have hB9 : B.le (B'.set k ⟨[D.int .i64 0, .int .i64 0].length, [setManyD [D.int .i64 0, .int .i64 0] 0 (armR z)], a⟩) := DSt.le_trans hB' (DSt.le_new zk)
    rw [l6 hk, oD, ofP, oD, lk g9.le, show (armR z)[0 + 0]? = some (.int .i64 z.1) from rfl, oD]
    refine (ops_number_ok g9 f6 hz1 (show 1 ≤ 8 by decide) (show 8 ≤ 8 by decide) hbl).use ?_
    rintro v S4 ⟨t4, rfl, g10⟩
    simp only [exD, List.getElem?_cons_zero, List.getElem?_cons_succ, oD]
    rw [l5 (DSt.le_trans hB9 g10.le), oD, ofP, oD, lk g10.le, show (armR z)[0 + 1]? = some (.int .i64 z.2) from rfl, oD]
    refine (ops_number_ok g10 f5 hz2 (by decide) (by decide) (by simp only [List.length_append, fixS_length, armsB_length, List.length_take] at hbl ⊢; have : (vF (IntKind.u8.wrap y.a)).size = 8 := rfl; omega)).use ?_
    rintro v S5 ⟨t5, rfl, g11⟩
    simp only [exD, List.getElem?_cons_zero, List.getElem?_cons_succ, oD]
    have e1 : ∀ p q r : Bool, (∀ K : D → Prop, K (.bool (p && q && r)) → optW (valGD (wantsD (.bool p) true) (some (.bool q))) fun v55 => optW (pickD (.bool p) v55 (.bool false)) fun v56 => optW (valGD (wantsD v56 true) (some (.bool r))) fun v57 => optW (pickD v56 v57 (.bool false)) fun v58 => K v58) := by
      intro p q r K hK
      cases p <;> cases q <;> cases r <;> simpa using hK
    refine e1 _ _ _ (fun v58 => optW (binI .add (.int .i64 (j : Int)) (.int .i64 1)) fun v59 => _) ?_
    rw [biAdd, oD, wrap_i64 (by omega) (by omega)]
    refine ⟨n - 1, by omega, _, j + 1, hB9, by omega, ?_, by trivial, by trivial, by trivial, ?_, by trivial, by trivial, by trivial⟩
    · have : armsB (y.arms.take (j + 1)) = armsB (y.arms.take j) ++ (fixS z.1 8 ++ fixS z.2 4) := by
        rw [List.take_add_one, hjz, Option.toList_some]
        simp [armsB, armB, List.flatMap_append]
      rw [this, ← List.append_assoc, ← List.append_assoc]
      exact g11
    · rw [List.take_add_one, hjz, Option.toList_some, List.all_append, List.all_cons, List.all_nil, Bool.and_true, armOk_v, Bool.and_assoc]
  · have hj' : j = y.arms.length := by omega
    subst hj'
    rw [List.take_length] at g8 hbl ⊢
    rw [l5 hle8, oD, ofP, oD, l0 hle8, show (inC y)[0 + 2]? = some (.int .i64 y.b) from rfl, oD]
    refine (ops_number_ok g8 f5 ho.b (by decide) (by decide) hbl).use ?_
    rintro v S4 ⟨t4, rfl, g9⟩
    simp only [exD, List.getElem?_cons_zero, List.getElem?_cons_succ, oD]
    obtain ⟨S5, hl5, g10⟩ := g9.base (DSt.le_trans hle hB')
    have e1 : ∀ p q : Bool, (∀ K : D → Prop, K (.bool (p && q)) → optW (valGD (wantsD (.bool p) true) (some (.bool q))) fun v55 => optW (pickD (.bool p) v55 (.bool false)) fun v56 => K v56) := by
      intro p q K hK
      cases p <;> cases q <;> simpa using hK
    refine e1 _ _ (fun v => FinD E _ (.tup [t4, v]) S4) ?_
    refine FinD.less hl5 (FinD.here ⟨t4, _, ?_, g10, fun _ => ?_⟩)
    · rw [decide_eq_true hsm, Bool.true_and]
    · simp only [List.append_assoc]; rfl
end
end Go.Proofs.Ytchnpgddpaonhaa.d
end
