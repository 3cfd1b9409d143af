/-
  Texts Vg Fa Fb, as far as they are used.
-/
import Derived.Test.YtchnpgddpaonhaaRows
import Derived.Test.YtchnpgddpaonhaaUau
import Derived.KernelRfl
import Derived.Test.YtchnpgddpaonhaaUaw
import Derived.Test.YtchnpgddpaonhaaUay
section
open Go.Proofs Go Go.Am
namespace Go.Proofs.Ytchnpgddpaonhaa.d
set_option linter.unusedVariables false
set_option maxRecDepth 100000
/- (*trammel/ops.reader).read -/
def lo_ops_reader_read : List (Nat × List Nat) := []
def cu_ops_reader_read : List (Nat × List Nat) := [(20, [0, 3, 6, 8])]
noncomputable def R_ops_reader_read_20 : Code := (codeAt [1, 1, 1, 1, 1, 1] (Try.f95.body.getD .skip))
def KC_ops_reader_read_20 (E : Env) (w0 : World) (x : Bool) (Q : D → DSt → Prop) : AExit → List D → DSt → Prop :=
  (retD Try.prog Try.f95 Q)
def P_ops_reader_read_20 (E : Env) (w0 : World) (x : Bool) (Q : D → DSt → Prop) (x0 x3 x6 x8 : D) (S : DSt) : Prop :=
  optW (offD 1 x3) fun v25 =>
  optW (loadSc S v25) fun v26 =>
  callVD Try.prog (DFn Try.prog E w0 x) S v26 [x8] fun v27 S28 =>
  optW (unD .not v27) fun v29 =>
  condD v29
  (optW (nilD x0) fun v30 =>
  optW (offD 2 v30) fun v31 =>
  storeD S28 1 v31 (.int .i64 120) fun v32 S33 =>
  Q (.int .i64 0) S33)
  (optW (nilD x0) fun v34 =>
  optW (offD 1 v34) fun v35 =>
  storeD S28 1 v35 x6 fun v36 S37 =>
  Q x8 S37)
def C_ops_reader_read_20 (E : Env) (w0 : World) (x : Bool) (Q : D → DSt → Prop) (x0 x3 x6 x8 : D) (S : DSt) : Prop := CodeD Try.prog E w0 x R_ops_reader_read_20 (mkRow 65 [0, 3, 6, 8] [x0, x3, x6, x8]) S (KC_ops_reader_read_20 E w0 x Q)
theorem C_ops_reader_read_20_ok {E : Env} {w0 : World} {x : Bool} {Q : D → DSt → Prop} {x0 x3 x6 x8 : D} {S : DSt} (h : P_ops_reader_read_20 E w0 x Q x0 x3 x6 x8 S) : C_ops_reader_read_20 E w0 x Q x0 x3 x6 x8 S := codeD_of_vc lo_ops_reader_read cu_ops_reader_read mixed (by kernel_rfl) h
def V_ops_reader_read (E : Env) (w0 : World) (x : Bool) (Q : D → DSt → Prop) (a0 a1 : D) (S : DSt) : Prop :=
  optW (cellsD a1) fun cs => allocD S cs fun v0 S1 =>
  optW (nilD a0) fun v2 =>
  optW (offD 2 v2) fun v3 =>
  optW (loadSc S1 v3) fun v4 =>
  optW (binI .neq v4 (.int .i64 0)) fun v5 =>
  condD v5
  (Q (.int .i64 0) S1)
  (optW (nilD a0) fun v6 =>
  optW (offD 0 v6) fun v7 =>
  optW (loadSc S1 v7) fun v8 => (True) ∧
  optW (nilD a0) fun v9 =>
  optW (offD 1 v9) fun v10 =>
  optW (loadSc S1 v10) fun v11 => (True) ∧
  optW (offD 0 v0) fun v12 =>
  optW (loadSc S1 v12) fun v13 => (True) ∧
  DF E (FnX Try.prog E w0) f_wire_Wide [v8, v11, v13] S1 fun v14 S15 => (True) ∧
  optW (extractD v14 0) fun v16 =>
  optW (extractD v14 1) fun v17 =>
  optW (extractD v14 2) fun v18 =>
  optW (binI .neq v18 (.int .i64 0)) fun v19 =>
  condD v19
  (optW (nilD a0) fun v20 =>
  optW (offD 2 v20) fun v21 =>
  storeD S15 1 v21 (.int .i64 10) fun v22 S23 =>
  Q (.int .i64 0) S23)
  (optW (convI .i64 v16) fun v24 =>
  optW (offD 1 v0) fun v38 =>
  optW (loadSc S15 v38) fun v39 =>
  callVD Try.prog (DFn Try.prog E w0 x) S15 v39 [v24] fun v40 S41 =>
  optW (unD .not v40) fun v42 =>
  optW (valGD (wantsD v42 true) (offD 0 v0)) fun v43 =>
  optW (valGD (wantsD v42 true) (loadSc S41 v43)) fun v44 =>
  optW (valGD (wantsD v42 true) (binI .lss v44 (.int .i64 8))) fun v45 =>
  optW (pickD v42 v45 (.bool false)) fun v46 =>
  condD v46
  (optW (offD 0 v0) fun v47 =>
  optW (loadSc S41 v47) fun v48 =>
  optW (binI .mul (.int .i64 8) v48) fun v49 =>
  optW (binI .shl (.int .i64 1) v49) fun v50 =>
  optW (binI .sub v24 v50) fun v51 =>
  C_ops_reader_read_20 E w0 x Q a0 v0 v17 v51 S41)
  (C_ops_reader_read_20 E w0 x Q a0 v0 v17 v24 S41)))
theorem V_ops_reader_read_ok {E : Env} {w0 : World} {x : Bool} {Q : D → DSt → Prop} {a0 a1 : D} {S : DSt} (h : V_ops_reader_read E w0 x (FinD E Q) a0 a1 S) : DFn Try.prog E w0 x f_ops_reader_read [a0, a1] S Q :=
  fnD_of_vc lo_ops_reader_read cu_ops_reader_read (fn := Try.f95) (c := Try.f95.body.getD .skip) mixed Try.func95 (by kernel_rfl) (by kernel_rfl) h

/- trammel/ops.Decode -/
def lo_ops_Decode : List (Nat × List Nat) := [(18, [4, 7, 10, 45, 46, 47]), (36, [4, 7, 10, 13, 14, 15])]
def cu_ops_Decode : List (Nat × List Nat) := [(34, [4, 7, 10, 13, 14]), (46, [4, 7, 10])]
noncomputable def R_ops_Decode_46 : Code := (codeAt [1, 1, 1, 1, 1, 1, 1, 1] (Try.f83.body.getD .skip))
def KC_ops_Decode_46 (E : Env) (w0 : World) (x : Bool) (Q : D → DSt → Prop) : AExit → List D → DSt → Prop :=
  (retD Try.prog Try.f83 Q)
def P_ops_Decode_46 (E : Env) (w0 : World) (x : Bool) (Q : D → DSt → Prop) (x4 x7 x10 : D) (S : DSt) : Prop :=
  optW (nilD x10) fun v57 =>
  optW (offD 2 v57) fun v58 =>
  optW (loadSc S v58) fun v59 =>
  optW (binI .neq v59 (.int .i64 0)) fun v60 =>
  condD v60
  (optW (aggD (fillD [(.int .u8 0), (.int .i64 0), (.int .i64 0), .nilSlc] [])) fun v61 =>
  optW (nilD x10) fun v62 =>
  optW (offD 2 v62) fun v63 =>
  optW (loadSc S v63) fun v64 => (True) ∧
  storeD S 4 x4 v61 fun v65 S66 => (footW v63 S S66 ∧ True) ∧
  optW (loadAg S66 4 x4) fun v67 => Q (.tup [v67, (.int .i64 0), v64]) S66)
  (optW (loadAg S 4 x7) fun v68 => (True) ∧
  optW (nilD x10) fun v69 =>
  optW (offD 1 v69) fun v70 =>
  optW (loadSc S v70) fun v71 => (True) ∧
  storeD S 4 x4 v68 fun v72 S73 => (footW v70 S S73 ∧ True) ∧
  optW (loadAg S73 4 x4) fun v74 => Q (.tup [v74, v71, (.int .i64 0)]) S73)
def C_ops_Decode_46 (E : Env) (w0 : World) (x : Bool) (Q : D → DSt → Prop) (x4 x7 x10 : D) (S : DSt) : Prop := CodeD Try.prog E w0 x R_ops_Decode_46 (mkRow 120 [4, 7, 10] [x4, x7, x10]) S (KC_ops_Decode_46 E w0 x Q)
theorem C_ops_Decode_46_ok {E : Env} {w0 : World} {x : Bool} {Q : D → DSt → Prop} {x4 x7 x10 : D} {S : DSt} (h : P_ops_Decode_46 E w0 x Q x4 x7 x10 S) : C_ops_Decode_46 E w0 x Q x4 x7 x10 S := codeD_of_vc lo_ops_Decode cu_ops_Decode mixed (by kernel_rfl) h
noncomputable def L_ops_Decode_1 : Code := (codeAt [1, 1, 1, 1, 1, 1, 1, 0, 1, 0, 1, 0, 1, 0, 0] (Try.f83.body.getD .skip))
def K_ops_Decode_1 (E : Env) (w0 : World) (x : Bool) (Q : D → DSt → Prop) : AExit → List D → DSt → Prop :=
  (blockD 2 (seqD Try.prog E w0 x lo_ops_Decode cu_ops_Decode (codeAt [1, 1, 1, 1, 1, 1, 1, 0, 1, 0, 1, 1] (Try.f83.body.getD .skip)) (cutD Try.prog E w0 x 120 [4, 7, 10] R_ops_Decode_46 (retD Try.prog Try.f83 Q))))
def B_ops_Decode_1 (E : Env) (w0 : World) (x : Bool) (N1 : D → D → D → D → D → D → DSt → Prop) (Q : D → DSt → Prop) (x4 x7 x10 x13 x14 x15 : D) (S : DSt) : Prop :=
  optW (binI .gtr x15 (.int .i64 0)) fun v83 =>
  optW (valGD (wantsD v83 true) (some x10)) fun v84 =>
  optW (valGD (wantsD v83 true) (nilD v84)) fun v85 =>
  optW (valGD (wantsD v83 true) (offD 2 v85)) fun v86 =>
  optW (valGD (wantsD v83 true) (loadSc S v86)) fun v87 =>
  optW (valGD (wantsD v83 true) (binI .eql v87 (.int .i64 0))) fun v88 =>
  optW (pickD v83 v88 (.bool false)) fun v89 =>
  condD v89
  (optW (loadAg S 2 x14) fun v90 =>
  DFn Try.prog E w0 x f_ops_reader_read [x10, v90] S fun v91 S92 =>
  optW (offD 3 x7) fun v93 =>
  optW (loadSc S92 v93) fun v94 => (True) ∧
  optW (loadAg S92 2 x13) fun v95 => (True) ∧
  DF E (FnX Try.prog E w0) f_ops_reader_read [x10, v95] S92 fun v96 S97 => (footW v93 S92 S97 ∧ True) ∧
  optW (aggD (fillD [(.int .i64 0), (.int .i64 0)] [(0, 1, v91), (1, 1, v96)])) fun v98 =>
  litD S97 2 (fillR 2 (List.replicate 1 [(.int .i64 0), (.int .i64 0)]) [(0, v98)]) 1 fun v99 S100 => (footW v93 S92 S100 ∧ True) ∧
  appendD S100 2 16 v94 v99 fun v101 S102 => (True) ∧
  optW (offD 3 x7) fun v103 =>
  storeD S102 1 v103 v101 fun v104 S105 => (True) ∧
  optW (binI .sub x15 (.int .i64 1)) fun v106 =>
  N1 x4 x7 x10 x13 x14 v106 S105)
  (optW (loadAg S 2 x13) fun v107 =>
  DFn Try.prog E w0 x f_ops_reader_read [x10, v107] S fun v108 S109 =>
  optW (offD 2 x7) fun v110 =>
  storeD S109 1 v110 v108 fun v111 S112 =>
  C_ops_Decode_46 E w0 x Q x4 x7 x10 S112)
theorem B_ops_Decode_1_ok {E : Env} {w0 : World} {x : Bool} {N1 : D → D → D → D → D → D → DSt → Prop} {Q : D → DSt → Prop} {x4 x7 x10 x13 x14 x15 : D} {S : DSt} (h : B_ops_Decode_1 E w0 x N1 Q x4 x7 x10 x13 x14 x15 S) :
    CodeD Try.prog E w0 x L_ops_Decode_1 (mkRow 120 [4, 7, 10, 13, 14, 15] [x4, x7, x10, x13, x14, x15]) S (loopKD (fun T S => N1 (T.getD 4 undefD) (T.getD 7 undefD) (T.getD 10 undefD) (T.getD 13 undefD) (T.getD 14 undefD) (T.getD 15 undefD) S) (K_ops_Decode_1 E w0 x Q)) := codeD_of_vc lo_ops_Decode cu_ops_Decode mixed (by kernel_rfl) h
theorem loop_ops_Decode_1 {E : Env} {w0 : World} {x : Bool} {Q : D → DSt → Prop} (I : Nat → D → D → D → D → D → D → DSt → Prop)
    (step : ∀ n x4 x7 x10 x13 x14 x15 S, I n x4 x7 x10 x13 x14 x15 S → B_ops_Decode_1 E w0 x (fun x4 x7 x10 x13 x14 x15 S => ∃ m, m < n ∧ I m x4 x7 x10 x13 x14 x15 S) Q x4 x7 x10 x13 x14 x15 S)
    {n : Nat} {x4 x7 x10 x13 x14 x15 : D} {S : DSt} (h : I n x4 x7 x10 x13 x14 x15 S) : CodeD Try.prog E w0 x (.loop L_ops_Decode_1) (mkRow 120 [4, 7, 10, 13, 14, 15] [x4, x7, x10, x13, x14, x15]) S (K_ops_Decode_1 E w0 x Q) :=
  codeD_loop (k := 120) (n := n) (I := fun n T S => I n (T.getD 4 undefD) (T.getD 7 undefD) (T.getD 10 undefD) (T.getD 13 undefD) (T.getD 14 undefD) (T.getD 15 undefD) S) (fun n T S hl hI => codeD_row [4, 7, 10, 13, 14, 15] hl (CodeD.mono (B_ops_Decode_1_ok (step n _ _ _ _ _ _ S hI)) fun ex T' S' _ hq => by cases ex <;> exact hq)) (mkRow_length ..) (Eq.mp (by kernel_rfl) h)
noncomputable def R_ops_Decode_34 : Code := (codeAt [1, 1, 1, 1, 1, 1, 1, 0, 1, 0, 1] (Try.f83.body.getD .skip))
def KC_ops_Decode_34 (E : Env) (w0 : World) (x : Bool) (Q : D → DSt → Prop) : AExit → List D → DSt → Prop :=
  (cutD Try.prog E w0 x 120 [4, 7, 10] R_ops_Decode_46 (retD Try.prog Try.f83 Q))
def P_ops_Decode_34 (E : Env) (w0 : World) (x : Bool) (Q : D → DSt → Prop) (x4 x7 x10 x13 x14 : D) (S : DSt) : Prop :=
  DFn Try.prog E w0 x f_ops_between [(.int .i64 0), (.int .i64 65535)] S fun v78 S79 =>
  optW (aggD (fillD [(.int .i64 0), .nilFn] [(0, 1, (.int .i64 2)), (1, 1, v78)])) fun v80 =>
  DFn Try.prog E w0 x f_ops_reader_read [x10, v80] S79 fun v81 S82 =>
  CodeD Try.prog E w0 x (.loop L_ops_Decode_1) (mkRow 120 [4, 7, 10, 13, 14, 15] [x4, x7, x10, x13, x14, v81]) S82 (K_ops_Decode_1 E w0 x Q)
def C_ops_Decode_34 (E : Env) (w0 : World) (x : Bool) (Q : D → DSt → Prop) (x4 x7 x10 x13 x14 : D) (S : DSt) : Prop := CodeD Try.prog E w0 x R_ops_Decode_34 (mkRow 120 [4, 7, 10, 13, 14] [x4, x7, x10, x13, x14]) S (KC_ops_Decode_34 E w0 x Q)
theorem C_ops_Decode_34_ok {E : Env} {w0 : World} {x : Bool} {Q : D → DSt → Prop} {x4 x7 x10 x13 x14 : D} {S : DSt} (h : P_ops_Decode_34 E w0 x Q x4 x7 x10 x13 x14 S) : C_ops_Decode_34 E w0 x Q x4 x7 x10 x13 x14 S := codeD_of_vc lo_ops_Decode cu_ops_Decode mixed (by kernel_rfl) h
noncomputable def L_ops_Decode_0 : Code := (codeAt [1, 1, 1, 1, 1, 1, 0, 1, 0, 0] (Try.f83.body.getD .skip))
def K_ops_Decode_0 (E : Env) (w0 : World) (x : Bool) (Q : D → DSt → Prop) : AExit → List D → DSt → Prop :=
  (blockD 0 (seqD Try.prog E w0 x lo_ops_Decode cu_ops_Decode (codeAt [1, 1, 1, 1, 1, 1, 1] (Try.f83.body.getD .skip)) (retD Try.prog Try.f83 Q)))
def B_ops_Decode_0 (E : Env) (w0 : World) (x : Bool) (N0 : D → D → D → D → D → D → DSt → Prop) (Q : D → DSt → Prop) (x4 x7 x10 x45 x46 x47 : D) (S : DSt) : Prop :=
  optW (binI .lss x47 x46) fun v35 =>
  condD v35
  (optW (idxSl 2 x45 x47) fun v36 =>
  optW (loadAg S 2 v36) fun v37 =>
  allocD S [(.int .i64 0), .nilFn] fun v38 S39 =>
  storeD S39 2 v38 v37 fun v40 S41 =>
  optW (binI .eql x47 (.int .i64 0)) fun v42 =>
  condD v42
  (optW (loadAg S41 2 v38) fun v43 =>
  DFn Try.prog E w0 x f_ops_reader_read [x10, v43] S41 fun v44 S45 =>
  optW (offD 1 x7) fun v46 =>
  storeD S45 1 v46 v44 fun v47 S48 =>
  optW (binI .add x47 (.int .i64 1)) fun v49 =>
  N0 x4 x7 x10 x45 x46 v49 S48)
  (optW (loadAg S41 2 v38) fun v50 =>
  DFn Try.prog E w0 x f_ops_reader_read [x10, v50] S41 fun v51 S52 =>
  optW (offD 2 x7) fun v53 =>
  storeD S52 1 v53 v51 fun v54 S55 =>
  optW (binI .add x47 (.int .i64 1)) fun v56 =>
  N0 x4 x7 x10 x45 x46 v56 S55))
  (optW (offD 0 x7) fun v75 =>
  optW (loadSc S v75) fun v76 =>
  optW (binI .eql v76 (.int .u8 49)) fun v77 =>
  condD v77
  (x = false ∧ (DF E (FnX Try.prog E w0) f_ops_between [(.int .i64 0), (.int .i64 4294967295)] S fun v113 S114 => (True) ∧
  optW (aggD (fillD [(.int .i64 0), .nilFn] [(0, 1, (.int .i64 4)), (1, 1, v113)])) fun v115 =>
  optW (offD 1 x7) fun v116 =>
  optW (loadSc S114 v116) fun v117 => ((loadSc S (orAny (offD 1 x7)) ≠ none ∧ footW (orAny (offD 1 x7)) S S114) ∧ True) ∧
  optW (convI .u8 v117) fun v118 =>
  DF E (FnX Try.prog E w0) f_ops_fits [v118] S114 fun v119 S120 => (True) ∧
  optW (aggD (fillD [(.int .i64 0), .nilFn] [(0, 1, (.int .i64 8)), (1, 1, v119)])) fun v121 =>
  allocD S120 [(.int .i64 0), .nilFn] fun v122 S123 => (True) ∧
  allocD S123 [(.int .i64 0), .nilFn] fun v124 S125 => (True) ∧
  storeD S125 2 v122 v115 fun v126 S127 => (True) ∧
  storeD S127 2 v124 v121 fun v128 S129 => (True) ∧
  C_ops_Decode_34 E w0 x Q x4 x7 x10 v122 v124 S129) ∧
  (DF E (FnX Try.prog E w0) f_ops_between [(.int .i64 0), (.int .i64 4294967295)] S fun v130 S131 => (True) ∧
  optW (aggD (fillD [(.int .i64 0), .nilFn] [(0, 1, (.int .i64 4)), (1, 1, v130)])) fun v132 =>
  optW (offD 1 x7) fun v133 =>
  optW (loadSc S131 v133) fun v134 => ((loadSc S (orAny (offD 1 x7)) ≠ none ∧ footW (orAny (offD 1 x7)) S S131) ∧ True) ∧
  optW (convI .u8 v134) fun v135 =>
  DF E (FnX Try.prog E w0) f_ops_fits [v135] S131 fun v136 S137 => (True) ∧
  optW (aggD (fillD [(.int .i64 0), .nilFn] [(0, 1, (.int .i64 8)), (1, 1, v136)])) fun v138 =>
  allocD S137 [(.int .i64 0), .nilFn] fun v139 S140 => (True) ∧
  allocD S140 [(.int .i64 0), .nilFn] fun v141 S142 => (True) ∧
  storeD S142 2 v141 v132 fun v143 S144 => (True) ∧
  storeD S144 2 v139 v138 fun v145 S146 => (True) ∧
  C_ops_Decode_34 E w0 x Q x4 x7 x10 v141 v139 S146) ∧
  (DF E (FnX Try.prog E w0) f_ops_between [(.int .i64 0), (.int .i64 4294967295)] S fun v147 S148 => (True) ∧
  optW (aggD (fillD [(.int .i64 0), .nilFn] [(0, 1, (.int .i64 4)), (1, 1, v147)])) fun v149 =>
  optW (offD 1 x7) fun v150 =>
  optW (loadSc S148 v150) fun v151 => ((loadSc S (orAny (offD 1 x7)) ≠ none ∧ footW (orAny (offD 1 x7)) S S148) ∧ True) ∧
  optW (convI .u8 v151) fun v152 =>
  allocD S148 [(.int .i64 0), .nilFn] fun v153 S154 => (footW v150 S148 S154 ∧ True) ∧
  DF E (FnX Try.prog E w0) f_ops_fits [v152] S154 fun v155 S156 => (True) ∧
  optW (aggD (fillD [(.int .i64 0), .nilFn] [(0, 1, (.int .i64 8)), (1, 1, v155)])) fun v157 =>
  allocD S156 [(.int .i64 0), .nilFn] fun v158 S159 => (True) ∧
  storeD S159 2 v158 v149 fun v160 S161 => (True) ∧
  storeD S161 2 v153 v157 fun v162 S163 => (True) ∧
  C_ops_Decode_34 E w0 x Q x4 x7 x10 v158 v153 S163) ∧
  (DF E (FnX Try.prog E w0) f_ops_between [(.int .i64 0), (.int .i64 4294967295)] S fun v164 S165 => (True) ∧
  optW (aggD (fillD [(.int .i64 0), .nilFn] [(0, 1, (.int .i64 4)), (1, 1, v164)])) fun v166 =>
  optW (offD 1 x7) fun v167 =>
  optW (loadSc S165 v167) fun v168 => ((loadSc S (orAny (offD 1 x7)) ≠ none ∧ footW (orAny (offD 1 x7)) S S165) ∧ True) ∧
  optW (convI .u8 v168) fun v169 =>
  allocD S165 [(.int .i64 0), .nilFn] fun v170 S171 => (footW v167 S165 S171 ∧ True) ∧
  DF E (FnX Try.prog E w0) f_ops_fits [v169] S171 fun v172 S173 => (True) ∧
  optW (aggD (fillD [(.int .i64 0), .nilFn] [(0, 1, (.int .i64 8)), (1, 1, v172)])) fun v174 =>
  allocD S173 [(.int .i64 0), .nilFn] fun v175 S176 => (True) ∧
  storeD S176 2 v170 v166 fun v177 S178 => (True) ∧
  storeD S178 2 v175 v174 fun v179 S180 => (True) ∧
  C_ops_Decode_34 E w0 x Q x4 x7 x10 v170 v175 S180) ∧
  (DF E (FnX Try.prog E w0) f_ops_between [(.int .i64 0), (.int .i64 4294967295)] S fun v181 S182 => (True) ∧
  optW (aggD (fillD [(.int .i64 0), .nilFn] [(0, 1, (.int .i64 4)), (1, 1, v181)])) fun v183 =>
  optW (offD 1 x7) fun v184 =>
  optW (loadSc S182 v184) fun v185 => ((loadSc S (orAny (offD 1 x7)) ≠ none ∧ footW (orAny (offD 1 x7)) S S182) ∧ True) ∧
  optW (convI .u8 v185) fun v186 =>
  allocD S182 [(.int .i64 0), .nilFn] fun v187 S188 => (footW v184 S182 S188 ∧ True) ∧
  allocD S188 [(.int .i64 0), .nilFn] fun v189 S190 => (footW v184 S182 S190 ∧ True) ∧
  DF E (FnX Try.prog E w0) f_ops_fits [v186] S190 fun v191 S192 => (True) ∧
  optW (aggD (fillD [(.int .i64 0), .nilFn] [(0, 1, (.int .i64 8)), (1, 1, v191)])) fun v193 =>
  storeD S192 2 v187 v183 fun v194 S195 => (True) ∧
  storeD S195 2 v189 v193 fun v196 S197 => (True) ∧
  C_ops_Decode_34 E w0 x Q x4 x7 x10 v187 v189 S197) ∧
  (DF E (FnX Try.prog E w0) f_ops_between [(.int .i64 0), (.int .i64 4294967295)] S fun v198 S199 => (True) ∧
  optW (aggD (fillD [(.int .i64 0), .nilFn] [(0, 1, (.int .i64 4)), (1, 1, v198)])) fun v200 =>
  optW (offD 1 x7) fun v201 =>
  optW (loadSc S199 v201) fun v202 => ((loadSc S (orAny (offD 1 x7)) ≠ none ∧ footW (orAny (offD 1 x7)) S S199) ∧ True) ∧
  optW (convI .u8 v202) fun v203 =>
  allocD S199 [(.int .i64 0), .nilFn] fun v204 S205 => (footW v201 S199 S205 ∧ True) ∧
  allocD S205 [(.int .i64 0), .nilFn] fun v206 S207 => (footW v201 S199 S207 ∧ True) ∧
  DF E (FnX Try.prog E w0) f_ops_fits [v203] S207 fun v208 S209 => (True) ∧
  optW (aggD (fillD [(.int .i64 0), .nilFn] [(0, 1, (.int .i64 8)), (1, 1, v208)])) fun v210 =>
  storeD S209 2 v206 v200 fun v211 S212 => (True) ∧
  storeD S212 2 v204 v210 fun v213 S214 => (True) ∧
  C_ops_Decode_34 E w0 x Q x4 x7 x10 v206 v204 S214) ∧
  (optW (offD 1 x7) fun v215 =>
  optW (loadSc S v215) fun v216 => (True) ∧
  optW (convI .u8 v216) fun v217 =>
  allocD S [(.int .i64 0), .nilFn] fun v218 S219 => (footW v215 S S219 ∧ True) ∧
  DF E (FnX Try.prog E w0) f_ops_between [(.int .i64 0), (.int .i64 4294967295)] S219 fun v220 S221 => (footW v215 S S221 ∧ True) ∧
  optW (aggD (fillD [(.int .i64 0), .nilFn] [(0, 1, (.int .i64 4)), (1, 1, v220)])) fun v222 =>
  DF E (FnX Try.prog E w0) f_ops_fits [v217] S221 fun v223 S224 => (True) ∧
  optW (aggD (fillD [(.int .i64 0), .nilFn] [(0, 1, (.int .i64 8)), (1, 1, v223)])) fun v225 =>
  allocD S224 [(.int .i64 0), .nilFn] fun v226 S227 => (True) ∧
  storeD S227 2 v226 v222 fun v228 S229 => (True) ∧
  storeD S229 2 v218 v225 fun v230 S231 => (True) ∧
  C_ops_Decode_34 E w0 x Q x4 x7 x10 v226 v218 S231) ∧
  (optW (offD 1 x7) fun v232 =>
  optW (loadSc S v232) fun v233 => (True) ∧
  optW (convI .u8 v233) fun v234 =>
  allocD S [(.int .i64 0), .nilFn] fun v235 S236 => (footW v232 S S236 ∧ True) ∧
  DF E (FnX Try.prog E w0) f_ops_between [(.int .i64 0), (.int .i64 4294967295)] S236 fun v237 S238 => (footW v232 S S238 ∧ True) ∧
  optW (aggD (fillD [(.int .i64 0), .nilFn] [(0, 1, (.int .i64 4)), (1, 1, v237)])) fun v239 =>
  allocD S238 [(.int .i64 0), .nilFn] fun v240 S241 => (footW v232 S S241 ∧ True) ∧
  DF E (FnX Try.prog E w0) f_ops_fits [v234] S241 fun v242 S243 => (True) ∧
  optW (aggD (fillD [(.int .i64 0), .nilFn] [(0, 1, (.int .i64 8)), (1, 1, v242)])) fun v244 =>
  storeD S243 2 v240 v239 fun v245 S246 => (True) ∧
  storeD S246 2 v235 v244 fun v247 S248 => (True) ∧
  C_ops_Decode_34 E w0 x Q x4 x7 x10 v240 v235 S248) ∧
  (optW (offD 1 x7) fun v249 =>
  optW (loadSc S v249) fun v250 => (True) ∧
  optW (convI .u8 v250) fun v251 =>
  allocD S [(.int .i64 0), .nilFn] fun v252 S253 => (footW v249 S S253 ∧ True) ∧
  DF E (FnX Try.prog E w0) f_ops_between [(.int .i64 0), (.int .i64 4294967295)] S253 fun v254 S255 => (footW v249 S S255 ∧ True) ∧
  optW (aggD (fillD [(.int .i64 0), .nilFn] [(0, 1, (.int .i64 4)), (1, 1, v254)])) fun v256 =>
  DF E (FnX Try.prog E w0) f_ops_fits [v251] S255 fun v257 S258 => (True) ∧
  optW (aggD (fillD [(.int .i64 0), .nilFn] [(0, 1, (.int .i64 8)), (1, 1, v257)])) fun v259 =>
  allocD S258 [(.int .i64 0), .nilFn] fun v260 S261 => (True) ∧
  storeD S261 2 v252 v256 fun v262 S263 => (True) ∧
  storeD S263 2 v260 v259 fun v264 S265 => (True) ∧
  C_ops_Decode_34 E w0 x Q x4 x7 x10 v252 v260 S265) ∧
  (optW (offD 1 x7) fun v266 =>
  optW (loadSc S v266) fun v267 => (True) ∧
  optW (convI .u8 v267) fun v268 =>
  allocD S [(.int .i64 0), .nilFn] fun v269 S270 => (footW v266 S S270 ∧ True) ∧
  DF E (FnX Try.prog E w0) f_ops_between [(.int .i64 0), (.int .i64 4294967295)] S270 fun v271 S272 => (footW v266 S S272 ∧ True) ∧
  optW (aggD (fillD [(.int .i64 0), .nilFn] [(0, 1, (.int .i64 4)), (1, 1, v271)])) fun v273 =>
  allocD S272 [(.int .i64 0), .nilFn] fun v274 S275 => (footW v266 S S275 ∧ True) ∧
  DF E (FnX Try.prog E w0) f_ops_fits [v268] S275 fun v276 S277 => (True) ∧
  optW (aggD (fillD [(.int .i64 0), .nilFn] [(0, 1, (.int .i64 8)), (1, 1, v276)])) fun v278 =>
  storeD S277 2 v269 v273 fun v279 S280 => (True) ∧
  storeD S280 2 v274 v278 fun v281 S282 => (True) ∧
  C_ops_Decode_34 E w0 x Q x4 x7 x10 v269 v274 S282) ∧
  (optW (offD 1 x7) fun v283 =>
  optW (loadSc S v283) fun v284 => (True) ∧
  optW (convI .u8 v284) fun v285 =>
  allocD S [(.int .i64 0), .nilFn] fun v286 S287 => (footW v283 S S287 ∧ True) ∧
  allocD S287 [(.int .i64 0), .nilFn] fun v288 S289 => (footW v283 S S289 ∧ True) ∧
  DF E (FnX Try.prog E w0) f_ops_between [(.int .i64 0), (.int .i64 4294967295)] S289 fun v290 S291 => (footW v283 S S291 ∧ True) ∧
  optW (aggD (fillD [(.int .i64 0), .nilFn] [(0, 1, (.int .i64 4)), (1, 1, v290)])) fun v292 =>
  DF E (FnX Try.prog E w0) f_ops_fits [v285] S291 fun v293 S294 => (True) ∧
  optW (aggD (fillD [(.int .i64 0), .nilFn] [(0, 1, (.int .i64 8)), (1, 1, v293)])) fun v295 =>
  storeD S294 2 v286 v292 fun v296 S297 => (True) ∧
  storeD S297 2 v288 v295 fun v298 S299 => (True) ∧
  C_ops_Decode_34 E w0 x Q x4 x7 x10 v286 v288 S299) ∧
  (optW (offD 1 x7) fun v300 =>
  optW (loadSc S v300) fun v301 => (True) ∧
  optW (convI .u8 v301) fun v302 =>
  allocD S [(.int .i64 0), .nilFn] fun v303 S304 => (footW v300 S S304 ∧ True) ∧
  allocD S304 [(.int .i64 0), .nilFn] fun v305 S306 => (footW v300 S S306 ∧ True) ∧
  DF E (FnX Try.prog E w0) f_ops_between [(.int .i64 0), (.int .i64 4294967295)] S306 fun v307 S308 => (footW v300 S S308 ∧ True) ∧
  optW (aggD (fillD [(.int .i64 0), .nilFn] [(0, 1, (.int .i64 4)), (1, 1, v307)])) fun v309 =>
  DF E (FnX Try.prog E w0) f_ops_fits [v302] S308 fun v310 S311 => (True) ∧
  optW (aggD (fillD [(.int .i64 0), .nilFn] [(0, 1, (.int .i64 8)), (1, 1, v310)])) fun v312 =>
  storeD S311 2 v305 v309 fun v313 S314 => (True) ∧
  storeD S314 2 v303 v312 fun v315 S316 => (True) ∧
  C_ops_Decode_34 E w0 x Q x4 x7 x10 v305 v303 S316) ∧
  True)
  (C_ops_Decode_46 E w0 x Q x4 x7 x10 S))
theorem B_ops_Decode_0_ok {E : Env} {w0 : World} {x : Bool} {N0 : D → D → D → D → D → D → DSt → Prop} {Q : D → DSt → Prop} {x4 x7 x10 x45 x46 x47 : D} {S : DSt} (h : B_ops_Decode_0 E w0 x N0 Q x4 x7 x10 x45 x46 x47 S) :
    CodeD Try.prog E w0 x L_ops_Decode_0 (mkRow 120 [4, 7, 10, 45, 46, 47] [x4, x7, x10, x45, x46, x47]) S (loopKD (fun T S => N0 (T.getD 4 undefD) (T.getD 7 undefD) (T.getD 10 undefD) (T.getD 45 undefD) (T.getD 46 undefD) (T.getD 47 undefD) S) (K_ops_Decode_0 E w0 x Q)) := codeD_of_vc lo_ops_Decode cu_ops_Decode mixed (by kernel_rfl) h
theorem loop_ops_Decode_0 {E : Env} {w0 : World} {x : Bool} {Q : D → DSt → Prop} (I : Nat → D → D → D → D → D → D → DSt → Prop)
    (step : ∀ n x4 x7 x10 x45 x46 x47 S, I n x4 x7 x10 x45 x46 x47 S → B_ops_Decode_0 E w0 x (fun x4 x7 x10 x45 x46 x47 S => ∃ m, m < n ∧ I m x4 x7 x10 x45 x46 x47 S) Q x4 x7 x10 x45 x46 x47 S)
    {n : Nat} {x4 x7 x10 x45 x46 x47 : D} {S : DSt} (h : I n x4 x7 x10 x45 x46 x47 S) : CodeD Try.prog E w0 x (.loop L_ops_Decode_0) (mkRow 120 [4, 7, 10, 45, 46, 47] [x4, x7, x10, x45, x46, x47]) S (K_ops_Decode_0 E w0 x Q) :=
  codeD_loop (k := 120) (n := n) (I := fun n T S => I n (T.getD 4 undefD) (T.getD 7 undefD) (T.getD 10 undefD) (T.getD 45 undefD) (T.getD 46 undefD) (T.getD 47 undefD) S) (fun n T S hl hI => codeD_row [4, 7, 10, 45, 46, 47] hl (CodeD.mono (B_ops_Decode_0_ok (step n _ _ _ _ _ _ S hI)) fun ex T' S' _ hq => by cases ex <;> exact hq)) (mkRow_length ..) (Eq.mp (by kernel_rfl) h)
def V_ops_Decode (E : Env) (w0 : World) (x : Bool) (Q : D → DSt → Prop) (a0 a1 : D) (S : DSt) : Prop :=
  allocD S [(.int .u8 0), (.int .i64 0), (.int .i64 0), .nilSlc] fun v0 S1 =>
  optW (binI .lss a1 (.int .i64 0)) fun v2 =>
  optW (valGD (wantsD v2 false) (some a1)) fun v3 =>
  optW (valGD (wantsD v2 false) (some a0)) fun v4 =>
  optW (valGD (wantsD v2 false) (lenSl v4)) fun v5 =>
  optW (valGD (wantsD v2 false) (binI .geq v3 v5)) fun v6 =>
  optW (pickD v2 (.bool true) v6) fun v7 =>
  condD v7
  (optW (aggD (fillD [(.int .u8 0), (.int .i64 0), (.int .i64 0), .nilSlc] [])) fun v8 =>
  storeD S1 4 v0 v8 fun v9 S10 =>
  optW (loadAg S10 4 v0) fun v11 => Q (.tup [v11, (.int .i64 0), (.int .i64 2)]) S10)
  (optW (idxSl 1 a0 a1) fun v12 =>
  optW (loadSc S1 v12) fun v13 =>
  optW (aggD (fillD [(.int .u8 0), (.int .i64 0), (.int .i64 0), .nilSlc] [(0, 1, v13)])) fun v14 =>
  allocD S1 [(.int .u8 0), (.int .i64 0), (.int .i64 0), .nilSlc] fun v15 S16 =>
  storeD S16 4 v15 v14 fun v17 S18 =>
  optW (offD 0 v15) fun v19 =>
  optW (loadSc S18 v19) fun v20 =>
  DFn Try.prog E w0 x f_ops_layout [v20] S18 fun v21 S22 =>
  optW (extractD v21 0) fun v23 =>
  optW (extractD v21 1) fun v24 =>
  optW (unD .not v24) fun v25 =>
  condD v25
  (optW (aggD (fillD [(.int .u8 0), (.int .i64 0), (.int .i64 0), .nilSlc] [])) fun v26 =>
  storeD S22 4 v0 v26 fun v27 S28 =>
  optW (loadAg S28 4 v0) fun v29 => Q (.tup [v29, (.int .i64 0), (.int .i64 120)]) S28)
  (optW (binI .add a1 (.int .i64 1)) fun v30 =>
  optW (aggD (fillD [.nilSlc, (.int .i64 0), (.int .i64 0)] [(0, 1, a0), (1, 1, v30)])) fun v31 =>
  optW (cellsD v31) fun cs => allocD S22 cs fun v32 S33 =>
  optW (lenSl v23) fun v34 =>
  CodeD Try.prog E w0 x (.loop L_ops_Decode_0) (mkRow 120 [4, 7, 10, 45, 46, 47] [v0, v15, v32, v23, v34, (.int .i64 0)]) S33 (K_ops_Decode_0 E w0 x Q)))
theorem V_ops_Decode_ok {E : Env} {w0 : World} {x : Bool} {Q : D → DSt → Prop} {a0 a1 : D} {S : DSt} (h : V_ops_Decode E w0 x (FinD E Q) a0 a1 S) : DFn Try.prog E w0 x f_ops_Decode [a0, a1] S Q :=
  fnD_of_vc lo_ops_Decode cu_ops_Decode (fn := Try.f83) (c := Try.f83.body.getD .skip) mixed Try.func83 (by kernel_rfl) (by kernel_rfl) h

/- trammel/ops.All -/
def lo_ops_All : List (Nat × List Nat) := [(8, [0, 5, 6, 7])]
def cu_ops_All : List (Nat × List Nat) := []
noncomputable def L_ops_All_0 : Code := (codeAt [1, 1, 1, 0, 1, 0, 0] (Try.f74.body.getD .skip))
def K_ops_All_0 (E : Env) (w0 : World) (x : Bool) (Q : D → DSt → Prop) : AExit → List D → DSt → Prop :=
  (blockD 0 (seqD Try.prog E w0 x lo_ops_All cu_ops_All (codeAt [1, 1, 1, 1] (Try.f74.body.getD .skip)) (retD Try.prog Try.f74 Q)))
def B_ops_All_0 (E : Env) (w0 : World) (x : Bool) (N0 : D → D → D → D → DSt → Prop) (Q : D → DSt → Prop) (x0 x5 x6 x7 : D) (S : DSt) : Prop :=
  optW (lenSl x0) fun v0 =>
  optW (binI .lss x7 v0) fun v1 =>
  condD v1
  (DFn Try.prog E w0 x f_ops_Decode [x0, x7] S fun v2 S3 =>
  optW (extractD v2 0) fun v4 =>
  optW (extractD v2 1) fun v5 =>
  optW (extractD v2 2) fun v6 =>
  allocD S3 [(.int .u8 0), (.int .i64 0), (.int .i64 0), .nilSlc] fun v7 S8 =>
  storeD S8 4 v7 v4 fun v9 S10 =>
  optW (binI .neq v6 (.int .i64 0)) fun v11 =>
  condD v11
  (Q (.tup [.nilSlc, .nilSlc, v6]) S10)
  (optW (loadAg S10 4 v7) fun v12 =>
  litD S10 4 (fillR 4 (List.replicate 1 [(.int .u8 0), (.int .i64 0), (.int .i64 0), .nilSlc]) [(0, v12)]) 1 fun v13 S14 =>
  appendD S14 4 48 x5 v13 fun v15 S16 =>
  litD S16 1 (fillR 1 (List.replicate 1 [(.int .i64 0)]) [(0, x7)]) 1 fun v17 S18 =>
  appendD S18 1 8 x6 v17 fun v19 S20 =>
  N0 x0 v15 v19 v5 S20))
  (Q (.tup [x5, x6, (.int .i64 0)]) S)
theorem B_ops_All_0_ok {E : Env} {w0 : World} {x : Bool} {N0 : D → D → D → D → DSt → Prop} {Q : D → DSt → Prop} {x0 x5 x6 x7 : D} {S : DSt} (h : B_ops_All_0 E w0 x N0 Q x0 x5 x6 x7 S) :
    CodeD Try.prog E w0 x L_ops_All_0 (mkRow 36 [0, 5, 6, 7] [x0, x5, x6, x7]) S (loopKD (fun T S => N0 (T.getD 0 undefD) (T.getD 5 undefD) (T.getD 6 undefD) (T.getD 7 undefD) S) (K_ops_All_0 E w0 x Q)) := codeD_of_vc lo_ops_All cu_ops_All mixed (by kernel_rfl) h
theorem loop_ops_All_0 {E : Env} {w0 : World} {x : Bool} {Q : D → DSt → Prop} (I : Nat → D → D → D → D → DSt → Prop)
    (step : ∀ n x0 x5 x6 x7 S, I n x0 x5 x6 x7 S → B_ops_All_0 E w0 x (fun x0 x5 x6 x7 S => ∃ m, m < n ∧ I m x0 x5 x6 x7 S) Q x0 x5 x6 x7 S)
    {n : Nat} {x0 x5 x6 x7 : D} {S : DSt} (h : I n x0 x5 x6 x7 S) : CodeD Try.prog E w0 x (.loop L_ops_All_0) (mkRow 36 [0, 5, 6, 7] [x0, x5, x6, x7]) S (K_ops_All_0 E w0 x Q) :=
  codeD_loop (k := 36) (n := n) (I := fun n T S => I n (T.getD 0 undefD) (T.getD 5 undefD) (T.getD 6 undefD) (T.getD 7 undefD) S) (fun n T S hl hI => codeD_row [0, 5, 6, 7] hl (CodeD.mono (B_ops_All_0_ok (step n _ _ _ _ S hI)) fun ex T' S' _ hq => by cases ex <;> exact hq)) (mkRow_length ..) (Eq.mp (by kernel_rfl) h)
def V_ops_All (E : Env) (w0 : World) (x : Bool) (Q : D → DSt → Prop) (a0 : D) (S : DSt) : Prop :=
  CodeD Try.prog E w0 x (.loop L_ops_All_0) (mkRow 36 [0, 5, 6, 7] [a0, .nilSlc, .nilSlc, (.int .i64 0)]) S (K_ops_All_0 E w0 x Q)
theorem V_ops_All_ok {E : Env} {w0 : World} {x : Bool} {Q : D → DSt → Prop} {a0 : D} {S : DSt} (h : V_ops_All E w0 x (FinD E Q) a0 S) : DFn Try.prog E w0 x f_ops_All [a0] S Q :=
  fnD_of_vc lo_ops_All cu_ops_All (fn := Try.f74) (c := Try.f74.body.getD .skip) mixed Try.func74 (by kernel_rfl) (by kernel_rfl) h
end Go.Proofs.Ytchnpgddpaonhaa.d
end

section
open Go.Proofs Go Go.Am Go.Op
namespace Go.Proofs.Ytchnpgddpaonhaa.d
set_option linter.unusedVariables false
set_option linter.unusedSimpArgs false
set_option maxRecDepth 100000
/-- A reader's cells. -/
def rdC (bs : List Int) (s : Nat × Int) : List D := [bD bs, .int .i64 (s.1 : Int), .int .i64 s.2]
theorem pow8 {s : Nat} (h : s < 8) : (2 : Nat) ^ (8 * s) ≤ 2 ^ 56 := Nat.pow_le_pow_right (by decide) (by omega)
section
variable {E : Env} {w0 : World} {x : Bool}
theorem ops_read_ok {bs : List Int} (hb : ∀ b ∈ bs, Byte b) (hl : bs.length < 2 ^ 60) {s : Nat × Int} (hs : s.1 ≤ bs.length) {row : List D} {f : Fld} (hf : FldD row f) (h1 : 1 ≤ f.size) (h8 : f.size ≤ 8) {S : DSt} {k : Nat} {acs : List AV} (hk : S k = some ⟨3, [rdC bs s], acs⟩) :
    DFn Try.prog E w0 x f_ops_reader_read [.ptr k 0, .agg row] S fun v S' => v = .int .i64 (rdS bs f s).1 ∧ ∃ acs', S' = S.set k ⟨3, [rdC bs (rdS bs f s).2], acs'⟩ := by
  obtain ⟨fv, rfl, hm⟩ := hf
  refine V_ops_reader_read_ok ?_
  unfold V_ops_reader_read
  rw [clA, oD]
  intro k0 a0 n0
  have d : k ≠ k0 := DSt.ne_of hk n0
  generalize hS1 : S.set k0 _ = S1
  have bk : S1 k = some ⟨3, [rdC bs s], acs⟩ := by rw [← hS1, DSt.set_ne _ _ _ d]; exact hk
  have b0 : S1 k0 = some ⟨2, [[.int .i64 (f.size : Int), fv]], a0⟩ := by rw [← hS1]; exact DSt.set_same _ _ _
  have drop : ∀ {o : DObj} {Q : D → DSt → Prop} {v : D}, FinD E Q v (S.set k o) → FinD E Q v (S1.set k o) := fun {o Q v} h => by
    rw [← hS1, DSt.set_comm _ (Ne.symm d)]
    exact FinD.drop (by rw [DSt.set_ne _ _ _ (Ne.symm d)]; exact n0) h
  have l2 : loadSc S1 (.ptr k 2) = some (.int .i64 s.2) := ldP bk
  have l1 : loadSc S1 (.ptr k 1) = some (.int .i64 (s.1 : Int)) := ldP bk
  have l0 : loadSc S1 (.ptr k 0) = some (bD bs) := ldP bk
  have m0 : loadSc S1 (.ptr k0 0) = some (.int .i64 (f.size : Int)) := ldP b0
  have m1 : loadSc S1 (.ptr k0 1) = some fv := ldP b0
  simp only [ndP, ofP, oD, Nat.zero_add, l2, l1, l0, m0, biNe]
  rw [bneD, cdI]
  refine ⟨fun he => ?_, fun he => ?_⟩
  · rw [rdS_err he, ← hS1]
    exact FinD.drop n0 (FinD.here ⟨rfl, acs, (DSt.set_self hk).symm⟩)
  have he : s.2 = 0 := Classical.not_not.1 he
  refine ⟨by trivial, by trivial, by trivial, (wire_Wide_ok hb hl hs h1 h8).useX ⟨by trivial, ?_⟩⟩
  have hset : ∀ n m : Int, setManyD (rdC bs (s.1, n)) 2 [.int .i64 m] = rdC bs (s.1, m) := fun _ _ => rfl
  have hset1 : ∀ m : Nat, setManyD (rdC bs s) 1 [.int .i64 (m : Int)] = rdC bs (m, s.2) := fun _ => rfl
  by_cases hsh : bs.length < s.1 + f.size
  · rw [if_pos hsh]
    have e : rdS bs f s = (0, s.1, 10) := by unfold rdS; rw [if_neg (by simp [he]), if_pos hsh]
    simp only [exD, List.getElem?_cons_zero, List.getElem?_cons_succ, oD, biNe]
    rw [show ((10 : Int) != 0) = true from rfl, cdT]
    refine stP bk (clI _ _) ⟨rfl, by decide, by simp [rdC]⟩ fun acs' => drop (FinD.here ?_)
    rw [e]
    exact ⟨rfl, acs', rfl⟩
  rw [if_neg hsh]
  simp only [exD, List.getElem?_cons_zero, List.getElem?_cons_succ, oD, biNe, cvI]
  rw [show ((0 : Int) != 0) = false from rfl, cdF]
  obtain ⟨u, hu⟩ : ∃ u, u = leN ((bs.drop s.1).take f.size) := ⟨_, rfl⟩
  have hur : rdS bs f s = match rdN f u with | some n => (n, s.1 + f.size, 0) | none => (0, s.1, 120) := by
    unfold rdS; rw [if_neg (by simp [he]), if_neg hsh, ← hu]
    cases rdN f u <;> rfl
  have hult : u < 2 ^ (8 * f.size) := by
    rw [hu]
    have hbs : ∀ b ∈ (bs.drop s.1).take f.size, Byte b := fun b hb' => hb b (List.mem_of_mem_drop (List.mem_of_mem_take hb'))
    have := leN_lt hbs
    rwa [show ((bs.drop s.1).take f.size).length = f.size by rw [List.length_take, List.length_drop]; omega] at this
  rw [← hu]
  obtain ⟨n, hn⟩ : ∃ n, n = IntKind.i64.wrap (u : Int) := ⟨_, rfl⟩
  have hn64 : I64 n := by rw [hn]; exact i64_of_wrap _
  rw [← hn, m1, oD]
  -- the end
  have tail : ∀ n' : Int, I64 n' → n' = (if f.may n = false ∧ f.size < 8 then n - 2 ^ (8 * f.size) else n) → C_ops_reader_read_20 E w0 x (FinD E fun v S' => v = .int .i64 (rdS bs f s).1 ∧ ∃ acs', S' = S.set k ⟨3, [rdC bs (rdS bs f s).2], acs'⟩) (.ptr k 0) (.ptr k0 0) (.int .i64 ((s.1 + f.size : Nat) : Int)) (.int .i64 n') S1 := fun n' hn' he' => by
    refine C_ops_reader_read_20_ok ?_
    unfold P_ops_reader_read_20
    simp only [ofP, oD, Nat.zero_add, m1]
    refine may_call hm hn' ?_
    rw [unN, oD]
    have hrd : rdN f u = if f.may n' = true then some n' else none := by
      unfold rdN; simp only; rw [← hn, ← he']
    have hmm : decide (f.lo ≤ n' ∧ n' ≤ f.hi) = f.may n' := rfl
    rw [hmm, cdB]
    refine ⟨fun hf => ?_, fun hf => ?_⟩
    · have hf : f.may n' = false := by simpa using hf
      rw [hf, if_neg (by decide)] at hrd
      rw [hrd] at hur
      simp only [ndP, ofP, oD, Nat.zero_add]
      refine stP bk (clI _ _) ⟨rfl, by decide, by simp [rdC]⟩ fun acs' => drop (FinD.here ?_)
      rw [hur]
      exact ⟨rfl, acs', rfl⟩
    · have hf : f.may n' = true := by simpa using hf
      rw [if_pos hf] at hrd
      rw [hrd] at hur
      simp only [ndP, ofP, oD, Nat.zero_add]
      refine stP bk (clI _ _) ⟨rfl, by decide, by simp [rdC]⟩ fun acs' => drop (FinD.here ?_)
      rw [hur, hset1, he]
      exact ⟨rfl, acs', rfl⟩
  refine may_call hm hn64 ?_
  have hmm : decide (f.lo ≤ n ∧ n ≤ f.hi) = f.may n := rfl
  rw [hmm, unN, oD]
  have e8 : decide ((f.size : Int) < 8) = decide (f.size < 8) := decide_eq_decide.2 (by omega)
  have key : (optW (binI .mul (.int .i64 8) (.int .i64 (f.size : Int))) fun v49 => optW (binI .shl (.int .i64 1) v49) fun v50 => optW (binI .sub (.int .i64 n) v50) fun v51 => C_ops_reader_read_20 E w0 x (FinD E fun v S' => v = .int .i64 (rdS bs f s).1 ∧ ∃ acs', S' = S.set k ⟨3, [rdC bs (rdS bs f s).2], acs'⟩) (.ptr k 0) (.ptr k0 0) (.int .i64 ((s.1 + f.size : Nat) : Int)) v51 S1) ∨ ¬ (f.may n = false ∧ f.size < 8) := by
    by_cases hc : f.may n = false ∧ f.size < 8
    · left
      have h56 := pow8 hc.2
      have hnu : n = u := by rw [hn]; exact wrap_i64 (by omega) (by omega)
      rw [biMul, oD, wrap_i64 (by omega) (by omega), biShl _ _ _ _ (by omega), oD]
      have e1 : min (8 * (f.size : Int)).toNat IntKind.i64.bits = 8 * f.size := by
        have : IntKind.i64.bits = 64 := rfl
        omega
      have e2 : (1 : Int) * 2 ^ (8 * f.size) = ((2 ^ (8 * f.size) : Nat) : Int) := by rw [Int.one_mul]; exact_mod_cast rfl
      rw [e1, e2, wrap_i64 (by omega) (by omega), biSub, oD, wrap_i64 (by omega) (by omega)]
      refine tail _ ⟨by omega, by omega⟩ ?_
      rw [if_pos hc]
      congr 1
    · exact .inr hc
  cases hmn : f.may n with
  | true =>
    simp only [Bool.not_true, wdB, vdF, oD, pdB, Bool.false_eq_true, if_false, cdF, show ((false == true) = false) from rfl]
    exact tail n hn64 (by rw [if_neg (by rw [hmn]; simp)])
  | false =>
    simp only [Bool.not_false, wdB, vdT, oD, pdB, if_true, show ((true == true) = true) from rfl, m0, biLt, e8]
    rw [cdI]
    refine ⟨fun h => ?_, fun h => ?_⟩
    · exact key.resolve_right fun hc => hc ⟨hmn, h⟩
    · exact tail n hn64 (by rw [if_neg (fun hc => h hc.2)])
end
end Go.Proofs.Ytchnpgddpaonhaa.d
end

section
open Go.Proofs Go Go.Am Go.Op
namespace Go.Proofs.Ytchnpgddpaonhaa.d
set_option linter.unusedVariables false
set_option linter.unusedSimpArgs false
set_option maxRecDepth 100000
def zC : List D := [.int .u8 0, .int .i64 0, .int .i64 0, .nilSlc]
def datC (op a b : Int) (t : D) : List D := [.int .u8 op, .int .i64 a, .int .i64 b, t]
/-- What Decode answers, its arms being 't'. -/
def datT (r : Dat × (Nat × Int)) (t : D) : D := .tup [.agg (datC r.1.1 r.1.2.1 r.1.2.2.1 t), .int .i64 (r.2.1 : Int), .int .i64 r.2.2]
section
variable {E : Env} {w0 : World}
/-- The end of Decode. -/
theorem dec_end {x : Bool} {Q : D → DSt → Prop} {S : DSt} {k4 k7 k10 : Nat} {c4 : List D} {op a b : Int} {t : D} {bs : List Int} {s : Nat × Int} (h4 : Cel S k4 4 c4) (h7 : Cel S k7 4 (datC op a b t)) (h10 : Cel S k10 3 (rdC bs s)) (l4 : c4.length = 4) (ht : cellsD t = some [t])
    (hQ : ∀ S', (∀ j, j ≠ k4 → S' j = S j) → FinD E Q (if s.2 = 0 then .tup [.agg (datC op a b t), .int .i64 (s.1 : Int), .int .i64 0] else .tup [.agg zC, .int .i64 0, .int .i64 s.2]) S') : C_ops_Decode_46 E w0 x (FinD E Q) (.ptr k4 0) (.ptr k7 0) (.ptr k10 0) S := by
  refine C_ops_Decode_46_ok ?_
  unfold P_ops_Decode_46
  have e410 : k10 ≠ k4 := h10.ne h4 (by decide)
  have ld2 : (rdC bs s)[2]? = some (.int .i64 s.2) := rfl
  have ld1 : (rdC bs s)[1]? = some (.int .i64 (s.1 : Int)) := rfl
  simp only [ndP, ofP, oD, Nat.zero_add, h10.ld, ld2, ld1, biNe, fiN, agS]
  rw [bneD, cdI]
  refine ⟨fun he => ⟨by trivial, ?_⟩, fun he => ?_⟩
  · refine h4.st (clA _) ⟨rfl, by decide, by omega⟩ fun a4 => ⟨⟨?_, by trivial⟩, ?_⟩
    · rw [fwP, DSt.set_ne _ _ _ e410]
    have hs : setManyD c4 0 [D.int .u8 0, .int .i64 0, .int .i64 0, .nilSlc] = zC := by
      match c4, l4 with
      | [_, _, _, _], _ => rfl
    rw [hs, (Cel.new).all (n := 4) (by decide) rfl, oD]
    have := hQ (S.set k4 ⟨4, [zC], a4⟩) (fun j hj => DSt.set_ne _ _ _ hj)
    rw [if_neg he] at this
    exact this
  · rw [h7.all (n := 4) (by decide) rfl, oD]
    refine ⟨by trivial, by trivial, ?_⟩
    refine h4.st (ds := datC op a b t) (clA _) ⟨rfl, by decide, by omega⟩ fun a4 => ⟨⟨?_, by trivial⟩, ?_⟩
    · rw [fwP, DSt.set_ne _ _ _ e410]
    have hs : setManyD c4 0 (datC op a b t) = datC op a b t := by
      match c4, l4 with
      | [_, _, _, _], _ => rfl
    rw [hs, (Cel.new).all (n := 4) (by decide) rfl, oD]
    have := hQ (S.set k4 ⟨4, [datC op a b t], a4⟩) (fun j hj => DSt.set_ne _ _ _ hj)
    rw [if_pos (Classical.not_not.1 he)] at this
    exact this
/-- Where a reading stands: its objects. -/
structure DecSt (S : DSt) (k4 k7 k10 : Nat) (c7 : List D) (bs : List Int) (s : Nat × Int) (S' : DSt) : Prop where
  le : S.le S'
  n4 : S k4 = none
  n7 : S k7 = none
  n10 : S k10 = none
  d47 : k4 ≠ k7
  h4 : Cel S' k4 4 zC
  h7 : Cel S' k7 4 c7
  h10 : Cel S' k10 3 (rdC bs s)
section
variable {S S' : DSt} {k4 k7 k10 : Nat} {c7 : List D} {bs : List Int} {s : Nat × Int}
theorem DecSt.d410 (h : DecSt S k4 k7 k10 c7 bs s S') : k4 ≠ k10 := h.h4.ne h.h10 (by decide)
theorem DecSt.d710 (h : DecSt S k4 k7 k10 c7 bs s S') : k7 ≠ k10 := h.h7.ne h.h10 (by decide)
theorem DecSt.set7 (h : DecSt S k4 k7 k10 c7 bs s S') {c : List D} {a : List AV} : DecSt S k4 k7 k10 c bs s (S'.set k7 ⟨4, [c], a⟩) :=
  ⟨DSt.le_set h.le h.n7, h.n4, h.n7, h.n10, h.d47, h.h4.set_ne h.d47, Cel.new, h.h10.set_ne (Ne.symm h.d710)⟩
theorem DecSt.set10 (h : DecSt S k4 k7 k10 c7 bs s S') {s' : Nat × Int} {a : List AV} : DecSt S k4 k7 k10 c7 bs s' (S'.set k10 ⟨3, [rdC bs s'], a⟩) :=
  ⟨DSt.le_set h.le h.n10, h.n4, h.n7, h.n10, h.d47, h.h4.set_ne h.d410, h.h7.set_ne h.d710, Cel.new⟩
theorem DecSt.new (h : DecSt S k4 k7 k10 c7 bs s S') {k : Nat} {o : DObj} (hk : S' k = none) : DecSt S k4 k7 k10 c7 bs s (S'.set k o) :=
  ⟨DSt.le_set h.le (DSt.none_of h.le hk), h.n4, h.n7, h.n10, h.d47, h.h4.set hk, h.h7.set hk, h.h10.set hk⟩
theorem DecSt.of (h : DecSt S k4 k7 k10 c7 bs s S') {S2 : DSt} (hl : S.le S2) (e : ∀ j ∈ [k4, k7, k10], S2 j = S' j) : DecSt S k4 k7 k10 c7 bs s S2 :=
  ⟨hl, h.n4, h.n7, h.n10, h.d47, h.h4.of (e _ (by simp)), h.h7.of (e _ (by simp)), h.h10.of (e _ (by simp))⟩
end
theorem FldD.len {row : List D} {f : Fld} (h : FldD row f) : row.length = 2 := by obtain ⟨fv, rfl, _⟩ := h; rfl
theorem fld_box {row : List D} {f : Fld} (h : FldD row f) : setManyD [D.int .i64 0, .nilFn] 0 row = row := by obtain ⟨fv, rfl, _⟩ := h; rfl
/-- A field, read while a reading goes on. -/
theorem dec_read {x : Bool} {S S' : DSt} {k4 k7 k10 : Nat} {c7 : List D} {bs : List Int} {s : Nat × Int} (h : DecSt S k4 k7 k10 c7 bs s S') (hb : ∀ b ∈ bs, Byte b) (hl : bs.length < 2 ^ 60) (hs : s.1 ≤ bs.length) {row : List D} {f : Fld} (hf : FldD row f) (h1 : 1 ≤ f.size) (h8 : f.size ≤ 8) :
    DFn Try.prog E w0 x f_ops_reader_read [.ptr k10 0, .agg row] S' fun v S2 => v = .int .i64 (rdS bs f s).1 ∧ DecSt S k4 k7 k10 c7 bs (rdS bs f s).2 S2 ∧ ∀ j, j ≠ k10 → S2 j = S' j := by
  obtain ⟨a, e⟩ := h.h10
  refine (ops_read_ok hb hl hs hf h1 h8 e).use fun v S2 ⟨e1, a', e2⟩ => ⟨e1, ?_, ?_⟩
  · rw [e2]; exact h.set10
  · rw [e2]; exact fun j hj => DSt.set_ne _ _ _ hj
theorem rdS_may (bs : List Int) (f : Fld) (s : Nat × Int) : (rdS bs f s).1 = 0 ∨ f.may (rdS bs f s).1 = true := by
  unfold rdS
  split
  · exact .inl rfl
  split
  · exact .inl rfl
  · split
    · rename_i m hm
      unfold rdN at hm
      simp only [Option.ite_none_right_eq_some, Option.some.injEq] at hm
      obtain ⟨h1, h2⟩ := hm
      right; rw [← h2]; exact h1
    · exact .inl rfl
/-- A switch's arms, and where else it leads. -/
theorem dec_sw {x : Bool} {Q : D → DSt → Prop} {S : DSt} {k4 k7 k10 k13 k14 : Nat} {op a : Int} {bs : List Int} {s : Nat × Int} {S' : DSt} (hb : ∀ b ∈ bs, Byte b) (hl : bs.length < 2 ^ 30) (h : DecSt S k4 k7 k10 (datC op a 0 .nilSlc) bs s S') (hs : s.1 ≤ bs.length)
    (h13 : Cel S' k13 2 [.int .i64 4, betD 0 4294967295]) (h14 : Cel S' k14 2 [.int .i64 8, fitD (IntKind.u8.wrap a)]) (n13 : S k13 = none) (n14 : S k14 = none) (d7 : k7 ≠ k13 ∧ k7 ≠ k14)
    (hQ : ∀ t S', Grw S t ((decSw bs op a s).1.2.2.2.map armR) 2 S' → FinD E Q (if (decSw bs op a s).2.2 = 0 then .tup [.agg (datC op a (decSw bs op a s).1.2.2.1 t), .int .i64 ((decSw bs op a s).2.1 : Int), .int .i64 0] else .tup [.agg zC, .int .i64 0, .int .i64 (decSw bs op a s).2.2]) S') :
    C_ops_Decode_34 E w0 x (FinD E Q) (.ptr k4 0) (.ptr k7 0) (.ptr k10 0) (.ptr k13 0) (.ptr k14 0) S' := by
  refine C_ops_Decode_34_ok ?_
  unfold P_ops_Decode_34
  refine ops_between_ok.use ?_
  rw [fill2 (clBet _ _), oD]
  have hl60 : bs.length < 2 ^ 60 := by omega
  refine (dec_read h hb hl60 hs (row := [.int .i64 2, betD 0 65535]) (f := fIx) ⟨_, rfl, MayD.bet _ _⟩ (by decide) (by decide)).use ?_
  rintro v S2 ⟨rfl, h2, ke⟩
  have hs2 := rdS_le (f := fIx) hs
  have hn0 : 0 ≤ (rdS bs fIx s).1 ∧ (rdS bs fIx s).1 ≤ 65535 := by
    rcases rdS_may bs fIx s with h | h
    · omega
    · exact of_decide_eq_true h
  have e13 : k13 ≠ k10 := h13.ne h.h10 (by decide)
  have e14 : k14 ≠ k10 := h14.ne h.h10 (by decide)
  have h13 := h13.of (ke _ e13)
  have h14 := h14.of (ke _ e14)
  obtain ⟨N, hN⟩ : ∃ N : Nat, (rdS bs fIx s).1 = (N : Int) := ⟨(rdS bs fIx s).1.toNat, by omega⟩
  have hdec : decSw bs op a s = ((op, a, (rdS bs fLeap (rdArms bs (IntKind.u8.wrap a) N (rdS bs fIx s).2 []).2).1, (rdArms bs (IntKind.u8.wrap a) N (rdS bs fIx s).2 []).1), (rdS bs fLeap (rdArms bs (IntKind.u8.wrap a) N (rdS bs fIx s).2 []).2).2) := by
    unfold decSw; rw [hN]; rfl
  rw [hN]
  refine loop_ops_Decode_1 (I := fun n x4 x7 x10 x13 x14 x15 T => x4 = .ptr k4 0 ∧ x7 = .ptr k7 0 ∧ x10 = .ptr k10 0 ∧ x13 = .ptr k13 0 ∧ x14 = .ptr k14 0 ∧ x15 = .int .i64 (n : Int) ∧ n ≤ N ∧ ∃ (s' : Nat × Int) (acc : List (Int × Int)) (t : D), DecSt S k4 k7 k10 (datC op a 0 t) bs s' T ∧ s'.1 ≤ bs.length ∧
      Cel T k13 2 [.int .i64 4, betD 0 4294967295] ∧ Cel T k14 2 [.int .i64 8, fitD (IntKind.u8.wrap a)] ∧ GrA S [k4, k7, k10, k13, k14] t (acc.map armR) 2 T ∧ acc.length + n = N ∧ rdArms bs (IntKind.u8.wrap a) n s' acc = rdArms bs (IntKind.u8.wrap a) N (rdS bs fIx s).2 []) ?_ (n := N)
    ⟨rfl, rfl, rfl, rfl, rfl, rfl, Nat.le_refl _, _, [], .nilSlc, h2, hs2, h13, h14, GrA.nil, by simp, rfl⟩
  rintro n _ _ _ _ _ _ T ⟨rfl, rfl, rfl, rfl, rfl, rfl, hnN, s', acc, t, hd, hs', g13, g14, hg, hacc, hrd⟩
  unfold B_ops_Decode_1
  have ld2 : loadSc T (.ptr k10 2) = some (.int .i64 s'.2) := hd.h10.ld 2
  have fin : (n = 0 ∨ s'.2 ≠ 0) → (optW (loadAg T 2 (.ptr k13 0)) fun v107 => DFn Try.prog E w0 x f_ops_reader_read [.ptr k10 0, v107] T fun v108 S109 => optW (offD 2 (.ptr k7 0)) fun v110 => storeD S109 1 v110 v108 fun v111 S112 => C_ops_Decode_46 E w0 x (FinD E Q) (.ptr k4 0) (.ptr k7 0) (.ptr k10 0) S112) := fun hend => by
    have hrd' : rdArms bs (IntKind.u8.wrap a) N (rdS bs fIx s).2 [] = (acc, s') := by
      rw [← hrd]
      rcases hend with rfl | h
      · rfl
      · exact rdArms_err h
    rw [hrd'] at hdec
    rw [g13.all (n := 2) (by decide) rfl, oD]
    refine (dec_read hd hb hl60 hs' (row := [.int .i64 4, betD 0 4294967295]) (f := fLeap) ⟨_, rfl, MayD.bet _ _⟩ (by decide) (by decide)).use ?_
    rintro v T2 ⟨rfl, hd2, ke2⟩
    rw [ofP, oD]
    refine hd2.h7.st (clI _ _) ⟨rfl, by decide, by simp [datC]⟩ fun a7 => ?_
    have hd3 := hd2.set7 (c := datC op a (rdS bs fLeap s').1 t) (a := a7)
    have hg3 : GrA S [k4, k7, k10, k13, k14] t (acc.map armR) 2 (T2.set k7 ⟨4, [datC op a (rdS bs fLeap s').1 t], a7⟩) := (hg.of fun k o hk e => by rw [ke2 k (fun e => hk (by simp [e]))]; exact e).set (.inl (by simp))
    refine dec_end hd3.h4 hd3.h7 hd3.h10 rfl hg.cells fun S'' hS'' => ?_
    have hg4 : GrA S [k4, k7, k10, k13, k14] t (acc.map armR) 2 S'' := hg3.of fun k o hk e => by rw [hS'' k (fun e => hk (by simp [e]))]; exact e
    have hle : S.le S'' := fun j o e => by rw [hS'' j (fun e' => by rw [e', hd.n4] at e; cases e)]; exact hd3.le _ _ e
    obtain ⟨S3, l3, g3⟩ := hg4.grw hle
    refine FinD.less l3 ?_
    have := hQ t S3 (by rw [hdec]; exact g3)
    rw [hdec] at this
    exact this
  simp only [biGt, oD, ndP, ofP, Nat.zero_add, ld2, biEq]
  by_cases h0 : n = 0
  · subst h0
    simp only [Int.natCast_zero, gt_iff_lt, Int.lt_irrefl, decide_false, wdB, vdF, oD, pdB, Bool.false_eq_true, if_false, cdF, show ((false == true) = false) from rfl]
    exact fin (.inl rfl)
  have hpos : decide ((n : Int) > 0) = true := decide_eq_true (by omega)
  simp only [hpos, wdB, vdT, oD, pdB, if_true, show ((true == true) = true) from rfl, ndP, ofP, Nat.zero_add, ld2, biEq]
  rw [cdB]
  refine ⟨fun h0' => ?_, fun h0' => ?_⟩
  · have hs0 : s'.2 = 0 := by simpa using h0'
    rw [g14.all (n := 2) (by decide) rfl, oD]
    refine (dec_read hd hb hl60 hs' (row := [.int .i64 8, fitD (IntKind.u8.wrap a)]) (f := vF (IntKind.u8.wrap a)) ⟨_, rfl, MayD.fit _⟩ (by show 1 ≤ 8; decide) (by show 8 ≤ 8; decide)).use ?_
    rintro v T2 ⟨rfl, hd2, ke2⟩
    have hs2' := rdS_le (f := vF (IntKind.u8.wrap a)) hs'
    have f13 := g13.of (ke2 _ e13)
    have f14 := g14.of (ke2 _ e14)
    have ld3 : loadSc T2 (.ptr k7 3) = some t := hd2.h7.ld 3
    rw [ld3, oD]
    refine ⟨by trivial, ?_⟩
    rw [f13.all (n := 2) (by decide) rfl, oD]
    refine ⟨by trivial, DFn.toX (dec_read hd2 hb hl60 hs2' (row := [.int .i64 4, betD 0 4294967295]) (f := fLeap) ⟨_, rfl, MayD.bet _ _⟩ (by decide) (by decide)) ?_⟩
    rintro v T3 ⟨rfl, hd3, ke3⟩
    have k7e : T3 k7 = T2 k7 := ke3 _ hd.d710
    rw [fwP]
    refine ⟨⟨k7e, by trivial⟩, ?_⟩
    have hfa : aggD (fillD [D.int .i64 0, .int .i64 0] [(0, 1, .int .i64 (rdS bs (vF (IntKind.u8.wrap a)) s').1), (1, 1, .int .i64 (rdS bs fLeap (rdS bs (vF (IntKind.u8.wrap a)) s').2).1)]) = some (.agg (armR ((rdS bs (vF (IntKind.u8.wrap a)) s').1, (rdS bs fLeap (rdS bs (vF (IntKind.u8.wrap a)) s').2).1))) := rfl
    rw [hfa, oD]
    refine lit_lst (rows := [armR _]) rfl ?_
    refine ⟨⟨k7e, by trivial⟩, ?_⟩
    have hg2 : GrA S [k4, k7, k10, k13, k14] t (acc.map armR) 2 T2 := hg.of fun k o hk e => by rw [ke2 k (fun e => hk (by simp [e]))]; exact e
    have hg3 : GrA S [k4, k7, k10, k13, k14] t (acc.map armR) 2 T3 := hg2.of fun k o hk e => by rw [ke3 k (fun e => hk (by simp [e]))]; exact e
    have q13 := f13.of (ke3 _ e13)
    have q14 := f14.of (ke3 _ e14)
    refine hg3.push hd3.le (fun j hj => ?_) (news := [armR ((rdS bs (vF (IntKind.u8.wrap a)) s').1, (rdS bs fLeap (rdS bs (vF (IntKind.u8.wrap a)) s').2).1)]) (by simp [rowsS, rowsOf]) (by simp) (by simp; omega) fun t' T4 hle4 he4 hg4 => ?_
    · simp only [List.mem_cons, List.not_mem_nil, or_false] at hj
      rcases hj with rfl | rfl | rfl | rfl | rfl
      · exact hd3.h4.there
      · exact hd3.h7.there
      · exact hd3.h10.there
      · exact q13.there
      · exact q14.there
    refine ⟨by trivial, ?_⟩
    have hd4 : DecSt S k4 k7 k10 (datC op a 0 t) bs _ T4 := hd3.of hle4 fun j hj => he4 j (by simp only [List.mem_cons, List.not_mem_nil, or_false] at hj ⊢; rcases hj with rfl | rfl | rfl <;> simp)
    refine hd4.h7.st (hg4.cells) ⟨rfl, by decide, by simp [datC]⟩ fun a7 => ?_
    refine ⟨by trivial, ?_⟩
    rw [biSub, oD, wrap_i64 (by omega) (by omega)]
    obtain ⟨m, rfl⟩ : ∃ m, n = m + 1 := ⟨n - 1, by omega⟩
    rw [rdArms, if_neg (by simpa using hs0)] at hrd
    refine ⟨m, by omega, by trivial, by trivial, by trivial, by trivial, by trivial, by congr 1; omega, by omega, _, acc ++ [_], t', hd4.set7 (c := datC op a 0 t'), rdS_le hs2', ?_, ?_, ?_, by simp; omega, hrd⟩
    · exact (q13.of (he4 _ (by simp))).set_ne (Ne.symm d7.1)
    · exact (q14.of (he4 _ (by simp))).set_ne (Ne.symm d7.2)
    · rw [List.map_append]
      exact hg4.set (.inl (by simp))
  · exact fin (.inr (by simpa using h0'))
end
end Go.Proofs.Ytchnpgddpaonhaa.d
end
