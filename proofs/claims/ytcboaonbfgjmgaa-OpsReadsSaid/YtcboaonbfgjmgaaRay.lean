/-
  Texts Vg, as far as they are used.
-/
import Derived.Test.YtcboaonbfgjmgaaRows
import Derived.Test.YtcboaonbfgjmgaaRau
import Derived.KernelRfl
section
open Go.Proofs Go Go.Am
namespace Go.Proofs.Ytcboaonbfgjmgaa.d
set_option linter.unusedVariables false
set_option maxRecDepth 100000
/- (*trammel/ops.reader).read -/
def lo_ops_reader_read : List (Nat × List Nat) := []
def cu_ops_reader_read : List (Nat × List Nat) := [(20, [0, 3, 6, 8])]
noncomputable def R_ops_reader_read_20 : Code := (codeAt [1, 1, 1, 1, 1, 1] (Try.f44.body.getD .skip))
def KC_ops_reader_read_20 (E : Env) (w0 : World) (x : Bool) (Q : D → DSt → Prop) : AExit → List D → DSt → Prop :=
  (retD Try.prog Try.f44 Q)
def P_ops_reader_read_20 (E : Env) (w0 : World) (x : Bool) (Q : D → DSt → Prop) (x0 x3 x6 x8 : D) (S : DSt) : Prop :=
  optW (offD 1 x3) fun v25 =>
  optW (loadSc S v25) fun v26 =>
  callVD Try.prog (DFn Try.prog E w0 x) S v26 [x8] fun v27 S28 =>
  optW (unD .not v27) fun v29 =>
  condD v29
  (optW (nilD x0) fun v30 =>
  optW (offD 2 v30) fun v31 =>
  storeD S28 1 v31 (.int .i64 120) fun v32 S33 =>
  Q (.int .i64 0) S33)
  (optW (nilD x0) fun v34 =>
  optW (offD 1 v34) fun v35 =>
  storeD S28 1 v35 x6 fun v36 S37 =>
  Q x8 S37)
def C_ops_reader_read_20 (E : Env) (w0 : World) (x : Bool) (Q : D → DSt → Prop) (x0 x3 x6 x8 : D) (S : DSt) : Prop := CodeD Try.prog E w0 x R_ops_reader_read_20 (mkRow 65 [0, 3, 6, 8] [x0, x3, x6, x8]) S (KC_ops_reader_read_20 E w0 x Q)
theorem C_ops_reader_read_20_ok {E : Env} {w0 : World} {x : Bool} {Q : D → DSt → Prop} {x0 x3 x6 x8 : D} {S : DSt} (h : P_ops_reader_read_20 E w0 x Q x0 x3 x6 x8 S) : C_ops_reader_read_20 E w0 x Q x0 x3 x6 x8 S := codeD_of_vc lo_ops_reader_read cu_ops_reader_read mixed (by kernel_rfl) h
def V_ops_reader_read (E : Env) (w0 : World) (x : Bool) (Q : D → DSt → Prop) (a0 a1 : D) (S : DSt) : Prop :=
  optW (cellsD a1) fun cs => allocD S cs fun v0 S1 =>
  optW (nilD a0) fun v2 =>
  optW (offD 2 v2) fun v3 =>
  optW (loadSc S1 v3) fun v4 =>
  optW (binI .neq v4 (.int .i64 0)) fun v5 =>
  condD v5
  (Q (.int .i64 0) S1)
  (optW (nilD a0) fun v6 =>
  optW (offD 0 v6) fun v7 =>
  optW (loadSc S1 v7) fun v8 => (True) ∧
  optW (nilD a0) fun v9 =>
  optW (offD 1 v9) fun v10 =>
  optW (loadSc S1 v10) fun v11 => (True) ∧
  optW (offD 0 v0) fun v12 =>
  optW (loadSc S1 v12) fun v13 => (True) ∧
  DF E (FnX Try.prog E w0) f_wire_Wide [v8, v11, v13] S1 fun v14 S15 => (True) ∧
  optW (extractD v14 0) fun v16 =>
  optW (extractD v14 1) fun v17 =>
  optW (extractD v14 2) fun v18 =>
  optW (binI .neq v18 (.int .i64 0)) fun v19 =>
  condD v19
  (optW (nilD a0) fun v20 =>
  optW (offD 2 v20) fun v21 =>
  storeD S15 1 v21 (.int .i64 10) fun v22 S23 =>
  Q (.int .i64 0) S23)
  (optW (convI .i64 v16) fun v24 =>
  optW (offD 1 v0) fun v38 =>
  optW (loadSc S15 v38) fun v39 =>
  callVD Try.prog (DFn Try.prog E w0 x) S15 v39 [v24] fun v40 S41 =>
  optW (unD .not v40) fun v42 =>
  optW (valGD (wantsD v42 true) (offD 0 v0)) fun v43 =>
  optW (valGD (wantsD v42 true) (loadSc S41 v43)) fun v44 =>
  optW (valGD (wantsD v42 true) (binI .lss v44 (.int .i64 8))) fun v45 =>
  optW (pickD v42 v45 (.bool false)) fun v46 =>
  condD v46
  (optW (offD 0 v0) fun v47 =>
  optW (loadSc S41 v47) fun v48 =>
  optW (binI .mul (.int .i64 8) v48) fun v49 =>
  optW (binI .shl (.int .i64 1) v49) fun v50 =>
  optW (binI .sub v24 v50) fun v51 =>
  C_ops_reader_read_20 E w0 x Q a0 v0 v17 v51 S41)
  (C_ops_reader_read_20 E w0 x Q a0 v0 v17 v24 S41)))
theorem V_ops_reader_read_ok {E : Env} {w0 : World} {x : Bool} {Q : D → DSt → Prop} {a0 a1 : D} {S : DSt} (h : V_ops_reader_read E w0 x (FinD E Q) a0 a1 S) : DFn Try.prog E w0 x f_ops_reader_read [a0, a1] S Q :=
  fnD_of_vc lo_ops_reader_read cu_ops_reader_read (fn := Try.f44) (c := Try.f44.body.getD .skip) mixed Try.func44 (by kernel_rfl) (by kernel_rfl) h

/- trammel/ops.Decode -/
def lo_ops_Decode : List (Nat × List Nat) := [(18, [4, 7, 10, 45, 46, 47]), (36, [4, 7, 10, 13, 14, 15])]
def cu_ops_Decode : List (Nat × List Nat) := [(34, [4, 7, 10, 13, 14]), (46, [4, 7, 10])]
noncomputable def R_ops_Decode_46 : Code := (codeAt [1, 1, 1, 1, 1, 1, 1, 1] (Try.f20.body.getD .skip))
def KC_ops_Decode_46 (E : Env) (w0 : World) (x : Bool) (Q : D → DSt → Prop) : AExit → List D → DSt → Prop :=
  (retD Try.prog Try.f20 Q)
def P_ops_Decode_46 (E : Env) (w0 : World) (x : Bool) (Q : D → DSt → Prop) (x4 x7 x10 : D) (S : DSt) : Prop :=
  optW (nilD x10) fun v57 =>
  optW (offD 2 v57) fun v58 =>
  optW (loadSc S v58) fun v59 =>
  optW (binI .neq v59 (.int .i64 0)) fun v60 =>
  condD v60
  (optW (aggD (fillD [(.int .u8 0), (.int .i64 0), (.int .i64 0), .nilSlc] [])) fun v61 =>
  optW (nilD x10) fun v62 =>
  optW (offD 2 v62) fun v63 =>
  optW (loadSc S v63) fun v64 => (True) ∧
  storeD S 4 x4 v61 fun v65 S66 => (footW v63 S S66 ∧ True) ∧
  optW (loadAg S66 4 x4) fun v67 => Q (.tup [v67, (.int .i64 0), v64]) S66)
  (optW (loadAg S 4 x7) fun v68 => (True) ∧
  optW (nilD x10) fun v69 =>
  optW (offD 1 v69) fun v70 =>
  optW (loadSc S v70) fun v71 => (True) ∧
  storeD S 4 x4 v68 fun v72 S73 => (footW v70 S S73 ∧ True) ∧
  optW (loadAg S73 4 x4) fun v74 => Q (.tup [v74, v71, (.int .i64 0)]) S73)
def C_ops_Decode_46 (E : Env) (w0 : World) (x : Bool) (Q : D → DSt → Prop) (x4 x7 x10 : D) (S : DSt) : Prop := CodeD Try.prog E w0 x R_ops_Decode_46 (mkRow 120 [4, 7, 10] [x4, x7, x10]) S (KC_ops_Decode_46 E w0 x Q)
theorem C_ops_Decode_46_ok {E : Env} {w0 : World} {x : Bool} {Q : D → DSt → Prop} {x4 x7 x10 : D} {S : DSt} (h : P_ops_Decode_46 E w0 x Q x4 x7 x10 S) : C_ops_Decode_46 E w0 x Q x4 x7 x10 S := codeD_of_vc lo_ops_Decode cu_ops_Decode mixed (by kernel_rfl) h
noncomputable def L_ops_Decode_1 : Code := (codeAt [1, 1, 1, 1, 1, 1, 1, 0, 1, 0, 1, 0, 1, 0, 0] (Try.f20.body.getD .skip))
def K_ops_Decode_1 (E : Env) (w0 : World) (x : Bool) (Q : D → DSt → Prop) : AExit → List D → DSt → Prop :=
  (blockD 2 (seqD Try.prog E w0 x lo_ops_Decode cu_ops_Decode (codeAt [1, 1, 1, 1, 1, 1, 1, 0, 1, 0, 1, 1] (Try.f20.body.getD .skip)) (cutD Try.prog E w0 x 120 [4, 7, 10] R_ops_Decode_46 (retD Try.prog Try.f20 Q))))
def B_ops_Decode_1 (E : Env) (w0 : World) (x : Bool) (N1 : D → D → D → D → D → D → DSt → Prop) (Q : D → DSt → Prop) (x4 x7 x10 x13 x14 x15 : D) (S : DSt) : Prop :=
  optW (binI .gtr x15 (.int .i64 0)) fun v83 =>
  optW (valGD (wantsD v83 true) (some x10)) fun v84 =>
  optW (valGD (wantsD v83 true) (nilD v84)) fun v85 =>
  optW (valGD (wantsD v83 true) (offD 2 v85)) fun v86 =>
  optW (valGD (wantsD v83 true) (loadSc S v86)) fun v87 =>
  optW (valGD (wantsD v83 true) (binI .eql v87 (.int .i64 0))) fun v88 =>
  optW (pickD v83 v88 (.bool false)) fun v89 =>
  condD v89
  (optW (loadAg S 2 x14) fun v90 =>
  DFn Try.prog E w0 x f_ops_reader_read [x10, v90] S fun v91 S92 =>
  optW (offD 3 x7) fun v93 =>
  optW (loadSc S92 v93) fun v94 => (True) ∧
  optW (loadAg S92 2 x13) fun v95 => (True) ∧
  DF E (FnX Try.prog E w0) f_ops_reader_read [x10, v95] S92 fun v96 S97 => (footW v93 S92 S97 ∧ True) ∧
  optW (aggD (fillD [(.int .i64 0), (.int .i64 0)] [(0, 1, v91), (1, 1, v96)])) fun v98 =>
  litD S97 2 (fillR 2 (List.replicate 1 [(.int .i64 0), (.int .i64 0)]) [(0, v98)]) 1 fun v99 S100 => (footW v93 S92 S100 ∧ True) ∧
  appendD S100 2 16 v94 v99 fun v101 S102 => (True) ∧
  optW (offD 3 x7) fun v103 =>
  storeD S102 1 v103 v101 fun v104 S105 => (True) ∧
  optW (binI .sub x15 (.int .i64 1)) fun v106 =>
  N1 x4 x7 x10 x13 x14 v106 S105)
  (optW (loadAg S 2 x13) fun v107 =>
  DFn Try.prog E w0 x f_ops_reader_read [x10, v107] S fun v108 S109 =>
  optW (offD 2 x7) fun v110 =>
  storeD S109 1 v110 v108 fun v111 S112 =>
  C_ops_Decode_46 E w0 x Q x4 x7 x10 S112)
theorem B_ops_Decode_1_ok {E : Env} {w0 : World} {x : Bool} {N1 : D → D → D → D → D → D → DSt → Prop} {Q : D → DSt → Prop} {x4 x7 x10 x13 x14 x15 : D} {S : DSt} (h : B_ops_Decode_1 E w0 x N1 Q x4 x7 x10 x13 x14 x15 S) :
    CodeD Try.prog E w0 x L_ops_Decode_1 (mkRow 120 [4, 7, 10, 13, 14, 15] [x4, x7, x10, x13, x14, x15]) S (loopKD (fun T S => N1 (T.getD 4 undefD) (T.getD 7 undefD) (T.getD 10 undefD) (T.getD 13 undefD) (T.getD 14 undefD) (T.getD 15 undefD) S) (K_ops_Decode_1 E w0 x Q)) := codeD_of_vc lo_ops_Decode cu_ops_Decode mixed (by kernel_rfl) h
theorem loop_ops_Decode_1 {E : Env} {w0 : World} {x : Bool} {Q : D → DSt → Prop} (I : Nat → D → D → D → D → D → D → DSt → Prop)
    (step : ∀ n x4 x7 x10 x13 x14 x15 S, I n x4 x7 x10 x13 x14 x15 S → B_ops_Decode_1 E w0 x (fun x4 x7 x10 x13 x14 x15 S => ∃ m, m < n ∧ I m x4 x7 x10 x13 x14 x15 S) Q x4 x7 x10 x13 x14 x15 S)
    {n : Nat} {x4 x7 x10 x13 x14 x15 : D} {S : DSt} (h : I n x4 x7 x10 x13 x14 x15 S) : CodeD Try.prog E w0 x (.loop L_ops_Decode_1) (mkRow 120 [4, 7, 10, 13, 14, 15] [x4, x7, x10, x13, x14, x15]) S (K_ops_Decode_1 E w0 x Q) :=
  codeD_loop (k := 120) (n := n) (I := fun n T S => I n (T.getD 4 undefD) (T.getD 7 undefD) (T.getD 10 undefD) (T.getD 13 undefD) (T.getD 14 undefD) (T.getD 15 undefD) S) (fun n T S hl hI => codeD_row [4, 7, 10, 13, 14, 15] hl (CodeD.mono (B_ops_Decode_1_ok (step n _ _ _ _ _ _ S hI)) fun ex T' S' _ hq => by cases ex <;> exact hq)) (mkRow_length ..) (Eq.mp (by kernel_rfl) h)
noncomputable def R_ops_Decode_34 : Code := (codeAt [1, 1, 1, 1, 1, 1, 1, 0, 1, 0, 1] (Try.f20.body.getD .skip))
def KC_ops_Decode_34 (E : Env) (w0 : World) (x : Bool) (Q : D → DSt → Prop) : AExit → List D → DSt → Prop :=
  (cutD Try.prog E w0 x 120 [4, 7, 10] R_ops_Decode_46 (retD Try.prog Try.f20 Q))
def P_ops_Decode_34 (E : Env) (w0 : World) (x : Bool) (Q : D → DSt → Prop) (x4 x7 x10 x13 x14 : D) (S : DSt) : Prop :=
  DFn Try.prog E w0 x f_ops_between [(.int .i64 0), (.int .i64 65535)] S fun v78 S79 =>
  optW (aggD (fillD [(.int .i64 0), .nilFn] [(0, 1, (.int .i64 2)), (1, 1, v78)])) fun v80 =>
  DFn Try.prog E w0 x f_ops_reader_read [x10, v80] S79 fun v81 S82 =>
  CodeD Try.prog E w0 x (.loop L_ops_Decode_1) (mkRow 120 [4, 7, 10, 13, 14, 15] [x4, x7, x10, x13, x14, v81]) S82 (K_ops_Decode_1 E w0 x Q)
def C_ops_Decode_34 (E : Env) (w0 : World) (x : Bool) (Q : D → DSt → Prop) (x4 x7 x10 x13 x14 : D) (S : DSt) : Prop := CodeD Try.prog E w0 x R_ops_Decode_34 (mkRow 120 [4, 7, 10, 13, 14] [x4, x7, x10, x13, x14]) S (KC_ops_Decode_34 E w0 x Q)
theorem C_ops_Decode_34_ok {E : Env} {w0 : World} {x : Bool} {Q : D → DSt → Prop} {x4 x7 x10 x13 x14 : D} {S : DSt} (h : P_ops_Decode_34 E w0 x Q x4 x7 x10 x13 x14 S) : C_ops_Decode_34 E w0 x Q x4 x7 x10 x13 x14 S := codeD_of_vc lo_ops_Decode cu_ops_Decode mixed (by kernel_rfl) h
noncomputable def L_ops_Decode_0 : Code := (codeAt [1, 1, 1, 1, 1, 1, 0, 1, 0, 0] (Try.f20.body.getD .skip))
def K_ops_Decode_0 (E : Env) (w0 : World) (x : Bool) (Q : D → DSt → Prop) : AExit → List D → DSt → Prop :=
  (blockD 0 (seqD Try.prog E w0 x lo_ops_Decode cu_ops_Decode (codeAt [1, 1, 1, 1, 1, 1, 1] (Try.f20.body.getD .skip)) (retD Try.prog Try.f20 Q)))
def B_ops_Decode_0 (E : Env) (w0 : World) (x : Bool) (N0 : D → D → D → D → D → D → DSt → Prop) (Q : D → DSt → Prop) (x4 x7 x10 x45 x46 x47 : D) (S : DSt) : Prop :=
  optW (binI .lss x47 x46) fun v35 =>
  condD v35
  (optW (idxSl 2 x45 x47) fun v36 =>
  optW (loadAg S 2 v36) fun v37 =>
  allocD S [(.int .i64 0), .nilFn] fun v38 S39 =>
  storeD S39 2 v38 v37 fun v40 S41 =>
  optW (binI .eql x47 (.int .i64 0)) fun v42 =>
  condD v42
  (optW (loadAg S41 2 v38) fun v43 =>
  DFn Try.prog E w0 x f_ops_reader_read [x10, v43] S41 fun v44 S45 =>
  optW (offD 1 x7) fun v46 =>
  storeD S45 1 v46 v44 fun v47 S48 =>
  optW (binI .add x47 (.int .i64 1)) fun v49 =>
  N0 x4 x7 x10 x45 x46 v49 S48)
  (optW (loadAg S41 2 v38) fun v50 =>
  DFn Try.prog E w0 x f_ops_reader_read [x10, v50] S41 fun v51 S52 =>
  optW (offD 2 x7) fun v53 =>
  storeD S52 1 v53 v51 fun v54 S55 =>
  optW (binI .add x47 (.int .i64 1)) fun v56 =>
  N0 x4 x7 x10 x45 x46 v56 S55))
  (optW (offD 0 x7) fun v75 =>
  optW (loadSc S v75) fun v76 =>
  optW (binI .eql v76 (.int .u8 49)) fun v77 =>
  condD v77
  (x = false ∧ (DF E (FnX Try.prog E w0) f_ops_between [(.int .i64 0), (.int .i64 4294967295)] S fun v113 S114 => (True) ∧
  optW (aggD (fillD [(.int .i64 0), .nilFn] [(0, 1, (.int .i64 4)), (1, 1, v113)])) fun v115 =>
  optW (offD 1 x7) fun v116 =>
  optW (loadSc S114 v116) fun v117 => ((loadSc S (orAny (offD 1 x7)) ≠ none ∧ footW (orAny (offD 1 x7)) S S114) ∧ True) ∧
  optW (convI .u8 v117) fun v118 =>
  DF E (FnX Try.prog E w0) f_ops_fits [v118] S114 fun v119 S120 => (True) ∧
  optW (aggD (fillD [(.int .i64 0), .nilFn] [(0, 1, (.int .i64 8)), (1, 1, v119)])) fun v121 =>
  allocD S120 [(.int .i64 0), .nilFn] fun v122 S123 => (True) ∧
  allocD S123 [(.int .i64 0), .nilFn] fun v124 S125 => (True) ∧
  storeD S125 2 v122 v115 fun v126 S127 => (True) ∧
  storeD S127 2 v124 v121 fun v128 S129 => (True) ∧
  C_ops_Decode_34 E w0 x Q x4 x7 x10 v122 v124 S129) ∧
  (DF E (FnX Try.prog E w0) f_ops_between [(.int .i64 0), (.int .i64 4294967295)] S fun v130 S131 => (True) ∧
  optW (aggD (fillD [(.int .i64 0), .nilFn] [(0, 1, (.int .i64 4)), (1, 1, v130)])) fun v132 =>
  optW (offD 1 x7) fun v133 =>
  optW (loadSc S131 v133) fun v134 => ((loadSc S (orAny (offD 1 x7)) ≠ none ∧ footW (orAny (offD 1 x7)) S S131) ∧ True) ∧
  optW (convI .u8 v134) fun v135 =>
  DF E (FnX Try.prog E w0) f_ops_fits [v135] S131 fun v136 S137 => (True) ∧
  optW (aggD (fillD [(.int .i64 0), .nilFn] [(0, 1, (.int .i64 8)), (1, 1, v136)])) fun v138 =>
  allocD S137 [(.int .i64 0), .nilFn] fun v139 S140 => (True) ∧
  allocD S140 [(.int .i64 0), .nilFn] fun v141 S142 => (True) ∧
  storeD S142 2 v141 v132 fun v143 S144 => (True) ∧
  storeD S144 2 v139 v138 fun v145 S146 => (True) ∧
  C_ops_Decode_34 E w0 x Q x4 x7 x10 v141 v139 S146) ∧
  (DF E (FnX Try.prog E w0) f_ops_between [(.int .i64 0), (.int .i64 4294967295)] S fun v147 S148 => (True) ∧
  optW (aggD (fillD [(.int .i64 0), .nilFn] [(0, 1, (.int .i64 4)), (1, 1, v147)])) fun v149 =>
  optW (offD 1 x7) fun v150 =>
  optW (loadSc S148 v150) fun v151 => ((loadSc S (orAny (offD 1 x7)) ≠ none ∧ footW (orAny (offD 1 x7)) S S148) ∧ True) ∧
  optW (convI .u8 v151) fun v152 =>
  allocD S148 [(.int .i64 0), .nilFn] fun v153 S154 => (footW v150 S148 S154 ∧ True) ∧
  DF E (FnX Try.prog E w0) f_ops_fits [v152] S154 fun v155 S156 => (True) ∧
  optW (aggD (fillD [(.int .i64 0), .nilFn] [(0, 1, (.int .i64 8)), (1, 1, v155)])) fun v157 =>
  allocD S156 [(.int .i64 0), .nilFn] fun v158 S159 => (True) ∧
  storeD S159 2 v158 v149 fun v160 S161 => (True) ∧
  storeD S161 2 v153 v157 fun v162 S163 => (True) ∧
  C_ops_Decode_34 E w0 x Q x4 x7 x10 v158 v153 S163) ∧
  (DF E (FnX Try.prog E w0) f_ops_between [(.int .i64 0), (.int .i64 4294967295)] S fun v164 S165 => (True) ∧
  optW (aggD (fillD [(.int .i64 0), .nilFn] [(0, 1, (.int .i64 4)), (1, 1, v164)])) fun v166 =>
  optW (offD 1 x7) fun v167 =>
  optW (loadSc S165 v167) fun v168 => ((loadSc S (orAny (offD 1 x7)) ≠ none ∧ footW (orAny (offD 1 x7)) S S165) ∧ True) ∧
  optW (convI .u8 v168) fun v169 =>
  allocD S165 [(.int .i64 0), .nilFn] fun v170 S171 => (footW v167 S165 S171 ∧ True) ∧
  DF E (FnX Try.prog E w0) f_ops_fits [v169] S171 fun v172 S173 => (True) ∧
  optW (aggD (fillD [(.int .i64 0), .nilFn] [(0, 1, (.int .i64 8)), (1, 1, v172)])) fun v174 =>
  allocD S173 [(.int .i64 0), .nilFn] fun v175 S176 => (True) ∧
  storeD S176 2 v170 v166 fun v177 S178 => (True) ∧
  storeD S178 2 v175 v174 fun v179 S180 => (True) ∧
  C_ops_Decode_34 E w0 x Q x4 x7 x10 v170 v175 S180) ∧
  (DF E (FnX Try.prog E w0) f_ops_between [(.int .i64 0), (.int .i64 4294967295)] S fun v181 S182 => (True) ∧
  optW (aggD (fillD [(.int .i64 0), .nilFn] [(0, 1, (.int .i64 4)), (1, 1, v181)])) fun v183 =>
  optW (offD 1 x7) fun v184 =>
  optW (loadSc S182 v184) fun v185 => ((loadSc S (orAny (offD 1 x7)) ≠ none ∧ footW (orAny (offD 1 x7)) S S182) ∧ True) ∧
  optW (convI .u8 v185) fun v186 =>
  allocD S182 [(.int .i64 0), .nilFn] fun v187 S188 => (footW v184 S182 S188 ∧ True) ∧
  allocD S188 [(.int .i64 0), .nilFn] fun v189 S190 => (footW v184 S182 S190 ∧ True) ∧
  DF E (FnX Try.prog E w0) f_ops_fits [v186] S190 fun v191 S192 => (True) ∧
  optW (aggD (fillD [(.int .i64 0), .nilFn] [(0, 1, (.int .i64 8)), (1, 1, v191)])) fun v193 =>
  storeD S192 2 v187 v183 fun v194 S195 => (True) ∧
  storeD S195 2 v189 v193 fun v196 S197 => (True) ∧
  C_ops_Decode_34 E w0 x Q x4 x7 x10 v187 v189 S197) ∧
  (DF E (FnX Try.prog E w0) f_ops_between [(.int .i64 0), (.int .i64 4294967295)] S fun v198 S199 => (True) ∧
  optW (aggD (fillD [(.int .i64 0), .nilFn] [(0, 1, (.int .i64 4)), (1, 1, v198)])) fun v200 =>
  optW (offD 1 x7) fun v201 =>
  optW (loadSc S199 v201) fun v202 => ((loadSc S (orAny (offD 1 x7)) ≠ none ∧ footW (orAny (offD 1 x7)) S S199) ∧ True) ∧
  optW (convI .u8 v202) fun v203 =>
  allocD S199 [(.int .i64 0), .nilFn] fun v204 S205 => (footW v201 S199 S205 ∧ True) ∧
  allocD S205 [(.int .i64 0), .nilFn] fun v206 S207 => (footW v201 S199 S207 ∧ True) ∧
  DF E (FnX Try.prog E w0) f_ops_fits [v203] S207 fun v208 S209 => (True) ∧
  optW (aggD (fillD [(.int .i64 0), .nilFn] [(0, 1, (.int .i64 8)), (1, 1, v208)])) fun v210 =>
  storeD S209 2 v206 v200 fun v211 S212 => (True) ∧
  storeD S212 2 v204 v210 fun v213 S214 => (True) ∧
  C_ops_Decode_34 E w0 x Q x4 x7 x10 v206 v204 S214) ∧
  (optW (offD 1 x7) fun v215 =>
  optW (loadSc S v215) fun v216 => (True) ∧
  optW (convI .u8 v216) fun v217 =>
  allocD S [(.int .i64 0), .nilFn] fun v218 S219 => (footW v215 S S219 ∧ True) ∧
  DF E (FnX Try.prog E w0) f_ops_between [(.int .i64 0), (.int .i64 4294967295)] S219 fun v220 S221 => (footW v215 S S221 ∧ True) ∧
  optW (aggD (fillD [(.int .i64 0), .nilFn] [(0, 1, (.int .i64 4)), (1, 1, v220)])) fun v222 =>
  DF E (FnX Try.prog E w0) f_ops_fits [v217] S221 fun v223 S224 => (True) ∧
  optW (aggD (fillD [(.int .i64 0), .nilFn] [(0, 1, (.int .i64 8)), (1, 1, v223)])) fun v225 =>
  allocD S224 [(.int .i64 0), .nilFn] fun v226 S227 => (True) ∧
  storeD S227 2 v226 v222 fun v228 S229 => (True) ∧
  storeD S229 2 v218 v225 fun v230 S231 => (True) ∧
  C_ops_Decode_34 E w0 x Q x4 x7 x10 v226 v218 S231) ∧
  (optW (offD 1 x7) fun v232 =>
  optW (loadSc S v232) fun v233 => (True) ∧
  optW (convI .u8 v233) fun v234 =>
  allocD S [(.int .i64 0), .nilFn] fun v235 S236 => (footW v232 S S236 ∧ True) ∧
  DF E (FnX Try.prog E w0) f_ops_between [(.int .i64 0), (.int .i64 4294967295)] S236 fun v237 S238 => (footW v232 S S238 ∧ True) ∧
  optW (aggD (fillD [(.int .i64 0), .nilFn] [(0, 1, (.int .i64 4)), (1, 1, v237)])) fun v239 =>
  allocD S238 [(.int .i64 0), .nilFn] fun v240 S241 => (footW v232 S S241 ∧ True) ∧
  DF E (FnX Try.prog E w0) f_ops_fits [v234] S241 fun v242 S243 => (True) ∧
  optW (aggD (fillD [(.int .i64 0), .nilFn] [(0, 1, (.int .i64 8)), (1, 1, v242)])) fun v244 =>
  storeD S243 2 v240 v239 fun v245 S246 => (True) ∧
  storeD S246 2 v235 v244 fun v247 S248 => (True) ∧
  C_ops_Decode_34 E w0 x Q x4 x7 x10 v240 v235 S248) ∧
  (optW (offD 1 x7) fun v249 =>
  optW (loadSc S v249) fun v250 => (True) ∧
  optW (convI .u8 v250) fun v251 =>
  allocD S [(.int .i64 0), .nilFn] fun v252 S253 => (footW v249 S S253 ∧ True) ∧
  DF E (FnX Try.prog E w0) f_ops_between [(.int .i64 0), (.int .i64 4294967295)] S253 fun v254 S255 => (footW v249 S S255 ∧ True) ∧
  optW (aggD (fillD [(.int .i64 0), .nilFn] [(0, 1, (.int .i64 4)), (1, 1, v254)])) fun v256 =>
  DF E (FnX Try.prog E w0) f_ops_fits [v251] S255 fun v257 S258 => (True) ∧
  optW (aggD (fillD [(.int .i64 0), .nilFn] [(0, 1, (.int .i64 8)), (1, 1, v257)])) fun v259 =>
  allocD S258 [(.int .i64 0), .nilFn] fun v260 S261 => (True) ∧
  storeD S261 2 v252 v256 fun v262 S263 => (True) ∧
  storeD S263 2 v260 v259 fun v264 S265 => (True) ∧
  C_ops_Decode_34 E w0 x Q x4 x7 x10 v252 v260 S265) ∧
  (optW (offD 1 x7) fun v266 =>
  optW (loadSc S v266) fun v267 => (True) ∧
  optW (convI .u8 v267) fun v268 =>
  allocD S [(.int .i64 0), .nilFn] fun v269 S270 => (footW v266 S S270 ∧ True) ∧
  DF E (FnX Try.prog E w0) f_ops_between [(.int .i64 0), (.int .i64 4294967295)] S270 fun v271 S272 => (footW v266 S S272 ∧ True) ∧
  optW (aggD (fillD [(.int .i64 0), .nilFn] [(0, 1, (.int .i64 4)), (1, 1, v271)])) fun v273 =>
  allocD S272 [(.int .i64 0), .nilFn] fun v274 S275 => (footW v266 S S275 ∧ True) ∧
  DF E (FnX Try.prog E w0) f_ops_fits [v268] S275 fun v276 S277 => (True) ∧
  optW (aggD (fillD [(.int .i64 0), .nilFn] [(0, 1, (.int .i64 8)), (1, 1, v276)])) fun v278 =>
  storeD S277 2 v269 v273 fun v279 S280 => (True) ∧
  storeD S280 2 v274 v278 fun v281 S282 => (True) ∧
  C_ops_Decode_34 E w0 x Q x4 x7 x10 v269 v274 S282) ∧
  (optW (offD 1 x7) fun v283 =>
  optW (loadSc S v283) fun v284 => (True) ∧
  optW (convI .u8 v284) fun v285 =>
  allocD S [(.int .i64 0), .nilFn] fun v286 S287 => (footW v283 S S287 ∧ True) ∧
  allocD S287 [(.int .i64 0), .nilFn] fun v288 S289 => (footW v283 S S289 ∧ True) ∧
  DF E (FnX Try.prog E w0) f_ops_between [(.int .i64 0), (.int .i64 4294967295)] S289 fun v290 S291 => (footW v283 S S291 ∧ True) ∧
  optW (aggD (fillD [(.int .i64 0), .nilFn] [(0, 1, (.int .i64 4)), (1, 1, v290)])) fun v292 =>
  DF E (FnX Try.prog E w0) f_ops_fits [v285] S291 fun v293 S294 => (True) ∧
  optW (aggD (fillD [(.int .i64 0), .nilFn] [(0, 1, (.int .i64 8)), (1, 1, v293)])) fun v295 =>
  storeD S294 2 v286 v292 fun v296 S297 => (True) ∧
  storeD S297 2 v288 v295 fun v298 S299 => (True) ∧
  C_ops_Decode_34 E w0 x Q x4 x7 x10 v286 v288 S299) ∧
  (optW (offD 1 x7) fun v300 =>
  optW (loadSc S v300) fun v301 => (True) ∧
  optW (convI .u8 v301) fun v302 =>
  allocD S [(.int .i64 0), .nilFn] fun v303 S304 => (footW v300 S S304 ∧ True) ∧
  allocD S304 [(.int .i64 0), .nilFn] fun v305 S306 => (footW v300 S S306 ∧ True) ∧
  DF E (FnX Try.prog E w0) f_ops_between [(.int .i64 0), (.int .i64 4294967295)] S306 fun v307 S308 => (footW v300 S S308 ∧ True) ∧
  optW (aggD (fillD [(.int .i64 0), .nilFn] [(0, 1, (.int .i64 4)), (1, 1, v307)])) fun v309 =>
  DF E (FnX Try.prog E w0) f_ops_fits [v302] S308 fun v310 S311 => (True) ∧
  optW (aggD (fillD [(.int .i64 0), .nilFn] [(0, 1, (.int .i64 8)), (1, 1, v310)])) fun v312 =>
  storeD S311 2 v305 v309 fun v313 S314 => (True) ∧
  storeD S314 2 v303 v312 fun v315 S316 => (True) ∧
  C_ops_Decode_34 E w0 x Q x4 x7 x10 v305 v303 S316) ∧
  True)
  (C_ops_Decode_46 E w0 x Q x4 x7 x10 S))
theorem B_ops_Decode_0_ok {E : Env} {w0 : World} {x : Bool} {N0 : D → D → D → D → D → D → DSt → Prop} {Q : D → DSt → Prop} {x4 x7 x10 x45 x46 x47 : D} {S : DSt} (h : B_ops_Decode_0 E w0 x N0 Q x4 x7 x10 x45 x46 x47 S) :
    CodeD Try.prog E w0 x L_ops_Decode_0 (mkRow 120 [4, 7, 10, 45, 46, 47] [x4, x7, x10, x45, x46, x47]) S (loopKD (fun T S => N0 (T.getD 4 undefD) (T.getD 7 undefD) (T.getD 10 undefD) (T.getD 45 undefD) (T.getD 46 undefD) (T.getD 47 undefD) S) (K_ops_Decode_0 E w0 x Q)) := codeD_of_vc lo_ops_Decode cu_ops_Decode mixed (by kernel_rfl) h
theorem loop_ops_Decode_0 {E : Env} {w0 : World} {x : Bool} {Q : D → DSt → Prop} (I : Nat → D → D → D → D → D → D → DSt → Prop)
    (step : ∀ n x4 x7 x10 x45 x46 x47 S, I n x4 x7 x10 x45 x46 x47 S → B_ops_Decode_0 E w0 x (fun x4 x7 x10 x45 x46 x47 S => ∃ m, m < n ∧ I m x4 x7 x10 x45 x46 x47 S) Q x4 x7 x10 x45 x46 x47 S)
    {n : Nat} {x4 x7 x10 x45 x46 x47 : D} {S : DSt} (h : I n x4 x7 x10 x45 x46 x47 S) : CodeD Try.prog E w0 x (.loop L_ops_Decode_0) (mkRow 120 [4, 7, 10, 45, 46, 47] [x4, x7, x10, x45, x46, x47]) S (K_ops_Decode_0 E w0 x Q) :=
  codeD_loop (k := 120) (n := n) (I := fun n T S => I n (T.getD 4 undefD) (T.getD 7 undefD) (T.getD 10 undefD) (T.getD 45 undefD) (T.getD 46 undefD) (T.getD 47 undefD) S) (fun n T S hl hI => codeD_row [4, 7, 10, 45, 46, 47] hl (CodeD.mono (B_ops_Decode_0_ok (step n _ _ _ _ _ _ S hI)) fun ex T' S' _ hq => by cases ex <;> exact hq)) (mkRow_length ..) (Eq.mp (by kernel_rfl) h)
def V_ops_Decode (E : Env) (w0 : World) (x : Bool) (Q : D → DSt → Prop) (a0 a1 : D) (S : DSt) : Prop :=
  allocD S [(.int .u8 0), (.int .i64 0), (.int .i64 0), .nilSlc] fun v0 S1 =>
  optW (binI .lss a1 (.int .i64 0)) fun v2 =>
  optW (valGD (wantsD v2 false) (some a1)) fun v3 =>
  optW (valGD (wantsD v2 false) (some a0)) fun v4 =>
  optW (valGD (wantsD v2 false) (lenSl v4)) fun v5 =>
  optW (valGD (wantsD v2 false) (binI .geq v3 v5)) fun v6 =>
  optW (pickD v2 (.bool true) v6) fun v7 =>
  condD v7
  (optW (aggD (fillD [(.int .u8 0), (.int .i64 0), (.int .i64 0), .nilSlc] [])) fun v8 =>
  storeD S1 4 v0 v8 fun v9 S10 =>
  optW (loadAg S10 4 v0) fun v11 => Q (.tup [v11, (.int .i64 0), (.int .i64 2)]) S10)
  (optW (idxSl 1 a0 a1) fun v12 =>
  optW (loadSc S1 v12) fun v13 =>
  optW (aggD (fillD [(.int .u8 0), (.int .i64 0), (.int .i64 0), .nilSlc] [(0, 1, v13)])) fun v14 =>
  allocD S1 [(.int .u8 0), (.int .i64 0), (.int .i64 0), .nilSlc] fun v15 S16 =>
  storeD S16 4 v15 v14 fun v17 S18 =>
  optW (offD 0 v15) fun v19 =>
  optW (loadSc S18 v19) fun v20 =>
  DFn Try.prog E w0 x f_ops_layout [v20] S18 fun v21 S22 =>
  optW (extractD v21 0) fun v23 =>
  optW (extractD v21 1) fun v24 =>
  optW (unD .not v24) fun v25 =>
  condD v25
  (optW (aggD (fillD [(.int .u8 0), (.int .i64 0), (.int .i64 0), .nilSlc] [])) fun v26 =>
  storeD S22 4 v0 v26 fun v27 S28 =>
  optW (loadAg S28 4 v0) fun v29 => Q (.tup [v29, (.int .i64 0), (.int .i64 120)]) S28)
  (optW (binI .add a1 (.int .i64 1)) fun v30 =>
  optW (aggD (fillD [.nilSlc, (.int .i64 0), (.int .i64 0)] [(0, 1, a0), (1, 1, v30)])) fun v31 =>
  optW (cellsD v31) fun cs => allocD S22 cs fun v32 S33 =>
  optW (lenSl v23) fun v34 =>
  CodeD Try.prog E w0 x (.loop L_ops_Decode_0) (mkRow 120 [4, 7, 10, 45, 46, 47] [v0, v15, v32, v23, v34, (.int .i64 0)]) S33 (K_ops_Decode_0 E w0 x Q)))
theorem V_ops_Decode_ok {E : Env} {w0 : World} {x : Bool} {Q : D → DSt → Prop} {a0 a1 : D} {S : DSt} (h : V_ops_Decode E w0 x (FinD E Q) a0 a1 S) : DFn Try.prog E w0 x f_ops_Decode [a0, a1] S Q :=
  fnD_of_vc lo_ops_Decode cu_ops_Decode (fn := Try.f20) (c := Try.f20.body.getD .skip) mixed Try.func20 (by kernel_rfl) (by kernel_rfl) h

/- trammel/ops.All -/
def lo_ops_All : List (Nat × List Nat) := [(8, [0, 5, 6, 7])]
def cu_ops_All : List (Nat × List Nat) := []
noncomputable def L_ops_All_0 : Code := (codeAt [1, 1, 1, 0, 1, 0, 0] (Try.f26.body.getD .skip))
def K_ops_All_0 (E : Env) (w0 : World) (x : Bool) (Q : D → DSt → Prop) : AExit → List D → DSt → Prop :=
  (blockD 0 (seqD Try.prog E w0 x lo_ops_All cu_ops_All (codeAt [1, 1, 1, 1] (Try.f26.body.getD .skip)) (retD Try.prog Try.f26 Q)))
def B_ops_All_0 (E : Env) (w0 : World) (x : Bool) (N0 : D → D → D → D → DSt → Prop) (Q : D → DSt → Prop) (x0 x5 x6 x7 : D) (S : DSt) : Prop :=
  optW (lenSl x0) fun v0 =>
  optW (binI .lss x7 v0) fun v1 =>
  condD v1
  (DFn Try.prog E w0 x f_ops_Decode [x0, x7] S fun v2 S3 =>
  optW (extractD v2 0) fun v4 =>
  optW (extractD v2 1) fun v5 =>
  optW (extractD v2 2) fun v6 =>
  allocD S3 [(.int .u8 0), (.int .i64 0), (.int .i64 0), .nilSlc] fun v7 S8 =>
  storeD S8 4 v7 v4 fun v9 S10 =>
  optW (binI .neq v6 (.int .i64 0)) fun v11 =>
  condD v11
  (Q (.tup [.nilSlc, .nilSlc, v6]) S10)
  (optW (loadAg S10 4 v7) fun v12 =>
  litD S10 4 (fillR 4 (List.replicate 1 [(.int .u8 0), (.int .i64 0), (.int .i64 0), .nilSlc]) [(0, v12)]) 1 fun v13 S14 =>
  appendD S14 4 48 x5 v13 fun v15 S16 =>
  litD S16 1 (fillR 1 (List.replicate 1 [(.int .i64 0)]) [(0, x7)]) 1 fun v17 S18 =>
  appendD S18 1 8 x6 v17 fun v19 S20 =>
  N0 x0 v15 v19 v5 S20))
  (Q (.tup [x5, x6, (.int .i64 0)]) S)
theorem B_ops_All_0_ok {E : Env} {w0 : World} {x : Bool} {N0 : D → D → D → D → DSt → Prop} {Q : D → DSt → Prop} {x0 x5 x6 x7 : D} {S : DSt} (h : B_ops_All_0 E w0 x N0 Q x0 x5 x6 x7 S) :
    CodeD Try.prog E w0 x L_ops_All_0 (mkRow 36 [0, 5, 6, 7] [x0, x5, x6, x7]) S (loopKD (fun T S => N0 (T.getD 0 undefD) (T.getD 5 undefD) (T.getD 6 undefD) (T.getD 7 undefD) S) (K_ops_All_0 E w0 x Q)) := codeD_of_vc lo_ops_All cu_ops_All mixed (by kernel_rfl) h
theorem loop_ops_All_0 {E : Env} {w0 : World} {x : Bool} {Q : D → DSt → Prop} (I : Nat → D → D → D → D → DSt → Prop)
    (step : ∀ n x0 x5 x6 x7 S, I n x0 x5 x6 x7 S → B_ops_All_0 E w0 x (fun x0 x5 x6 x7 S => ∃ m, m < n ∧ I m x0 x5 x6 x7 S) Q x0 x5 x6 x7 S)
    {n : Nat} {x0 x5 x6 x7 : D} {S : DSt} (h : I n x0 x5 x6 x7 S) : CodeD Try.prog E w0 x (.loop L_ops_All_0) (mkRow 36 [0, 5, 6, 7] [x0, x5, x6, x7]) S (K_ops_All_0 E w0 x Q) :=
  codeD_loop (k := 36) (n := n) (I := fun n T S => I n (T.getD 0 undefD) (T.getD 5 undefD) (T.getD 6 undefD) (T.getD 7 undefD) S) (fun n T S hl hI => codeD_row [0, 5, 6, 7] hl (CodeD.mono (B_ops_All_0_ok (step n _ _ _ _ S hI)) fun ex T' S' _ hq => by cases ex <;> exact hq)) (mkRow_length ..) (Eq.mp (by kernel_rfl) h)
def V_ops_All (E : Env) (w0 : World) (x : Bool) (Q : D → DSt → Prop) (a0 : D) (S : DSt) : Prop :=
  CodeD Try.prog E w0 x (.loop L_ops_All_0) (mkRow 36 [0, 5, 6, 7] [a0, .nilSlc, .nilSlc, (.int .i64 0)]) S (K_ops_All_0 E w0 x Q)
theorem V_ops_All_ok {E : Env} {w0 : World} {x : Bool} {Q : D → DSt → Prop} {a0 : D} {S : DSt} (h : V_ops_All E w0 x (FinD E Q) a0 S) : DFn Try.prog E w0 x f_ops_All [a0] S Q :=
  fnD_of_vc lo_ops_All cu_ops_All (fn := Try.f26) (c := Try.f26.body.getD .skip) mixed Try.func26 (by kernel_rfl) (by kernel_rfl) h

/- (*trammel/trammelref12.reader).number -/
def lo_ref12_reader_number : List (Nat × List Nat) := [(16, [0, 3, 5, 6])]
def cu_ref12_reader_number : List (Nat × List Nat) := [(28, [0, 3, 5])]
noncomputable def R_ref12_reader_number_28 : Code := (codeAt [1, 1, 1, 1, 1, 1, 1] (Try.f47.body.getD .skip))
def KC_ref12_reader_number_28 (E : Env) (w0 : World) (x : Bool) (Q : D → DSt → Prop) : AExit → List D → DSt → Prop :=
  (retD Try.prog Try.f47 Q)
def P_ref12_reader_number_28 (E : Env) (w0 : World) (x : Bool) (Q : D → DSt → Prop) (x0 x3 x5 : D) (S : DSt) : Prop :=
  optW (loadAg S 4 x3) fun v48 =>
  optW (convI .i64 x5) fun v49 =>
  DFn Try.prog E w0 x f_ref12_within [v48, v49] S fun v50 S51 =>
  optW (unD .not v50) fun v52 =>
  condD v52
  (optW (nilD x0) fun v53 =>
  optW (offD 2 v53) fun v54 =>
  storeD S51 1 v54 (.int .i64 120) fun v55 S56 =>
  Q (.int .i64 0) S56)
  (optW (convI .i64 x5) fun v57 =>
  Q v57 S51)
def C_ref12_reader_number_28 (E : Env) (w0 : World) (x : Bool) (Q : D → DSt → Prop) (x0 x3 x5 : D) (S : DSt) : Prop := CodeD Try.prog E w0 x R_ref12_reader_number_28 (mkRow 94 [0, 3, 5] [x0, x3, x5]) S (KC_ref12_reader_number_28 E w0 x Q)
theorem C_ref12_reader_number_28_ok {E : Env} {w0 : World} {x : Bool} {Q : D → DSt → Prop} {x0 x3 x5 : D} {S : DSt} (h : P_ref12_reader_number_28 E w0 x Q x0 x3 x5 S) : C_ref12_reader_number_28 E w0 x Q x0 x3 x5 S := codeD_of_vc lo_ref12_reader_number cu_ref12_reader_number mixed (by kernel_rfl) h
noncomputable def L_ref12_reader_number_0 : Code := (codeAt [1, 1, 1, 1, 0, 1, 0, 0] (Try.f47.body.getD .skip))
def K_ref12_reader_number_0 (E : Env) (w0 : World) (x : Bool) (Q : D → DSt → Prop) : AExit → List D → DSt → Prop :=
  (blockD 0 (seqD Try.prog E w0 x lo_ref12_reader_number cu_ref12_reader_number (codeAt [1, 1, 1, 1, 1] (Try.f47.body.getD .skip)) (retD Try.prog Try.f47 Q)))
def B_ref12_reader_number_0 (E : Env) (w0 : World) (x : Bool) (N0 : D → D → D → D → DSt → Prop) (Q : D → DSt → Prop) (x0 x3 x5 x6 : D) (S : DSt) : Prop :=
  optW (offD 0 x3) fun v21 =>
  optW (loadSc S v21) fun v22 =>
  optW (binI .lss x6 v22) fun v23 =>
  condD v23
  (optW (nilD x0) fun v24 =>
  optW (offD 0 v24) fun v25 =>
  optW (loadSc S v25) fun v26 => (True) ∧
  optW (nilD x0) fun v27 =>
  optW (offD 1 v27) fun v28 =>
  optW (loadSc S v28) fun v29 => (True) ∧
  optW (binI .add v29 x6) fun v30 =>
  optW (idxSl 1 v26 v30) fun v31 =>
  optW (loadSc S v31) fun v32 => (True) ∧
  optW (convI .u64 v32) fun v33 =>
  optW (binI .mul (.int .i64 8) x6) fun v34 =>
  optW (binI .shl v33 v34) fun v35 =>
  optW (binI .or x5 v35) fun v36 =>
  optW (binI .add x6 (.int .i64 1)) fun v37 =>
  N0 x0 x3 v36 v37 S)
  (optW (nilD x0) fun v38 =>
  optW (offD 1 v38) fun v39 =>
  optW (loadSc S v39) fun v40 => (True) ∧
  optW (offD 0 x3) fun v41 =>
  optW (loadSc S v41) fun v42 => (True) ∧
  optW (binI .add v40 v42) fun v43 =>
  optW (nilD x0) fun v44 =>
  optW (offD 1 v44) fun v45 =>
  storeD S 1 v45 v43 fun v46 S47 => (True) ∧
  optW (offD 3 x3) fun v58 =>
  optW (loadSc S47 v58) fun v59 =>
  optW (valGD (wantsD v59 true) (offD 0 x3)) fun v60 =>
  optW (valGD (wantsD v59 true) (loadSc S47 v60)) fun v61 =>
  optW (valGD (wantsD v59 true) (binI .lss v61 (.int .i64 8))) fun v62 =>
  optW (pickD v59 v62 (.bool false)) fun v63 =>
  optW (valGD (wantsD v63 true) (some x5)) fun v64 =>
  optW (valGD (wantsD v63 true) (offD 0 x3)) fun v65 =>
  optW (valGD (wantsD v63 true) (loadSc S47 v65)) fun v66 =>
  optW (valGD (wantsD v63 true) (binI .mul (.int .i64 8) v66)) fun v67 =>
  optW (valGD (wantsD v63 true) (binI .sub v67 (.int .i64 1))) fun v68 =>
  optW (valGD (wantsD v63 true) (binI .shr v64 v68)) fun v69 =>
  optW (valGD (wantsD v63 true) (binI .eql v69 (.int .u64 1))) fun v70 =>
  optW (pickD v63 v70 (.bool false)) fun v71 =>
  condD v71
  (optW (offD 0 x3) fun v72 =>
  optW (loadSc S47 v72) fun v73 =>
  optW (binI .mul (.int .i64 8) v73) fun v74 =>
  optW (binI .shl (.int .u64 1) v74) fun v75 =>
  optW (binI .sub x5 v75) fun v76 =>
  C_ref12_reader_number_28 E w0 x Q x0 x3 v76 S47)
  (C_ref12_reader_number_28 E w0 x Q x0 x3 x5 S47))
theorem B_ref12_reader_number_0_ok {E : Env} {w0 : World} {x : Bool} {N0 : D → D → D → D → DSt → Prop} {Q : D → DSt → Prop} {x0 x3 x5 x6 : D} {S : DSt} (h : B_ref12_reader_number_0 E w0 x N0 Q x0 x3 x5 x6 S) :
    CodeD Try.prog E w0 x L_ref12_reader_number_0 (mkRow 94 [0, 3, 5, 6] [x0, x3, x5, x6]) S (loopKD (fun T S => N0 (T.getD 0 undefD) (T.getD 3 undefD) (T.getD 5 undefD) (T.getD 6 undefD) S) (K_ref12_reader_number_0 E w0 x Q)) := codeD_of_vc lo_ref12_reader_number cu_ref12_reader_number mixed (by kernel_rfl) h
theorem loop_ref12_reader_number_0 {E : Env} {w0 : World} {x : Bool} {Q : D → DSt → Prop} (I : Nat → D → D → D → D → DSt → Prop)
    (step : ∀ n x0 x3 x5 x6 S, I n x0 x3 x5 x6 S → B_ref12_reader_number_0 E w0 x (fun x0 x3 x5 x6 S => ∃ m, m < n ∧ I m x0 x3 x5 x6 S) Q x0 x3 x5 x6 S)
    {n : Nat} {x0 x3 x5 x6 : D} {S : DSt} (h : I n x0 x3 x5 x6 S) : CodeD Try.prog E w0 x (.loop L_ref12_reader_number_0) (mkRow 94 [0, 3, 5, 6] [x0, x3, x5, x6]) S (K_ref12_reader_number_0 E w0 x Q) :=
  codeD_loop (k := 94) (n := n) (I := fun n T S => I n (T.getD 0 undefD) (T.getD 3 undefD) (T.getD 5 undefD) (T.getD 6 undefD) S) (fun n T S hl hI => codeD_row [0, 3, 5, 6] hl (CodeD.mono (B_ref12_reader_number_0_ok (step n _ _ _ _ S hI)) fun ex T' S' _ hq => by cases ex <;> exact hq)) (mkRow_length ..) (Eq.mp (by kernel_rfl) h)
def V_ref12_reader_number (E : Env) (w0 : World) (x : Bool) (Q : D → DSt → Prop) (a0 a1 : D) (S : DSt) : Prop :=
  optW (cellsD a1) fun cs => allocD S cs fun v0 S1 =>
  optW (nilD a0) fun v2 =>
  optW (offD 2 v2) fun v3 =>
  optW (loadSc S1 v3) fun v4 =>
  optW (binI .neq v4 (.int .i64 0)) fun v5 =>
  condD v5
  (Q (.int .i64 0) S1)
  (optW (offD 0 v0) fun v6 =>
  optW (loadSc S1 v6) fun v7 => (True) ∧
  optW (nilD a0) fun v8 =>
  optW (offD 0 v8) fun v9 =>
  optW (loadSc S1 v9) fun v10 => (True) ∧
  optW (lenSl v10) fun v11 => (True) ∧
  optW (nilD a0) fun v12 =>
  optW (offD 1 v12) fun v13 =>
  optW (loadSc S1 v13) fun v14 => (True) ∧
  optW (binI .sub v11 v14) fun v15 =>
  optW (binI .gtr v7 v15) fun v16 =>
  condD v16
  (optW (nilD a0) fun v17 =>
  optW (offD 2 v17) fun v18 =>
  storeD S1 1 v18 (.int .i64 10) fun v19 S20 =>
  Q (.int .i64 0) S20)
  (CodeD Try.prog E w0 x (.loop L_ref12_reader_number_0) (mkRow 94 [0, 3, 5, 6] [a0, v0, (.int .u64 0), (.int .i64 0)]) S1 (K_ref12_reader_number_0 E w0 x Q)))
theorem V_ref12_reader_number_ok {E : Env} {w0 : World} {x : Bool} {Q : D → DSt → Prop} {a0 a1 : D} {S : DSt} (h : V_ref12_reader_number E w0 x (FinD E Q) a0 a1 S) : DFn Try.prog E w0 x f_ref12_reader_number [a0, a1] S Q :=
  fnD_of_vc lo_ref12_reader_number cu_ref12_reader_number (fn := Try.f47) (c := Try.f47.body.getD .skip) mixed Try.func47 (by kernel_rfl) (by kernel_rfl) h

/- (*trammel/trammelref12.reader).arms -/
def lo_ref12_reader_arms : List (Nat × List Nat) := [(18, [0, 5, 7, 8, 9])]
def cu_ref12_reader_arms : List (Nat × List Nat) := [(14, [0, 5, 7])]
noncomputable def L_ref12_reader_arms_0 : Code := (codeAt [1, 1, 1, 1, 1, 1, 0, 1, 0, 0] (Try.f48.body.getD .skip))
def K_ref12_reader_arms_0 (E : Env) (w0 : World) (x : Bool) (Q : D → DSt → Prop) : AExit → List D → DSt → Prop :=
  (blockD 0 (seqD Try.prog E w0 x lo_ref12_reader_arms cu_ref12_reader_arms (codeAt [1, 1, 1, 1, 1, 1, 1] (Try.f48.body.getD .skip)) (retD Try.prog Try.f48 Q)))
def B_ref12_reader_arms_0 (E : Env) (w0 : World) (x : Bool) (N0 : D → D → D → D → D → DSt → Prop) (Q : D → DSt → Prop) (x0 x5 x7 x8 x9 : D) (S : DSt) : Prop :=
  optW (binI .lss x9 x5) fun v12 =>
  optW (valGD (wantsD v12 true) (some x0)) fun v13 =>
  optW (valGD (wantsD v12 true) (nilD v13)) fun v14 =>
  optW (valGD (wantsD v12 true) (offD 2 v14)) fun v15 =>
  optW (valGD (wantsD v12 true) (loadSc S v15)) fun v16 =>
  optW (valGD (wantsD v12 true) (binI .eql v16 (.int .i64 0))) fun v17 =>
  optW (pickD v12 v17 (.bool false)) fun v18 =>
  condD v18
  (optW (loadAg S 4 x7) fun v19 =>
  DFn Try.prog E w0 x f_ref12_reader_number [x0, v19] S fun v20 S21 =>
  DFn Try.prog E w0 x f_ref12_leap [] S21 fun v22 S23 =>
  DFn Try.prog E w0 x f_ref12_reader_number [x0, v22] S23 fun v24 S25 =>
  optW (aggD (fillD [(.int .i64 0), (.int .i64 0)] [(0, 1, v20), (1, 1, v24)])) fun v26 =>
  litD S25 2 (fillR 2 (List.replicate 1 [(.int .i64 0), (.int .i64 0)]) [(0, v26)]) 1 fun v27 S28 =>
  appendD S28 2 16 x8 v27 fun v29 S30 =>
  optW (binI .add x9 (.int .i64 1)) fun v31 =>
  N0 x0 x5 x7 v29 v31 S30)
  (Q x8 S)
theorem B_ref12_reader_arms_0_ok {E : Env} {w0 : World} {x : Bool} {N0 : D → D → D → D → D → DSt → Prop} {Q : D → DSt → Prop} {x0 x5 x7 x8 x9 : D} {S : DSt} (h : B_ref12_reader_arms_0 E w0 x N0 Q x0 x5 x7 x8 x9 S) :
    CodeD Try.prog E w0 x L_ref12_reader_arms_0 (mkRow 59 [0, 5, 7, 8, 9] [x0, x5, x7, x8, x9]) S (loopKD (fun T S => N0 (T.getD 0 undefD) (T.getD 5 undefD) (T.getD 7 undefD) (T.getD 8 undefD) (T.getD 9 undefD) S) (K_ref12_reader_arms_0 E w0 x Q)) := codeD_of_vc lo_ref12_reader_arms cu_ref12_reader_arms mixed (by kernel_rfl) h
theorem loop_ref12_reader_arms_0 {E : Env} {w0 : World} {x : Bool} {Q : D → DSt → Prop} (I : Nat → D → D → D → D → D → DSt → Prop)
    (step : ∀ n x0 x5 x7 x8 x9 S, I n x0 x5 x7 x8 x9 S → B_ref12_reader_arms_0 E w0 x (fun x0 x5 x7 x8 x9 S => ∃ m, m < n ∧ I m x0 x5 x7 x8 x9 S) Q x0 x5 x7 x8 x9 S)
    {n : Nat} {x0 x5 x7 x8 x9 : D} {S : DSt} (h : I n x0 x5 x7 x8 x9 S) : CodeD Try.prog E w0 x (.loop L_ref12_reader_arms_0) (mkRow 59 [0, 5, 7, 8, 9] [x0, x5, x7, x8, x9]) S (K_ref12_reader_arms_0 E w0 x Q) :=
  codeD_loop (k := 59) (n := n) (I := fun n T S => I n (T.getD 0 undefD) (T.getD 5 undefD) (T.getD 7 undefD) (T.getD 8 undefD) (T.getD 9 undefD) S) (fun n T S hl hI => codeD_row [0, 5, 7, 8, 9] hl (CodeD.mono (B_ref12_reader_arms_0_ok (step n _ _ _ _ _ S hI)) fun ex T' S' _ hq => by cases ex <;> exact hq)) (mkRow_length ..) (Eq.mp (by kernel_rfl) h)
noncomputable def R_ref12_reader_arms_14 : Code := (codeAt [1, 1, 1, 1, 1] (Try.f48.body.getD .skip))
def KC_ref12_reader_arms_14 (E : Env) (w0 : World) (x : Bool) (Q : D → DSt → Prop) : AExit → List D → DSt → Prop :=
  (retD Try.prog Try.f48 Q)
def P_ref12_reader_arms_14 (E : Env) (w0 : World) (x : Bool) (Q : D → DSt → Prop) (x0 x5 x7 : D) (S : DSt) : Prop :=
  CodeD Try.prog E w0 x (.loop L_ref12_reader_arms_0) (mkRow 59 [0, 5, 7, 8, 9] [x0, x5, x7, .nilSlc, (.int .i64 0)]) S (K_ref12_reader_arms_0 E w0 x Q)
def C_ref12_reader_arms_14 (E : Env) (w0 : World) (x : Bool) (Q : D → DSt → Prop) (x0 x5 x7 : D) (S : DSt) : Prop := CodeD Try.prog E w0 x R_ref12_reader_arms_14 (mkRow 59 [0, 5, 7] [x0, x5, x7]) S (KC_ref12_reader_arms_14 E w0 x Q)
theorem C_ref12_reader_arms_14_ok {E : Env} {w0 : World} {x : Bool} {Q : D → DSt → Prop} {x0 x5 x7 : D} {S : DSt} (h : P_ref12_reader_arms_14 E w0 x Q x0 x5 x7 S) : C_ref12_reader_arms_14 E w0 x Q x0 x5 x7 S := codeD_of_vc lo_ref12_reader_arms cu_ref12_reader_arms mixed (by kernel_rfl) h
def V_ref12_reader_arms (E : Env) (w0 : World) (x : Bool) (Q : D → DSt → Prop) (a0 a1 : D) (S : DSt) : Prop :=
  DFn Try.prog E w0 x f_ref12_place [] S fun v0 S1 =>
  DFn Try.prog E w0 x f_ref12_reader_number [a0, v0] S1 fun v2 S3 =>
  optW (convI .u8 a1) fun v4 =>
  DFn Try.prog E w0 x f_ref02_Bits [v4] S3 fun v5 S6 =>
  optW (aggD (fillD [(.int .i64 0), (.int .i64 0), (.int .i64 0), (.bool false)] [(0, 1, (.int .i64 8)), (1, 1, (.int .i64 (-9223372036854775808))), (2, 1, (.int .i64 9223372036854775807)), (3, 1, (.bool true))])) fun v7 =>
  allocD S6 [(.int .i64 0), (.int .i64 0), (.int .i64 0), (.bool false)] fun v8 S9 =>
  storeD S9 4 v8 v7 fun v10 S11 =>
  optW (binI .gtr v5 (.int .i64 0)) fun v32 =>
  optW (valGD (wantsD v32 true) (some v5)) fun v33 =>
  optW (valGD (wantsD v32 true) (binI .lss v33 (.int .i64 64))) fun v34 =>
  optW (pickD v32 v34 (.bool false)) fun v35 =>
  condD v35
  (optW (binI .sub v5 (.int .i64 1)) fun v36 =>
  optW (binI .shl (.int .i64 (-1)) v36) fun v37 =>
  optW (offD 1 v8) fun v38 =>
  storeD S11 1 v38 v37 fun v39 S40 =>
  optW (binI .sub v5 (.int .i64 1)) fun v41 =>
  optW (binI .shl (.int .i64 1) v41) fun v42 =>
  optW (binI .sub v42 (.int .i64 1)) fun v43 =>
  optW (offD 2 v8) fun v44 =>
  storeD S40 1 v44 v43 fun v45 S46 =>
  C_ref12_reader_arms_14 E w0 x Q a0 v2 v8 S46)
  (C_ref12_reader_arms_14 E w0 x Q a0 v2 v8 S11)
theorem V_ref12_reader_arms_ok {E : Env} {w0 : World} {x : Bool} {Q : D → DSt → Prop} {a0 a1 : D} {S : DSt} (h : V_ref12_reader_arms E w0 x (FinD E Q) a0 a1 S) : DFn Try.prog E w0 x f_ref12_reader_arms [a0, a1] S Q :=
  fnD_of_vc lo_ref12_reader_arms cu_ref12_reader_arms (fn := Try.f48) (c := Try.f48.body.getD .skip) mixed Try.func48 (by kernel_rfl) (by kernel_rfl) h

/- trammel/trammelref12.Decode -/
def lo_ref12_Decode : List (Nat × List Nat) := []
def cu_ref12_Decode : List (Nat × List Nat) := [(20, [4, 7, 9, 10]), (24, [4, 9, 10]), (30, [4, 9, 10])]
noncomputable def R_ref12_Decode_30 : Code := (codeAt [1, 1, 1, 1, 1, 1, 1, 1, 1] (Try.f24.body.getD .skip))
def KC_ref12_Decode_30 (E : Env) (w0 : World) (x : Bool) (Q : D → DSt → Prop) : AExit → List D → DSt → Prop :=
  (retD Try.prog Try.f24 Q)
def P_ref12_Decode_30 (E : Env) (w0 : World) (x : Bool) (Q : D → DSt → Prop) (x4 x9 x10 : D) (S : DSt) : Prop :=
  optW (nilD x9) fun v34 =>
  optW (offD 2 v34) fun v35 =>
  optW (loadSc S v35) fun v36 =>
  optW (binI .neq v36 (.int .i64 0)) fun v37 =>
  condD v37
  (optW (aggD (fillD [(.int .u8 0), (.int .i64 0), (.int .i64 0), .nilSlc] [])) fun v38 =>
  optW (nilD x9) fun v39 =>
  optW (offD 2 v39) fun v40 =>
  optW (loadSc S v40) fun v41 => (True) ∧
  storeD S 4 x4 v38 fun v42 S43 => (footW v40 S S43 ∧ True) ∧
  optW (loadAg S43 4 x4) fun v44 => Q (.tup [v44, (.int .i64 0), v41]) S43)
  (optW (loadAg S 4 x10) fun v45 => (True) ∧
  optW (nilD x9) fun v46 =>
  optW (offD 1 v46) fun v47 =>
  optW (loadSc S v47) fun v48 => (True) ∧
  storeD S 4 x4 v45 fun v49 S50 => (footW v47 S S50 ∧ True) ∧
  optW (loadAg S50 4 x4) fun v51 => Q (.tup [v51, v48, (.int .i64 0)]) S50)
def C_ref12_Decode_30 (E : Env) (w0 : World) (x : Bool) (Q : D → DSt → Prop) (x4 x9 x10 : D) (S : DSt) : Prop := CodeD Try.prog E w0 x R_ref12_Decode_30 (mkRow 86 [4, 9, 10] [x4, x9, x10]) S (KC_ref12_Decode_30 E w0 x Q)
theorem C_ref12_Decode_30_ok {E : Env} {w0 : World} {x : Bool} {Q : D → DSt → Prop} {x4 x9 x10 : D} {S : DSt} (h : P_ref12_Decode_30 E w0 x Q x4 x9 x10 S) : C_ref12_Decode_30 E w0 x Q x4 x9 x10 S := codeD_of_vc lo_ref12_Decode cu_ref12_Decode mixed (by kernel_rfl) h
noncomputable def R_ref12_Decode_24 : Code := (codeAt [1, 1, 1, 1, 1, 1, 1, 1] (Try.f24.body.getD .skip))
def KC_ref12_Decode_24 (E : Env) (w0 : World) (x : Bool) (Q : D → DSt → Prop) : AExit → List D → DSt → Prop :=
  (retD Try.prog Try.f24 Q)
def P_ref12_Decode_24 (E : Env) (w0 : World) (x : Bool) (Q : D → DSt → Prop) (x4 x9 x10 : D) (S : DSt) : Prop :=
  optW (offD 0 x10) fun v52 =>
  optW (loadSc S v52) fun v53 =>
  optW (binI .eql v53 (.int .u8 49)) fun v54 =>
  condD v54
  (optW (offD 1 x10) fun v55 =>
  optW (loadSc S v55) fun v56 =>
  DFn Try.prog E w0 x f_ref12_reader_arms [x9, v56] S fun v57 S58 =>
  optW (offD 3 x10) fun v59 =>
  storeD S58 1 v59 v57 fun v60 S61 =>
  DFn Try.prog E w0 x f_ref12_leap [] S61 fun v62 S63 =>
  DFn Try.prog E w0 x f_ref12_reader_number [x9, v62] S63 fun v64 S65 =>
  optW (offD 2 x10) fun v66 =>
  storeD S65 1 v66 v64 fun v67 S68 =>
  C_ref12_Decode_30 E w0 x Q x4 x9 x10 S68)
  (C_ref12_Decode_30 E w0 x Q x4 x9 x10 S)
def C_ref12_Decode_24 (E : Env) (w0 : World) (x : Bool) (Q : D → DSt → Prop) (x4 x9 x10 : D) (S : DSt) : Prop := CodeD Try.prog E w0 x R_ref12_Decode_24 (mkRow 86 [4, 9, 10] [x4, x9, x10]) S (KC_ref12_Decode_24 E w0 x Q)
theorem C_ref12_Decode_24_ok {E : Env} {w0 : World} {x : Bool} {Q : D → DSt → Prop} {x4 x9 x10 : D} {S : DSt} (h : P_ref12_Decode_24 E w0 x Q x4 x9 x10 S) : C_ref12_Decode_24 E w0 x Q x4 x9 x10 S := codeD_of_vc lo_ref12_Decode cu_ref12_Decode mixed (by kernel_rfl) h
noncomputable def R_ref12_Decode_20 : Code := (codeAt [1, 1, 1, 1, 1, 1, 1] (Try.f24.body.getD .skip))
def KC_ref12_Decode_20 (E : Env) (w0 : World) (x : Bool) (Q : D → DSt → Prop) : AExit → List D → DSt → Prop :=
  (retD Try.prog Try.f24 Q)
def P_ref12_Decode_20 (E : Env) (w0 : World) (x : Bool) (Q : D → DSt → Prop) (x4 x7 x9 x10 : D) (S : DSt) : Prop :=
  optW (lenSl x7) fun v69 =>
  optW (binI .gtr v69 (.int .i64 1)) fun v70 =>
  condD v70
  (optW (idxSl 4 x7 (.int .i64 1)) fun v71 =>
  optW (loadAg S 4 v71) fun v72 =>
  DFn Try.prog E w0 x f_ref12_reader_number [x9, v72] S fun v73 S74 =>
  optW (offD 2 x10) fun v75 =>
  storeD S74 1 v75 v73 fun v76 S77 =>
  C_ref12_Decode_24 E w0 x Q x4 x9 x10 S77)
  (C_ref12_Decode_24 E w0 x Q x4 x9 x10 S)
def C_ref12_Decode_20 (E : Env) (w0 : World) (x : Bool) (Q : D → DSt → Prop) (x4 x7 x9 x10 : D) (S : DSt) : Prop := CodeD Try.prog E w0 x R_ref12_Decode_20 (mkRow 86 [4, 7, 9, 10] [x4, x7, x9, x10]) S (KC_ref12_Decode_20 E w0 x Q)
theorem C_ref12_Decode_20_ok {E : Env} {w0 : World} {x : Bool} {Q : D → DSt → Prop} {x4 x7 x9 x10 : D} {S : DSt} (h : P_ref12_Decode_20 E w0 x Q x4 x7 x9 x10 S) : C_ref12_Decode_20 E w0 x Q x4 x7 x9 x10 S := codeD_of_vc lo_ref12_Decode cu_ref12_Decode mixed (by kernel_rfl) h
def V_ref12_Decode (E : Env) (w0 : World) (x : Bool) (Q : D → DSt → Prop) (a0 a1 : D) (S : DSt) : Prop :=
  allocD S [(.int .u8 0), (.int .i64 0), (.int .i64 0), .nilSlc] fun v0 S1 =>
  optW (binI .lss a1 (.int .i64 0)) fun v2 =>
  optW (valGD (wantsD v2 false) (some a1)) fun v3 =>
  optW (valGD (wantsD v2 false) (some a0)) fun v4 =>
  optW (valGD (wantsD v2 false) (lenSl v4)) fun v5 =>
  optW (valGD (wantsD v2 false) (binI .geq v3 v5)) fun v6 =>
  optW (pickD v2 (.bool true) v6) fun v7 =>
  condD v7
  (optW (aggD (fillD [(.int .u8 0), (.int .i64 0), (.int .i64 0), .nilSlc] [])) fun v8 =>
  storeD S1 4 v0 v8 fun v9 S10 =>
  optW (loadAg S10 4 v0) fun v11 => Q (.tup [v11, (.int .i64 0), (.int .i64 2)]) S10)
  (optW (idxSl 1 a0 a1) fun v12 =>
  optW (loadSc S1 v12) fun v13 =>
  DFn Try.prog E w0 x f_ref12_parts [v13] S1 fun v14 S15 =>
  optW (extractD v14 0) fun v16 =>
  optW (extractD v14 1) fun v17 =>
  optW (unD .not v17) fun v18 =>
  condD v18
  (optW (aggD (fillD [(.int .u8 0), (.int .i64 0), (.int .i64 0), .nilSlc] [])) fun v19 =>
  storeD S15 4 v0 v19 fun v20 S21 =>
  optW (loadAg S21 4 v0) fun v22 => Q (.tup [v22, (.int .i64 0), (.int .i64 120)]) S21)
  (optW (binI .add a1 (.int .i64 1)) fun v23 =>
  optW (aggD (fillD [.nilSlc, (.int .i64 0), (.int .i64 0)] [(0, 1, a0), (1, 1, v23)])) fun v24 =>
  optW (cellsD v24) fun cs => allocD S15 cs fun v25 S26 =>
  optW (idxSl 1 a0 a1) fun v27 =>
  optW (loadSc S26 v27) fun v28 =>
  optW (aggD (fillD [(.int .u8 0), (.int .i64 0), (.int .i64 0), .nilSlc] [(0, 1, v28)])) fun v29 =>
  allocD S26 [(.int .u8 0), (.int .i64 0), (.int .i64 0), .nilSlc] fun v30 S31 =>
  storeD S31 4 v30 v29 fun v32 S33 =>
  optW (lenSl v16) fun v78 =>
  optW (binI .gtr v78 (.int .i64 0)) fun v79 =>
  condD v79
  (optW (idxSl 4 v16 (.int .i64 0)) fun v80 =>
  optW (loadAg S33 4 v80) fun v81 =>
  DFn Try.prog E w0 x f_ref12_reader_number [v25, v81] S33 fun v82 S83 =>
  optW (offD 1 v30) fun v84 =>
  storeD S83 1 v84 v82 fun v85 S86 =>
  C_ref12_Decode_20 E w0 x Q v0 v16 v25 v30 S86)
  (C_ref12_Decode_20 E w0 x Q v0 v16 v25 v30 S33)))
theorem V_ref12_Decode_ok {E : Env} {w0 : World} {x : Bool} {Q : D → DSt → Prop} {a0 a1 : D} {S : DSt} (h : V_ref12_Decode E w0 x (FinD E Q) a0 a1 S) : DFn Try.prog E w0 x f_ref12_Decode [a0, a1] S Q :=
  fnD_of_vc lo_ref12_Decode cu_ref12_Decode (fn := Try.f24) (c := Try.f24.body.getD .skip) mixed Try.func24 (by kernel_rfl) (by kernel_rfl) h

/- trammel/trammelref12.All -/
def lo_ref12_All : List (Nat × List Nat) := [(8, [0, 5, 6, 7])]
def cu_ref12_All : List (Nat × List Nat) := []
noncomputable def L_ref12_All_0 : Code := (codeAt [1, 1, 1, 0, 1, 0, 0] (Try.f25.body.getD .skip))
def K_ref12_All_0 (E : Env) (w0 : World) (x : Bool) (Q : D → DSt → Prop) : AExit → List D → DSt → Prop :=
  (blockD 0 (seqD Try.prog E w0 x lo_ref12_All cu_ref12_All (codeAt [1, 1, 1, 1] (Try.f25.body.getD .skip)) (retD Try.prog Try.f25 Q)))
def B_ref12_All_0 (E : Env) (w0 : World) (x : Bool) (N0 : D → D → D → D → DSt → Prop) (Q : D → DSt → Prop) (x0 x5 x6 x7 : D) (S : DSt) : Prop :=
  optW (lenSl x0) fun v0 =>
  optW (binI .lss x7 v0) fun v1 =>
  condD v1
  (DFn Try.prog E w0 x f_ref12_Decode [x0, x7] S fun v2 S3 =>
  optW (extractD v2 0) fun v4 =>
  optW (extractD v2 1) fun v5 =>
  optW (extractD v2 2) fun v6 =>
  allocD S3 [(.int .u8 0), (.int .i64 0), (.int .i64 0), .nilSlc] fun v7 S8 =>
  storeD S8 4 v7 v4 fun v9 S10 =>
  optW (binI .neq v6 (.int .i64 0)) fun v11 =>
  condD v11
  (Q (.tup [.nilSlc, .nilSlc, v6]) S10)
  (optW (loadAg S10 4 v7) fun v12 =>
  litD S10 4 (fillR 4 (List.replicate 1 [(.int .u8 0), (.int .i64 0), (.int .i64 0), .nilSlc]) [(0, v12)]) 1 fun v13 S14 =>
  appendD S14 4 48 x5 v13 fun v15 S16 =>
  litD S16 1 (fillR 1 (List.replicate 1 [(.int .i64 0)]) [(0, x7)]) 1 fun v17 S18 =>
  appendD S18 1 8 x6 v17 fun v19 S20 =>
  N0 x0 v15 v19 v5 S20))
  (Q (.tup [x5, x6, (.int .i64 0)]) S)
theorem B_ref12_All_0_ok {E : Env} {w0 : World} {x : Bool} {N0 : D → D → D → D → DSt → Prop} {Q : D → DSt → Prop} {x0 x5 x6 x7 : D} {S : DSt} (h : B_ref12_All_0 E w0 x N0 Q x0 x5 x6 x7 S) :
    CodeD Try.prog E w0 x L_ref12_All_0 (mkRow 36 [0, 5, 6, 7] [x0, x5, x6, x7]) S (loopKD (fun T S => N0 (T.getD 0 undefD) (T.getD 5 undefD) (T.getD 6 undefD) (T.getD 7 undefD) S) (K_ref12_All_0 E w0 x Q)) := codeD_of_vc lo_ref12_All cu_ref12_All mixed (by kernel_rfl) h
theorem loop_ref12_All_0 {E : Env} {w0 : World} {x : Bool} {Q : D → DSt → Prop} (I : Nat → D → D → D → D → DSt → Prop)
    (step : ∀ n x0 x5 x6 x7 S, I n x0 x5 x6 x7 S → B_ref12_All_0 E w0 x (fun x0 x5 x6 x7 S => ∃ m, m < n ∧ I m x0 x5 x6 x7 S) Q x0 x5 x6 x7 S)
    {n : Nat} {x0 x5 x6 x7 : D} {S : DSt} (h : I n x0 x5 x6 x7 S) : CodeD Try.prog E w0 x (.loop L_ref12_All_0) (mkRow 36 [0, 5, 6, 7] [x0, x5, x6, x7]) S (K_ref12_All_0 E w0 x Q) :=
  codeD_loop (k := 36) (n := n) (I := fun n T S => I n (T.getD 0 undefD) (T.getD 5 undefD) (T.getD 6 undefD) (T.getD 7 undefD) S) (fun n T S hl hI => codeD_row [0, 5, 6, 7] hl (CodeD.mono (B_ref12_All_0_ok (step n _ _ _ _ S hI)) fun ex T' S' _ hq => by cases ex <;> exact hq)) (mkRow_length ..) (Eq.mp (by kernel_rfl) h)
def V_ref12_All (E : Env) (w0 : World) (x : Bool) (Q : D → DSt → Prop) (a0 : D) (S : DSt) : Prop :=
  CodeD Try.prog E w0 x (.loop L_ref12_All_0) (mkRow 36 [0, 5, 6, 7] [a0, .nilSlc, .nilSlc, (.int .i64 0)]) S (K_ref12_All_0 E w0 x Q)
theorem V_ref12_All_ok {E : Env} {w0 : World} {x : Bool} {Q : D → DSt → Prop} {a0 : D} {S : DSt} (h : V_ref12_All E w0 x (FinD E Q) a0 S) : DFn Try.prog E w0 x f_ref12_All [a0] S Q :=
  fnD_of_vc lo_ref12_All cu_ref12_All (fn := Try.f25) (c := Try.f25.body.getD .skip) mixed Try.func25 (by kernel_rfl) (by kernel_rfl) h

/- trammel/trammelkit.SameInstrs -/
def lo_kit_SameInstrs : List (Nat × List Nat) := [(8, [0, 1, 5])]
def cu_kit_SameInstrs : List (Nat × List Nat) := []
noncomputable def L_kit_SameInstrs_0 : Code := (codeAt [1, 1, 0, 1, 0, 0] (Try.f27.body.getD .skip))
def K_kit_SameInstrs_0 (E : Env) (w0 : World) (x : Bool) (Q : D → DSt → Prop) : AExit → List D → DSt → Prop :=
  (blockD 0 (seqD Try.prog E w0 x lo_kit_SameInstrs cu_kit_SameInstrs (codeAt [1, 1, 1] (Try.f27.body.getD .skip)) (retD Try.prog Try.f27 Q)))
def B_kit_SameInstrs_0 (E : Env) (w0 : World) (x : Bool) (N0 : D → D → D → DSt → Prop) (Q : D → DSt → Prop) (x0 x1 x5 : D) (S : DSt) : Prop :=
  optW (lenSl x0) fun v3 =>
  optW (binI .lss x5 v3) fun v4 =>
  condD v4
  (optW (idxSl 4 x0 x5) fun v5 =>
  optW (loadAg S 4 v5) fun v6 => (True) ∧
  optW (idxSl 4 x1 x5) fun v7 =>
  optW (loadAg S 4 v7) fun v8 => (True) ∧
  DF E (FnX Try.prog E w0) f_kit_SameInstr [v6, v8] S fun v9 S10 => (True) ∧
  optW (unD .not v9) fun v11 =>
  condD v11
  (Q (.bool false) S10)
  (optW (binI .add x5 (.int .i64 1)) fun v12 =>
  N0 x0 x1 v12 S10))
  (Q (.bool true) S)
theorem B_kit_SameInstrs_0_ok {E : Env} {w0 : World} {x : Bool} {N0 : D → D → D → DSt → Prop} {Q : D → DSt → Prop} {x0 x1 x5 : D} {S : DSt} (h : B_kit_SameInstrs_0 E w0 x N0 Q x0 x1 x5 S) :
    CodeD Try.prog E w0 x L_kit_SameInstrs_0 (mkRow 27 [0, 1, 5] [x0, x1, x5]) S (loopKD (fun T S => N0 (T.getD 0 undefD) (T.getD 1 undefD) (T.getD 5 undefD) S) (K_kit_SameInstrs_0 E w0 x Q)) := codeD_of_vc lo_kit_SameInstrs cu_kit_SameInstrs mixed (by kernel_rfl) h
theorem loop_kit_SameInstrs_0 {E : Env} {w0 : World} {x : Bool} {Q : D → DSt → Prop} (I : Nat → D → D → D → DSt → Prop)
    (step : ∀ n x0 x1 x5 S, I n x0 x1 x5 S → B_kit_SameInstrs_0 E w0 x (fun x0 x1 x5 S => ∃ m, m < n ∧ I m x0 x1 x5 S) Q x0 x1 x5 S)
    {n : Nat} {x0 x1 x5 : D} {S : DSt} (h : I n x0 x1 x5 S) : CodeD Try.prog E w0 x (.loop L_kit_SameInstrs_0) (mkRow 27 [0, 1, 5] [x0, x1, x5]) S (K_kit_SameInstrs_0 E w0 x Q) :=
  codeD_loop (k := 27) (n := n) (I := fun n T S => I n (T.getD 0 undefD) (T.getD 1 undefD) (T.getD 5 undefD) S) (fun n T S hl hI => codeD_row [0, 1, 5] hl (CodeD.mono (B_kit_SameInstrs_0_ok (step n _ _ _ S hI)) fun ex T' S' _ hq => by cases ex <;> exact hq)) (mkRow_length ..) (Eq.mp (by kernel_rfl) h)
def V_kit_SameInstrs (E : Env) (w0 : World) (x : Bool) (Q : D → DSt → Prop) (a0 a1 : D) (S : DSt) : Prop :=
  optW (lenSl a0) fun v0 =>
  optW (lenSl a1) fun v1 =>
  optW (binI .neq v0 v1) fun v2 =>
  condD v2
  (Q (.bool false) S)
  (CodeD Try.prog E w0 x (.loop L_kit_SameInstrs_0) (mkRow 27 [0, 1, 5] [a0, a1, (.int .i64 0)]) S (K_kit_SameInstrs_0 E w0 x Q))
theorem V_kit_SameInstrs_ok {E : Env} {w0 : World} {x : Bool} {Q : D → DSt → Prop} {a0 a1 : D} {S : DSt} (h : V_kit_SameInstrs E w0 x (FinD E Q) a0 a1 S) : DFn Try.prog E w0 x f_kit_SameInstrs [a0, a1] S Q :=
  fnD_of_vc lo_kit_SameInstrs cu_kit_SameInstrs (fn := Try.f27) (c := Try.f27.body.getD .skip) mixed Try.func27 (by kernel_rfl) (by kernel_rfl) h
end Go.Proofs.Ytcboaonbfgjmgaa.d
end
