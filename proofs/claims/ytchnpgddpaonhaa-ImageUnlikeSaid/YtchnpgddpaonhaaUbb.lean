/-
  Texts Vd, as far as they are used.
-/
import Derived.Test.YtchnpgddpaonhaaRows
import Derived.Test.YtchnpgddpaonhaaUau
import Derived.KernelRfl
section
open Go.Proofs Go Go.Am
namespace Go.Proofs.Ytchnpgddpaonhaa.d
set_option linter.unusedVariables false
set_option maxRecDepth 100000
/- trammel/ops.typed -/
def lo_ops_typed : List (Nat × List Nat) := []
def cu_ops_typed : List (Nat × List Nat) := []
def V_ops_typed (E : Env) (w0 : World) (x : Bool) (Q : D → DSt → Prop) (a0 a1 a2 : D) (S : DSt) : Prop :=
  optW (cellsD a0) fun cs => allocD S cs fun v0 S1 =>
  allocD S1 [(.int .u8 0), (.str []), .nilSlc, (.int .i64 0), (.int .i64 0)] fun v2 S3 =>
  optW (binI .lss a1 (.int .i64 16)) fun v4 =>
  optW (valGD (wantsD v4 false) (some a1)) fun v5 =>
  optW (valGD (wantsD v4 false) (binI .sub v5 (.int .i64 16))) fun v6 =>
  optW (valGD (wantsD v4 false) (offD 0 v0)) fun v7 =>
  optW (valGD (wantsD v4 false) (loadSc S3 v7)) fun v8 =>
  optW (valGD (wantsD v4 false) (lenSl v8)) fun v9 =>
  optW (valGD (wantsD v4 false) (binI .geq v6 v9)) fun v10 =>
  optW (pickD v4 (.bool true) v10) fun v11 =>
  condD v11
  (optW (aggD (fillD [(.int .u8 0), (.str []), .nilSlc, (.int .i64 0), (.int .i64 0)] [])) fun v12 =>
  storeD S3 5 v2 v12 fun v13 S14 =>
  optW (loadAg S14 5 v2) fun v15 => Q (.tup [v15, (.bool false)]) S14)
  (optW (offD 0 v0) fun v16 =>
  optW (loadSc S3 v16) fun v17 =>
  optW (binI .sub a1 (.int .i64 16)) fun v18 =>
  optW (idxSl 5 v17 v18) fun v19 =>
  optW (loadAg S3 5 v19) fun v20 =>
  allocD S3 [(.int .u8 0), (.str []), .nilSlc, (.int .i64 0), (.int .i64 0)] fun v21 S22 =>
  storeD S22 5 v21 v20 fun v23 S24 =>
  optW (loadAg S24 5 v21) fun v25 => (True) ∧
  optW (offD 0 v21) fun v26 =>
  optW (loadSc S24 v26) fun v27 => (True) ∧
  DF E (FnX Try.prog E w0) f_slices_Contains_uint8 [a2, v27] S24 fun v28 S29 => (footW v21 S24 S29 ∧ True) ∧
  storeD S29 5 v2 v25 fun v30 S31 => (True) ∧
  optW (loadAg S31 5 v2) fun v32 => Q (.tup [v32, v28]) S31)
theorem V_ops_typed_ok {E : Env} {w0 : World} {x : Bool} {Q : D → DSt → Prop} {a0 a1 a2 : D} {S : DSt} (h : V_ops_typed E w0 x (FinD E Q) a0 a1 a2 S) : DFn Try.prog E w0 x f_ops_typed [a0, a1, a2] S Q :=
  fnD_of_vc lo_ops_typed cu_ops_typed (fn := Try.f96) (c := Try.f96.body.getD .skip) mixed Try.func96 (by kernel_rfl) (by kernel_rfl) h

/- trammel/ops.of -/
def lo_ops_of : List (Nat × List Nat) := []
def cu_ops_of : List (Nat × List Nat) := []
def V_ops_of (E : Env) (w0 : World) (x : Bool) (Q : D → DSt → Prop) (a0 : D) (S : DSt) : Prop :=
  allocD S [.nilSlc, .nilSlc, (.bool false)] fun v0 S1 =>
  optW (aggD (fillD [.nilSlc, .nilSlc, (.bool false)] [(0, 1, a0), (2, 1, (.bool true))])) fun v2 =>
  storeD S1 3 v0 v2 fun v3 S4 =>
  optW (loadAg S4 3 v0) fun v5 => Q v5 S4
theorem V_ops_of_ok {E : Env} {w0 : World} {x : Bool} {Q : D → DSt → Prop} {a0 : D} {S : DSt} (h : V_ops_of E w0 x (FinD E Q) a0 S) : DFn Try.prog E w0 x f_ops_of [a0] S Q :=
  fnD_of_vc lo_ops_of cu_ops_of (fn := Try.f86) (c := Try.f86.body.getD .skip) mixed Try.func86 (by kernel_rfl) (by kernel_rfl) h

/- (trammel/ops.effect).gives -/
def lo_ops_effect_gives : List (Nat × List Nat) := []
def cu_ops_effect_gives : List (Nat × List Nat) := []
def V_ops_effect_gives (E : Env) (w0 : World) (x : Bool) (Q : D → DSt → Prop) (a0 a1 : D) (S : DSt) : Prop :=
  optW (cellsD a0) fun cs => allocD S cs fun v0 S1 =>
  allocD S1 [.nilSlc, .nilSlc, (.bool false)] fun v2 S3 =>
  optW (offD 1 v0) fun v4 =>
  storeD S3 1 v4 a1 fun v5 S6 =>
  optW (loadAg S6 3 v0) fun v7 =>
  storeD S6 3 v2 v7 fun v8 S9 =>
  optW (loadAg S9 3 v2) fun v10 => Q v10 S9
theorem V_ops_effect_gives_ok {E : Env} {w0 : World} {x : Bool} {Q : D → DSt → Prop} {a0 a1 : D} {S : DSt} (h : V_ops_effect_gives E w0 x (FinD E Q) a0 a1 S) : DFn Try.prog E w0 x f_ops_effect_gives [a0, a1] S Q :=
  fnD_of_vc lo_ops_effect_gives cu_ops_effect_gives (fn := Try.f87) (c := Try.f87.body.getD .skip) mixed Try.func87 (by kernel_rfl) (by kernel_rfl) h

/- (trammel/ops.effect).given -/
def lo_ops_effect_given : List (Nat × List Nat) := []
def cu_ops_effect_given : List (Nat × List Nat) := []
def V_ops_effect_given (E : Env) (w0 : World) (x : Bool) (Q : D → DSt → Prop) (a0 a1 : D) (S : DSt) : Prop :=
  optW (cellsD a0) fun cs => allocD S cs fun v0 S1 =>
  allocD S1 [.nilSlc, .nilSlc, (.bool false)] fun v2 S3 =>
  optW (offD 2 v0) fun v4 =>
  storeD S3 1 v4 a1 fun v5 S6 =>
  optW (loadAg S6 3 v0) fun v7 =>
  storeD S6 3 v2 v7 fun v8 S9 =>
  optW (loadAg S9 3 v2) fun v10 => Q v10 S9
theorem V_ops_effect_given_ok {E : Env} {w0 : World} {x : Bool} {Q : D → DSt → Prop} {a0 a1 : D} {S : DSt} (h : V_ops_effect_given E w0 x (FinD E Q) a0 a1 S) : DFn Try.prog E w0 x f_ops_effect_given [a0, a1] S Q :=
  fnD_of_vc lo_ops_effect_given cu_ops_effect_given (fn := Try.f88) (c := Try.f88.body.getD .skip) mixed Try.func88 (by kernel_rfl) (by kernel_rfl) h

/- trammel/ops.made -/
def lo_ops_made : List (Nat × List Nat) := [(20, [4, 5, 7, 8, 42, 43, 44])]
def cu_ops_made : List (Nat × List Nat) := [(25, [2, 3, 4, 5, 25, 26])]
noncomputable def L_ops_made_0 : Code := (codeAt [1, 1, 0, 1, 0, 1, 0, 1, 0, 1, 0, 1, 0, 1, 0, 0] (Try.f90.body.getD .skip))
def K_ops_made_0 (E : Env) (w0 : World) (x : Bool) (Q : D → DSt → Prop) : AExit → List D → DSt → Prop :=
  (blockD 1 (seqD Try.prog E w0 x lo_ops_made cu_ops_made (codeAt [1, 1, 0, 1, 0, 1, 0, 1, 0, 1, 0, 1, 1] (Try.f90.body.getD .skip)) (seqD Try.prog E w0 x lo_ops_made cu_ops_made (codeAt [1, 1, 0, 1, 0, 1, 0, 1, 1] (Try.f90.body.getD .skip)) (blockD 0 (seqD Try.prog E w0 x lo_ops_made cu_ops_made (codeAt [1, 1, 1] (Try.f90.body.getD .skip)) (retD Try.prog Try.f90 Q))))))
def B_ops_made_0 (E : Env) (w0 : World) (x : Bool) (N0 : D → D → D → D → D → D → D → DSt → Prop) (Q : D → DSt → Prop) (x4 x5 x7 x8 x42 x43 x44 : D) (S : DSt) : Prop :=
  optW (binI .lss x44 x43) fun v29 =>
  condD v29
  (optW (idxSl 2 x42 x44) fun v30 =>
  optW (loadAg S 2 v30) fun v31 =>
  allocD S [(.str []), (.int .i64 0)] fun v32 S33 =>
  storeD S33 2 v32 v31 fun v34 S35 =>
  optW (offD 1 v32) fun v36 =>
  optW (loadSc S35 v36) fun v37 =>
  litD S35 1 (fillR 1 (List.replicate 1 [(.int .i64 0)]) [(0, v37)]) 1 fun v38 S39 =>
  appendD S39 1 8 x8 v38 fun v40 S41 =>
  optW (binI .add x44 (.int .i64 1)) fun v42 =>
  N0 x4 x5 x7 v40 x42 x43 v42 S41)
  (DFn Try.prog E w0 x f_ops_of [x8] S fun v43 S44 =>
  litD S44 1 (fillR 1 (List.replicate 1 [(.int .i64 0)]) [(0, x5)]) 1 fun v45 S46 =>
  DFn Try.prog E w0 x f_ops_effect_gives [v43, v45] S46 fun v47 S48 =>
  DFn Try.prog E w0 x f_ops_effect_given [v47, x7] S48 fun v49 S50 =>
  storeD S50 3 x4 v49 fun v51 S52 =>
  optW (loadAg S52 3 x4) fun v53 => Q v53 S52)
theorem B_ops_made_0_ok {E : Env} {w0 : World} {x : Bool} {N0 : D → D → D → D → D → D → D → DSt → Prop} {Q : D → DSt → Prop} {x4 x5 x7 x8 x42 x43 x44 : D} {S : DSt} (h : B_ops_made_0 E w0 x N0 Q x4 x5 x7 x8 x42 x43 x44 S) :
    CodeD Try.prog E w0 x L_ops_made_0 (mkRow 200 [4, 5, 7, 8, 42, 43, 44] [x4, x5, x7, x8, x42, x43, x44]) S (loopKD (fun T S => N0 (T.getD 4 undefD) (T.getD 5 undefD) (T.getD 7 undefD) (T.getD 8 undefD) (T.getD 42 undefD) (T.getD 43 undefD) (T.getD 44 undefD) S) (K_ops_made_0 E w0 x Q)) := codeD_of_vc lo_ops_made cu_ops_made mixed (by kernel_rfl) h
theorem loop_ops_made_0 {E : Env} {w0 : World} {x : Bool} {Q : D → DSt → Prop} (I : Nat → D → D → D → D → D → D → D → DSt → Prop)
    (step : ∀ n x4 x5 x7 x8 x42 x43 x44 S, I n x4 x5 x7 x8 x42 x43 x44 S → B_ops_made_0 E w0 x (fun x4 x5 x7 x8 x42 x43 x44 S => ∃ m, m < n ∧ I m x4 x5 x7 x8 x42 x43 x44 S) Q x4 x5 x7 x8 x42 x43 x44 S)
    {n : Nat} {x4 x5 x7 x8 x42 x43 x44 : D} {S : DSt} (h : I n x4 x5 x7 x8 x42 x43 x44 S) : CodeD Try.prog E w0 x (.loop L_ops_made_0) (mkRow 200 [4, 5, 7, 8, 42, 43, 44] [x4, x5, x7, x8, x42, x43, x44]) S (K_ops_made_0 E w0 x Q) :=
  codeD_loop (k := 200) (n := n) (I := fun n T S => I n (T.getD 4 undefD) (T.getD 5 undefD) (T.getD 7 undefD) (T.getD 8 undefD) (T.getD 42 undefD) (T.getD 43 undefD) (T.getD 44 undefD) S) (fun n T S hl hI => codeD_row [4, 5, 7, 8, 42, 43, 44] hl (CodeD.mono (B_ops_made_0_ok (step n _ _ _ _ _ _ _ S hI)) fun ex T' S' _ hq => by cases ex <;> exact hq)) (mkRow_length ..) (Eq.mp (by kernel_rfl) h)
noncomputable def R_ops_made_25 : Code := (codeAt [1, 1, 0, 1, 0, 1] (Try.f90.body.getD .skip))
def KC_ops_made_25 (E : Env) (w0 : World) (x : Bool) (Q : D → DSt → Prop) : AExit → List D → DSt → Prop :=
  (blockD 0 (seqD Try.prog E w0 x lo_ops_made cu_ops_made (codeAt [1, 1, 1] (Try.f90.body.getD .skip)) (retD Try.prog Try.f90 Q)))
def P_ops_made_25 (E : Env) (w0 : World) (x : Bool) (Q : D → DSt → Prop) (x2 x3 x4 x5 x25 x26 : D) (S : DSt) : Prop :=
  condD x26
  (optW (loadAg S 3 x3) fun v10 =>
  optW (offD 1 x2) fun v11 =>
  optW (loadSc S v11) fun v12 =>
  litD S 1 (fillR 1 (List.replicate 1 [(.int .u8 0)]) [(0, (.int .u8 6))]) 1 fun v13 S14 =>
  DFn Try.prog E w0 x f_ops_typed [v10, v12, v13] S14 fun v15 S16 =>
  optW (extractD v15 0) fun v17 =>
  optW (extractD v15 1) fun v18 =>
  allocD S16 [(.int .u8 0), (.str []), .nilSlc, (.int .i64 0), (.int .i64 0)] fun v19 S20 =>
  storeD S20 5 v19 v17 fun v21 S22 =>
  optW (offD 0 x2) fun v23 =>
  optW (loadSc S22 v23) fun v24 =>
  optW (binI .eql v24 (.int .u8 36)) fun v25 =>
  condD v25
  (optW (offD 2 v19) fun v26 =>
  optW (loadSc S22 v26) fun v27 =>
  optW (lenSl v27) fun v28 =>
  CodeD Try.prog E w0 x (.loop L_ops_made_0) (mkRow 200 [4, 5, 7, 8, 42, 43, 44] [x4, x5, v18, .nilSlc, v27, v28, (.int .i64 0)]) S22 (K_ops_made_0 E w0 x Q))
  (optW (unD .not v18) fun v54 =>
  optW (valGD (wantsD v54 false) (offD 2 x2)) fun v55 =>
  optW (valGD (wantsD v54 false) (loadSc S22 v55)) fun v56 =>
  optW (valGD (wantsD v54 false) (offD 2 v19)) fun v57 =>
  optW (valGD (wantsD v54 false) (loadSc S22 v57)) fun v58 =>
  optW (valGD (wantsD v54 false) (lenSl v58)) fun v59 =>
  optW (valGD (wantsD v54 false) (binI .geq v56 v59)) fun v60 =>
  optW (pickD v54 (.bool true) v60) fun v61 =>
  condD v61
  (optW (aggD (fillD [.nilSlc, .nilSlc, (.bool false)] [])) fun v62 =>
  storeD S22 3 x4 v62 fun v63 S64 =>
  optW (loadAg S64 3 x4) fun v65 => Q v65 S64)
  (optW (offD 2 v19) fun v66 =>
  optW (loadSc S22 v66) fun v67 =>
  optW (offD 2 x2) fun v68 =>
  optW (loadSc S22 v68) fun v69 =>
  optW (idxSl 2 v67 v69) fun v70 =>
  optW (offD 1 v70) fun v71 =>
  optW (loadSc S22 v71) fun v72 =>
  optW (offD 0 x2) fun v73 =>
  optW (loadSc S22 v73) fun v74 =>
  optW (binI .eql v74 (.int .u8 38)) fun v75 =>
  condD v75
  (litD S22 1 (fillR 1 (List.replicate 2 [(.int .i64 0)]) [(0, x5), (1, v72)]) 2 fun v76 S77 =>
  DFn Try.prog E w0 x f_ops_of [v76] S77 fun v78 S79 =>
  storeD S79 3 x4 v78 fun v80 S81 =>
  optW (loadAg S81 3 x4) fun v82 => Q v82 S81)
  (litD S22 1 (fillR 1 (List.replicate 1 [(.int .i64 0)]) [(0, x5)]) 1 fun v83 S84 =>
  DFn Try.prog E w0 x f_ops_of [v83] S84 fun v85 S86 =>
  litD S86 1 (fillR 1 (List.replicate 1 [(.int .i64 0)]) [(0, v72)]) 1 fun v87 S88 =>
  DFn Try.prog E w0 x f_ops_effect_gives [v85, v87] S88 fun v89 S90 =>
  storeD S90 3 x4 v89 fun v91 S92 =>
  optW (loadAg S92 3 x4) fun v93 => Q v93 S92))))
  (optW (binI .eql x25 (.int .u8 39)) fun v94 =>
  condD v94
  (optW (loadAg S 3 x3) fun v95 =>
  optW (offD 1 x2) fun v96 =>
  optW (loadSc S v96) fun v97 =>
  litD S 1 (fillR 1 (List.replicate 1 [(.int .u8 0)]) [(0, (.int .u8 7))]) 1 fun v98 S99 =>
  DFn Try.prog E w0 x f_ops_typed [v95, v97, v98] S99 fun v100 S101 =>
  optW (extractD v100 0) fun v102 =>
  optW (extractD v100 1) fun v103 =>
  allocD S101 [(.int .u8 0), (.str []), .nilSlc, (.int .i64 0), (.int .i64 0)] fun v104 S105 =>
  storeD S105 5 v104 v102 fun v106 S107 =>
  optW (offD 3 v104) fun v108 =>
  optW (loadSc S107 v108) fun v109 =>
  litD S107 1 (fillR 1 (List.replicate 1 [(.int .i64 0)]) [(0, v109)]) 1 fun v110 S111 =>
  DFn Try.prog E w0 x f_ops_of [v110] S111 fun v112 S113 =>
  litD S113 1 (fillR 1 (List.replicate 1 [(.int .i64 0)]) [(0, x5)]) 1 fun v114 S115 =>
  DFn Try.prog E w0 x f_ops_effect_gives [v112, v114] S115 fun v116 S117 =>
  DFn Try.prog E w0 x f_ops_effect_given [v116, v103] S117 fun v118 S119 =>
  storeD S119 3 x4 v118 fun v120 S121 =>
  optW (loadAg S121 3 x4) fun v122 => Q v122 S121)
  (optW (binI .eql x25 (.int .u8 40)) fun v123 =>
  condD v123
  (optW (loadAg S 3 x3) fun v124 =>
  optW (offD 1 x2) fun v125 =>
  optW (loadSc S v125) fun v126 =>
  litD S 1 (fillR 1 (List.replicate 1 [(.int .u8 0)]) [(0, (.int .u8 8))]) 1 fun v127 S128 =>
  DFn Try.prog E w0 x f_ops_typed [v124, v126, v127] S128 fun v129 S130 =>
  optW (extractD v129 0) fun v131 =>
  optW (extractD v129 1) fun v132 =>
  allocD S130 [(.int .u8 0), (.str []), .nilSlc, (.int .i64 0), (.int .i64 0)] fun v133 S134 =>
  storeD S134 5 v133 v131 fun v135 S136 =>
  DFn Try.prog E w0 x f_ops_of [.nilSlc] S136 fun v137 S138 =>
  litD S138 1 (fillR 1 (List.replicate 1 [(.int .i64 0)]) [(0, x5)]) 1 fun v139 S140 =>
  DFn Try.prog E w0 x f_ops_effect_gives [v137, v139] S140 fun v141 S142 =>
  DFn Try.prog E w0 x f_ops_effect_given [v141, v132] S142 fun v143 S144 =>
  storeD S144 3 x4 v143 fun v145 S146 =>
  optW (loadAg S146 3 x4) fun v147 => Q v147 S146)
  (optW (binI .eql x25 (.int .u8 44)) fun v148 =>
  condD v148
  (optW (loadAg S 3 x3) fun v149 =>
  optW (offD 1 x2) fun v150 =>
  optW (loadSc S v150) fun v151 =>
  litD S 1 (fillR 1 (List.replicate 1 [(.int .u8 0)]) [(0, (.int .u8 8))]) 1 fun v152 S153 =>
  DFn Try.prog E w0 x f_ops_typed [v149, v151, v152] S153 fun v154 S155 =>
  optW (extractD v154 0) fun v156 =>
  optW (extractD v154 1) fun v157 =>
  allocD S155 [(.int .u8 0), (.str []), .nilSlc, (.int .i64 0), (.int .i64 0)] fun v158 S159 =>
  storeD S159 5 v158 v156 fun v160 S161 =>
  optW (offD 3 v158) fun v162 =>
  optW (loadSc S161 v162) fun v163 =>
  litD S161 1 (fillR 1 (List.replicate 2 [(.int .i64 0)]) [(0, x5), (1, v163)]) 2 fun v164 S165 =>
  DFn Try.prog E w0 x f_ops_of [v164] S165 fun v166 S167 =>
  DFn Try.prog E w0 x f_ops_effect_given [v166, v157] S167 fun v168 S169 =>
  storeD S169 3 x4 v168 fun v170 S171 =>
  optW (loadAg S171 3 x4) fun v172 => Q v172 S171)
  (optW (binI .eql x25 (.int .u8 45)) fun v173 =>
  condD v173
  (optW (loadAg S 3 x3) fun v174 =>
  optW (offD 1 x2) fun v175 =>
  optW (loadSc S v175) fun v176 =>
  litD S 1 (fillR 1 (List.replicate 1 [(.int .u8 0)]) [(0, (.int .u8 8))]) 1 fun v177 S178 =>
  DFn Try.prog E w0 x f_ops_typed [v174, v176, v177] S178 fun v179 S180 =>
  optW (extractD v179 0) fun v181 =>
  optW (extractD v179 1) fun v182 =>
  allocD S180 [(.int .u8 0), (.str []), .nilSlc, (.int .i64 0), (.int .i64 0)] fun v183 S184 =>
  storeD S184 5 v183 v181 fun v185 S186 =>
  x = false ∧ (litD S186 1 (fillR 1 (List.replicate 1 [(.int .i64 0)]) [(0, x5)]) 1 fun v187 S188 => (True) ∧
  DF E (FnX Try.prog E w0) f_ops_of [v187] S188 fun v189 S190 => (True) ∧
  optW (offD 3 v183) fun v191 =>
  optW (loadSc S190 v191) fun v192 => ((loadSc S188 (orAny (offD 3 v183)) ≠ none ∧ footW (orAny (offD 3 v183)) S188 S190) ∧ (loadSc S186 (orAny (offD 3 v183)) ≠ none ∧ footW (orAny (offD 3 v183)) S186 S190) ∧ True) ∧
  litD S190 1 (fillR 1 (List.replicate 1 [(.int .i64 0)]) [(0, v192)]) 1 fun v193 S194 => (True) ∧
  DF E (FnX Try.prog E w0) f_ops_effect_gives [v189, v193] S194 fun v195 S196 => (True) ∧
  DF E (FnX Try.prog E w0) f_ops_effect_given [v195, v182] S196 fun v197 S198 => (True) ∧
  storeD S198 3 x4 v197 fun v199 S200 => (True) ∧
  optW (loadAg S200 3 x4) fun v201 => Q v201 S200) ∧
  (litD S186 1 (fillR 1 (List.replicate 1 [(.int .i64 0)]) [(0, x5)]) 1 fun v202 S203 => (True) ∧
  optW (offD 3 v183) fun v204 =>
  optW (loadSc S203 v204) fun v205 => ((loadSc S186 (orAny (offD 3 v183)) ≠ none ∧ footW (orAny (offD 3 v183)) S186 S203) ∧ True) ∧
  litD S203 1 (fillR 1 (List.replicate 1 [(.int .i64 0)]) [(0, v205)]) 1 fun v206 S207 => (True) ∧
  DF E (FnX Try.prog E w0) f_ops_of [v202] S207 fun v208 S209 => (True) ∧
  DF E (FnX Try.prog E w0) f_ops_effect_gives [v208, v206] S209 fun v210 S211 => (True) ∧
  DF E (FnX Try.prog E w0) f_ops_effect_given [v210, v182] S211 fun v212 S213 => (True) ∧
  storeD S213 3 x4 v212 fun v214 S215 => (True) ∧
  optW (loadAg S215 3 x4) fun v216 => Q v216 S215) ∧
  (optW (offD 3 v183) fun v217 =>
  optW (loadSc S186 v217) fun v218 => (True) ∧
  litD S186 1 (fillR 1 (List.replicate 1 [(.int .i64 0)]) [(0, v218)]) 1 fun v219 S220 => (True) ∧
  litD S220 1 (fillR 1 (List.replicate 1 [(.int .i64 0)]) [(0, x5)]) 1 fun v221 S222 => (True) ∧
  DF E (FnX Try.prog E w0) f_ops_of [v221] S222 fun v223 S224 => (True) ∧
  DF E (FnX Try.prog E w0) f_ops_effect_gives [v223, v219] S224 fun v225 S226 => (True) ∧
  DF E (FnX Try.prog E w0) f_ops_effect_given [v225, v182] S226 fun v227 S228 => (True) ∧
  storeD S228 3 x4 v227 fun v229 S230 => (True) ∧
  optW (loadAg S230 3 x4) fun v231 => Q v231 S230) ∧
  True)
  (optW (loadAg S 3 x3) fun v232 =>
  optW (offD 1 x2) fun v233 =>
  optW (loadSc S v233) fun v234 =>
  litD S 1 (fillR 1 (List.replicate 2 [(.int .u8 0)]) [(0, (.int .u8 7)), (1, (.int .u8 8))]) 2 fun v235 S236 =>
  DFn Try.prog E w0 x f_ops_typed [v232, v234, v235] S236 fun v237 S238 =>
  optW (extractD v237 0) fun v239 =>
  optW (extractD v237 1) fun v240 =>
  allocD S238 [(.int .u8 0), (.str []), .nilSlc, (.int .i64 0), (.int .i64 0)] fun v241 S242 =>
  storeD S242 5 v241 v239 fun v243 S244 =>
  optW (offD 0 x2) fun v245 =>
  optW (loadSc S244 v245) fun v246 =>
  optW (binI .eql v246 (.int .u8 41)) fun v247 =>
  condD v247
  (x = false ∧ (litD S244 1 (fillR 1 (List.replicate 2 [(.int .i64 0)]) [(0, x5), (1, (.int .i64 3))]) 2 fun v248 S249 => (True) ∧
  DF E (FnX Try.prog E w0) f_ops_of [v248] S249 fun v250 S251 => (True) ∧
  optW (offD 3 v241) fun v252 =>
  optW (loadSc S251 v252) fun v253 => ((loadSc S249 (orAny (offD 3 v241)) ≠ none ∧ footW (orAny (offD 3 v241)) S249 S251) ∧ (loadSc S244 (orAny (offD 3 v241)) ≠ none ∧ footW (orAny (offD 3 v241)) S244 S251) ∧ True) ∧
  litD S251 1 (fillR 1 (List.replicate 1 [(.int .i64 0)]) [(0, v253)]) 1 fun v254 S255 => (True) ∧
  DF E (FnX Try.prog E w0) f_ops_effect_gives [v250, v254] S255 fun v256 S257 => (True) ∧
  DF E (FnX Try.prog E w0) f_ops_effect_given [v256, v240] S257 fun v258 S259 => (True) ∧
  storeD S259 3 x4 v258 fun v260 S261 => (True) ∧
  optW (loadAg S261 3 x4) fun v262 => Q v262 S261) ∧
  (litD S244 1 (fillR 1 (List.replicate 2 [(.int .i64 0)]) [(0, x5), (1, (.int .i64 3))]) 2 fun v263 S264 => (True) ∧
  optW (offD 3 v241) fun v265 =>
  optW (loadSc S264 v265) fun v266 => ((loadSc S244 (orAny (offD 3 v241)) ≠ none ∧ footW (orAny (offD 3 v241)) S244 S264) ∧ True) ∧
  litD S264 1 (fillR 1 (List.replicate 1 [(.int .i64 0)]) [(0, v266)]) 1 fun v267 S268 => (True) ∧
  DF E (FnX Try.prog E w0) f_ops_of [v263] S268 fun v269 S270 => (True) ∧
  DF E (FnX Try.prog E w0) f_ops_effect_gives [v269, v267] S270 fun v271 S272 => (True) ∧
  DF E (FnX Try.prog E w0) f_ops_effect_given [v271, v240] S272 fun v273 S274 => (True) ∧
  storeD S274 3 x4 v273 fun v275 S276 => (True) ∧
  optW (loadAg S276 3 x4) fun v277 => Q v277 S276) ∧
  (optW (offD 3 v241) fun v278 =>
  optW (loadSc S244 v278) fun v279 => (True) ∧
  litD S244 1 (fillR 1 (List.replicate 1 [(.int .i64 0)]) [(0, v279)]) 1 fun v280 S281 => (True) ∧
  litD S281 1 (fillR 1 (List.replicate 2 [(.int .i64 0)]) [(0, x5), (1, (.int .i64 3))]) 2 fun v282 S283 => (True) ∧
  DF E (FnX Try.prog E w0) f_ops_of [v282] S283 fun v284 S285 => (True) ∧
  DF E (FnX Try.prog E w0) f_ops_effect_gives [v284, v280] S285 fun v286 S287 => (True) ∧
  DF E (FnX Try.prog E w0) f_ops_effect_given [v286, v240] S287 fun v288 S289 => (True) ∧
  storeD S289 3 x4 v288 fun v290 S291 => (True) ∧
  optW (loadAg S291 3 x4) fun v292 => Q v292 S291) ∧
  True)
  (optW (binI .eql v246 (.int .u8 42)) fun v293 =>
  condD v293
  (optW (offD 3 v241) fun v294 =>
  optW (loadSc S244 v294) fun v295 =>
  litD S244 1 (fillR 1 (List.replicate 3 [(.int .i64 0)]) [(0, x5), (1, (.int .i64 3)), (2, v295)]) 3 fun v296 S297 =>
  DFn Try.prog E w0 x f_ops_of [v296] S297 fun v298 S299 =>
  DFn Try.prog E w0 x f_ops_effect_given [v298, v240] S299 fun v300 S301 =>
  storeD S301 3 x4 v300 fun v302 S303 =>
  optW (loadAg S303 3 x4) fun v304 => Q v304 S303)
  (litD S244 1 (fillR 1 (List.replicate 1 [(.int .i64 0)]) [(0, x5)]) 1 fun v305 S306 =>
  DFn Try.prog E w0 x f_ops_of [v305] S306 fun v307 S308 =>
  litD S308 1 (fillR 1 (List.replicate 1 [(.int .i64 0)]) [(0, (.int .i64 3))]) 1 fun v309 S310 =>
  DFn Try.prog E w0 x f_ops_effect_gives [v307, v309] S310 fun v311 S312 =>
  DFn Try.prog E w0 x f_ops_effect_given [v311, v240] S312 fun v313 S314 =>
  storeD S314 3 x4 v313 fun v315 S316 =>
  optW (loadAg S316 3 x4) fun v317 => Q v317 S316)))))))
def C_ops_made_25 (E : Env) (w0 : World) (x : Bool) (Q : D → DSt → Prop) (x2 x3 x4 x5 x25 x26 : D) (S : DSt) : Prop := CodeD Try.prog E w0 x R_ops_made_25 (mkRow 200 [2, 3, 4, 5, 25, 26] [x2, x3, x4, x5, x25, x26]) S (KC_ops_made_25 E w0 x Q)
theorem C_ops_made_25_ok {E : Env} {w0 : World} {x : Bool} {Q : D → DSt → Prop} {x2 x3 x4 x5 x25 x26 : D} {S : DSt} (h : P_ops_made_25 E w0 x Q x2 x3 x4 x5 x25 x26 S) : C_ops_made_25 E w0 x Q x2 x3 x4 x5 x25 x26 S := codeD_of_vc lo_ops_made cu_ops_made mixed (by kernel_rfl) h
def V_ops_made (E : Env) (w0 : World) (x : Bool) (Q : D → DSt → Prop) (a0 a1 : D) (S : DSt) : Prop :=
  optW (cellsD a0) fun cs => allocD S cs fun v0 S1 =>
  optW (cellsD a1) fun cs => allocD S1 cs fun v2 S3 =>
  allocD S3 [.nilSlc, .nilSlc, (.bool false)] fun v4 S5 =>
  optW (offD 1 v0) fun v6 =>
  optW (loadSc S5 v6) fun v7 =>
  optW (offD 0 v0) fun v8 =>
  optW (loadSc S5 v8) fun v9 =>
  optW (binI .eql v9 (.int .u8 36)) fun v318 =>
  condD v318
  (C_ops_made_25 E w0 x Q v0 v2 v4 v7 v9 v318 S5)
  (optW (binI .eql v9 (.int .u8 37)) fun v319 =>
  condD v319
  (C_ops_made_25 E w0 x Q v0 v2 v4 v7 v9 v319 S5)
  (optW (binI .eql v9 (.int .u8 38)) fun v320 =>
  C_ops_made_25 E w0 x Q v0 v2 v4 v7 v9 v320 S5))
theorem V_ops_made_ok {E : Env} {w0 : World} {x : Bool} {Q : D → DSt → Prop} {a0 a1 : D} {S : DSt} (h : V_ops_made E w0 x (FinD E Q) a0 a1 S) : DFn Try.prog E w0 x f_ops_made [a0, a1] S Q :=
  fnD_of_vc lo_ops_made cu_ops_made (fn := Try.f90) (c := Try.f90.body.getD .skip) mixed Try.func90 (by kernel_rfl) (by kernel_rfl) h

/- trammel/ops.plain -/
def lo_ops_plain : List (Nat × List Nat) := []
def cu_ops_plain : List (Nat × List Nat) := [(25, [1, 2, 3, 7, 8]), (37, [1, 2, 3, 7, 18]), (57, [1, 2, 3, 7, 29]), (77, [1, 2, 3, 7, 40]), (105, [1, 2, 3, 7, 49]), (173, [2, 3, 7, 107]), (197, [2, 3, 117])]
noncomputable def R_ops_plain_197 : Code := (codeAt [1, 1, 0, 1, 0, 1, 1, 1, 1, 1, 1, 1, 1, 1, 1, 1, 1, 1, 1, 1, 1, 1, 1, 1, 1, 1, 1, 1, 1, 1, 1, 1, 1, 1, 1, 1, 1, 1] (Try.f91.body.getD .skip))
def KC_ops_plain_197 (E : Env) (w0 : World) (x : Bool) (Q : D → DSt → Prop) : AExit → List D → DSt → Prop :=
  (blockD 0 (seqD Try.prog E w0 x lo_ops_plain cu_ops_plain (codeAt [1, 1, 1] (Try.f91.body.getD .skip)) (retD Try.prog Try.f91 Q)))
def P_ops_plain_197 (E : Env) (w0 : World) (x : Bool) (Q : D → DSt → Prop) (x2 x3 x117 : D) (S : DSt) : Prop :=
  condD x117
  (DFn Try.prog E w0 x f_ops_of [.nilSlc] S fun v219 S220 =>
  storeD S220 3 x2 v219 fun v221 S222 =>
  optW (loadAg S222 3 x2) fun v223 => Q v223 S222)
  (litD S 1 (fillR 1 (List.replicate 2 [(.int .i64 0)]) [(0, x3), (1, x3)]) 2 fun v224 S225 =>
  DFn Try.prog E w0 x f_ops_of [v224] S225 fun v226 S227 =>
  litD S227 1 (fillR 1 (List.replicate 1 [(.int .i64 0)]) [(0, x3)]) 1 fun v228 S229 =>
  DFn Try.prog E w0 x f_ops_effect_gives [v226, v228] S229 fun v230 S231 =>
  storeD S231 3 x2 v230 fun v232 S233 =>
  optW (loadAg S233 3 x2) fun v234 => Q v234 S233)
def C_ops_plain_197 (E : Env) (w0 : World) (x : Bool) (Q : D → DSt → Prop) (x2 x3 x117 : D) (S : DSt) : Prop := CodeD Try.prog E w0 x R_ops_plain_197 (mkRow 129 [2, 3, 117] [x2, x3, x117]) S (KC_ops_plain_197 E w0 x Q)
theorem C_ops_plain_197_ok {E : Env} {w0 : World} {x : Bool} {Q : D → DSt → Prop} {x2 x3 x117 : D} {S : DSt} (h : P_ops_plain_197 E w0 x Q x2 x3 x117 S) : C_ops_plain_197 E w0 x Q x2 x3 x117 S := codeD_of_vc lo_ops_plain cu_ops_plain mixed (by kernel_rfl) h
noncomputable def R_ops_plain_173 : Code := (codeAt [1, 1, 0, 1, 0, 1, 1, 1, 1, 1, 1, 1, 1, 1, 1, 1, 1, 1, 1, 1, 1, 1, 1, 1, 1, 1, 1, 1, 1, 1, 1, 1, 1, 1] (Try.f91.body.getD .skip))
def KC_ops_plain_173 (E : Env) (w0 : World) (x : Bool) (Q : D → DSt → Prop) : AExit → List D → DSt → Prop :=
  (blockD 0 (seqD Try.prog E w0 x lo_ops_plain cu_ops_plain (codeAt [1, 1, 1] (Try.f91.body.getD .skip)) (retD Try.prog Try.f91 Q)))
def P_ops_plain_173 (E : Env) (w0 : World) (x : Bool) (Q : D → DSt → Prop) (x2 x3 x7 x107 : D) (S : DSt) : Prop :=
  condD x107
  (litD S 1 (fillR 1 (List.replicate 1 [(.int .i64 0)]) [(0, (.int .i64 4))]) 1 fun v204 S205 =>
  DFn Try.prog E w0 x f_ops_of [v204] S205 fun v206 S207 =>
  storeD S207 3 x2 v206 fun v208 S209 =>
  optW (loadAg S209 3 x2) fun v210 => Q v210 S209)
  (optW (binI .eql x7 (.int .u8 49)) fun v211 =>
  condD v211
  (litD S 1 (fillR 1 (List.replicate 1 [(.int .i64 0)]) [(0, x3)]) 1 fun v212 S213 =>
  DFn Try.prog E w0 x f_ops_of [v212] S213 fun v214 S215 =>
  storeD S215 3 x2 v214 fun v216 S217 =>
  optW (loadAg S217 3 x2) fun v218 => Q v218 S217)
  (optW (binI .eql x7 (.int .u8 46)) fun v235 =>
  condD v235
  (C_ops_plain_197 E w0 x Q x2 x3 v235 S)
  (optW (binI .eql x7 (.int .u8 51)) fun v236 =>
  condD v236
  (C_ops_plain_197 E w0 x Q x2 x3 v236 S)
  (optW (binI .eql x7 (.int .u8 52)) fun v237 =>
  C_ops_plain_197 E w0 x Q x2 x3 v237 S))))
def C_ops_plain_173 (E : Env) (w0 : World) (x : Bool) (Q : D → DSt → Prop) (x2 x3 x7 x107 : D) (S : DSt) : Prop := CodeD Try.prog E w0 x R_ops_plain_173 (mkRow 129 [2, 3, 7, 107] [x2, x3, x7, x107]) S (KC_ops_plain_173 E w0 x Q)
theorem C_ops_plain_173_ok {E : Env} {w0 : World} {x : Bool} {Q : D → DSt → Prop} {x2 x3 x7 x107 : D} {S : DSt} (h : P_ops_plain_173 E w0 x Q x2 x3 x7 x107 S) : C_ops_plain_173 E w0 x Q x2 x3 x7 x107 S := codeD_of_vc lo_ops_plain cu_ops_plain mixed (by kernel_rfl) h
noncomputable def R_ops_plain_105 : Code := (codeAt [1, 1, 0, 1, 0, 1, 1, 1, 1, 1, 1, 1, 1, 1, 1, 1, 1, 1] (Try.f91.body.getD .skip))
def KC_ops_plain_105 (E : Env) (w0 : World) (x : Bool) (Q : D → DSt → Prop) : AExit → List D → DSt → Prop :=
  (blockD 0 (seqD Try.prog E w0 x lo_ops_plain cu_ops_plain (codeAt [1, 1, 1] (Try.f91.body.getD .skip)) (retD Try.prog Try.f91 Q)))
def P_ops_plain_105 (E : Env) (w0 : World) (x : Bool) (Q : D → DSt → Prop) (x1 x2 x3 x7 x49 : D) (S : DSt) : Prop :=
  condD x49
  (litD S 1 (fillR 1 (List.replicate 2 [(.int .i64 0)]) [(0, x3), (1, x3)]) 2 fun v81 S82 =>
  DFn Try.prog E w0 x f_ops_of [v81] S82 fun v83 S84 =>
  litD S84 1 (fillR 1 (List.replicate 1 [(.int .i64 0)]) [(0, (.int .i64 4))]) 1 fun v85 S86 =>
  DFn Try.prog E w0 x f_ops_effect_gives [v83, v85] S86 fun v87 S88 =>
  storeD S88 3 x2 v87 fun v89 S90 =>
  optW (loadAg S90 3 x2) fun v91 => Q v91 S90)
  (optW (binI .eql x7 (.int .u8 29)) fun v92 =>
  condD v92
  (x = false ∧ (litD S 1 (fillR 1 (List.replicate 1 [(.int .i64 0)]) [(0, x3)]) 1 fun v93 S94 => (True) ∧
  DF E (FnX Try.prog E w0) f_ops_of [v93] S94 fun v95 S96 => (True) ∧
  optW (offD 2 x1) fun v97 =>
  optW (loadSc S96 v97) fun v98 => ((loadSc S94 (orAny (offD 2 x1)) ≠ none ∧ footW (orAny (offD 2 x1)) S94 S96) ∧ (loadSc S (orAny (offD 2 x1)) ≠ none ∧ footW (orAny (offD 2 x1)) S S96) ∧ True) ∧
  litD S96 1 (fillR 1 (List.replicate 1 [(.int .i64 0)]) [(0, v98)]) 1 fun v99 S100 => (True) ∧
  DF E (FnX Try.prog E w0) f_ops_effect_gives [v95, v99] S100 fun v101 S102 => (True) ∧
  storeD S102 3 x2 v101 fun v103 S104 => (True) ∧
  optW (loadAg S104 3 x2) fun v105 => Q v105 S104) ∧
  (litD S 1 (fillR 1 (List.replicate 1 [(.int .i64 0)]) [(0, x3)]) 1 fun v106 S107 => (True) ∧
  optW (offD 2 x1) fun v108 =>
  optW (loadSc S107 v108) fun v109 => ((loadSc S (orAny (offD 2 x1)) ≠ none ∧ footW (orAny (offD 2 x1)) S S107) ∧ True) ∧
  litD S107 1 (fillR 1 (List.replicate 1 [(.int .i64 0)]) [(0, v109)]) 1 fun v110 S111 => (True) ∧
  DF E (FnX Try.prog E w0) f_ops_of [v106] S111 fun v112 S113 => (True) ∧
  DF E (FnX Try.prog E w0) f_ops_effect_gives [v112, v110] S113 fun v114 S115 => (True) ∧
  storeD S115 3 x2 v114 fun v116 S117 => (True) ∧
  optW (loadAg S117 3 x2) fun v118 => Q v118 S117) ∧
  (optW (offD 2 x1) fun v119 =>
  optW (loadSc S v119) fun v120 => (True) ∧
  litD S 1 (fillR 1 (List.replicate 1 [(.int .i64 0)]) [(0, v120)]) 1 fun v121 S122 => (True) ∧
  litD S122 1 (fillR 1 (List.replicate 1 [(.int .i64 0)]) [(0, x3)]) 1 fun v123 S124 => (True) ∧
  DF E (FnX Try.prog E w0) f_ops_of [v123] S124 fun v125 S126 => (True) ∧
  DF E (FnX Try.prog E w0) f_ops_effect_gives [v125, v121] S126 fun v127 S128 => (True) ∧
  storeD S128 3 x2 v127 fun v129 S130 => (True) ∧
  optW (loadAg S130 3 x2) fun v131 => Q v131 S130) ∧
  True)
  (optW (binI .eql x7 (.int .u8 30)) fun v132 =>
  condD v132
  (litD S 1 (fillR 1 (List.replicate 1 [(.int .i64 0)]) [(0, (.int .i64 4))]) 1 fun v133 S134 =>
  DFn Try.prog E w0 x f_ops_of [v133] S134 fun v135 S136 =>
  litD S136 1 (fillR 1 (List.replicate 1 [(.int .i64 0)]) [(0, (.int .i64 4))]) 1 fun v137 S138 =>
  DFn Try.prog E w0 x f_ops_effect_gives [v135, v137] S138 fun v139 S140 =>
  storeD S140 3 x2 v139 fun v141 S142 =>
  optW (loadAg S142 3 x2) fun v143 => Q v143 S142)
  (optW (binI .eql x7 (.int .u8 31)) fun v144 =>
  condD v144
  (litD S 1 (fillR 1 (List.replicate 2 [(.int .i64 0)]) [(0, (.int .i64 5)), (1, (.int .i64 5))]) 2 fun v145 S146 =>
  DFn Try.prog E w0 x f_ops_of [v145] S146 fun v147 S148 =>
  litD S148 1 (fillR 1 (List.replicate 1 [(.int .i64 0)]) [(0, (.int .i64 5))]) 1 fun v149 S150 =>
  DFn Try.prog E w0 x f_ops_effect_gives [v147, v149] S150 fun v151 S152 =>
  storeD S152 3 x2 v151 fun v153 S154 =>
  optW (loadAg S154 3 x2) fun v155 => Q v155 S154)
  (optW (binI .eql x7 (.int .u8 32)) fun v156 =>
  condD v156
  (litD S 1 (fillR 1 (List.replicate 1 [(.int .i64 0)]) [(0, (.int .i64 5))]) 1 fun v157 S158 =>
  DFn Try.prog E w0 x f_ops_of [v157] S158 fun v159 S160 =>
  litD S160 1 (fillR 1 (List.replicate 1 [(.int .i64 0)]) [(0, (.int .i64 3))]) 1 fun v161 S162 =>
  DFn Try.prog E w0 x f_ops_effect_gives [v159, v161] S162 fun v163 S164 =>
  storeD S164 3 x2 v163 fun v165 S166 =>
  optW (loadAg S166 3 x2) fun v167 => Q v167 S166)
  (optW (binI .eql x7 (.int .u8 33)) fun v168 =>
  condD v168
  (litD S 1 (fillR 1 (List.replicate 2 [(.int .i64 0)]) [(0, (.int .i64 5)), (1, (.int .i64 3))]) 2 fun v169 S170 =>
  DFn Try.prog E w0 x f_ops_of [v169] S170 fun v171 S172 =>
  litD S172 1 (fillR 1 (List.replicate 1 [(.int .i64 0)]) [(0, (.int .i64 2))]) 1 fun v173 S174 =>
  DFn Try.prog E w0 x f_ops_effect_gives [v171, v173] S174 fun v175 S176 =>
  storeD S176 3 x2 v175 fun v177 S178 =>
  optW (loadAg S178 3 x2) fun v179 => Q v179 S178)
  (optW (binI .eql x7 (.int .u8 34)) fun v180 =>
  condD v180
  (litD S 1 (fillR 1 (List.replicate 3 [(.int .i64 0)]) [(0, (.int .i64 5)), (1, (.int .i64 3)), (2, (.int .i64 3))]) 3 fun v181 S182 =>
  DFn Try.prog E w0 x f_ops_of [v181] S182 fun v183 S184 =>
  litD S184 1 (fillR 1 (List.replicate 1 [(.int .i64 0)]) [(0, (.int .i64 5))]) 1 fun v185 S186 =>
  DFn Try.prog E w0 x f_ops_effect_gives [v183, v185] S186 fun v187 S188 =>
  storeD S188 3 x2 v187 fun v189 S190 =>
  optW (loadAg S190 3 x2) fun v191 => Q v191 S190)
  (optW (binI .eql x7 (.int .u8 35)) fun v192 =>
  condD v192
  (litD S 1 (fillR 1 (List.replicate 1 [(.int .i64 0)]) [(0, (.int .i64 2))]) 1 fun v193 S194 =>
  DFn Try.prog E w0 x f_ops_of [v193] S194 fun v195 S196 =>
  litD S196 1 (fillR 1 (List.replicate 1 [(.int .i64 0)]) [(0, (.int .i64 5))]) 1 fun v197 S198 =>
  DFn Try.prog E w0 x f_ops_effect_gives [v195, v197] S198 fun v199 S200 =>
  storeD S200 3 x2 v199 fun v201 S202 =>
  optW (loadAg S202 3 x2) fun v203 => Q v203 S202)
  (optW (binI .eql x7 (.int .u8 47)) fun v238 =>
  condD v238
  (C_ops_plain_173 E w0 x Q x2 x3 x7 v238 S)
  (optW (binI .eql x7 (.int .u8 48)) fun v239 =>
  C_ops_plain_173 E w0 x Q x2 x3 x7 v239 S)))))))))
def C_ops_plain_105 (E : Env) (w0 : World) (x : Bool) (Q : D → DSt → Prop) (x1 x2 x3 x7 x49 : D) (S : DSt) : Prop := CodeD Try.prog E w0 x R_ops_plain_105 (mkRow 129 [1, 2, 3, 7, 49] [x1, x2, x3, x7, x49]) S (KC_ops_plain_105 E w0 x Q)
theorem C_ops_plain_105_ok {E : Env} {w0 : World} {x : Bool} {Q : D → DSt → Prop} {x1 x2 x3 x7 x49 : D} {S : DSt} (h : P_ops_plain_105 E w0 x Q x1 x2 x3 x7 x49 S) : C_ops_plain_105 E w0 x Q x1 x2 x3 x7 x49 S := codeD_of_vc lo_ops_plain cu_ops_plain mixed (by kernel_rfl) h
noncomputable def R_ops_plain_77 : Code := (codeAt [1, 1, 0, 1, 0, 1, 1, 1, 1, 1, 1, 1, 1, 1, 1, 1] (Try.f91.body.getD .skip))
def KC_ops_plain_77 (E : Env) (w0 : World) (x : Bool) (Q : D → DSt → Prop) : AExit → List D → DSt → Prop :=
  (blockD 0 (seqD Try.prog E w0 x lo_ops_plain cu_ops_plain (codeAt [1, 1, 1] (Try.f91.body.getD .skip)) (retD Try.prog Try.f91 Q)))
def P_ops_plain_77 (E : Env) (w0 : World) (x : Bool) (Q : D → DSt → Prop) (x1 x2 x3 x7 x40 : D) (S : DSt) : Prop :=
  condD x40
  (litD S 1 (fillR 1 (List.replicate 1 [(.int .i64 0)]) [(0, x3)]) 1 fun v70 S71 =>
  DFn Try.prog E w0 x f_ops_of [v70] S71 fun v72 S73 =>
  litD S73 1 (fillR 1 (List.replicate 1 [(.int .i64 0)]) [(0, x3)]) 1 fun v74 S75 =>
  DFn Try.prog E w0 x f_ops_effect_gives [v72, v74] S75 fun v76 S77 =>
  storeD S77 3 x2 v76 fun v78 S79 =>
  optW (loadAg S79 3 x2) fun v80 => Q v80 S79)
  (optW (binI .eql x7 (.int .u8 23)) fun v240 =>
  condD v240
  (C_ops_plain_105 E w0 x Q x1 x2 x3 x7 v240 S)
  (optW (binI .eql x7 (.int .u8 24)) fun v241 =>
  condD v241
  (C_ops_plain_105 E w0 x Q x1 x2 x3 x7 v241 S)
  (optW (binI .eql x7 (.int .u8 25)) fun v242 =>
  condD v242
  (C_ops_plain_105 E w0 x Q x1 x2 x3 x7 v242 S)
  (optW (binI .eql x7 (.int .u8 26)) fun v243 =>
  condD v243
  (C_ops_plain_105 E w0 x Q x1 x2 x3 x7 v243 S)
  (optW (binI .eql x7 (.int .u8 27)) fun v244 =>
  condD v244
  (C_ops_plain_105 E w0 x Q x1 x2 x3 x7 v244 S)
  (optW (binI .eql x7 (.int .u8 28)) fun v245 =>
  C_ops_plain_105 E w0 x Q x1 x2 x3 x7 v245 S))))))
def C_ops_plain_77 (E : Env) (w0 : World) (x : Bool) (Q : D → DSt → Prop) (x1 x2 x3 x7 x40 : D) (S : DSt) : Prop := CodeD Try.prog E w0 x R_ops_plain_77 (mkRow 129 [1, 2, 3, 7, 40] [x1, x2, x3, x7, x40]) S (KC_ops_plain_77 E w0 x Q)
theorem C_ops_plain_77_ok {E : Env} {w0 : World} {x : Bool} {Q : D → DSt → Prop} {x1 x2 x3 x7 x40 : D} {S : DSt} (h : P_ops_plain_77 E w0 x Q x1 x2 x3 x7 x40 S) : C_ops_plain_77 E w0 x Q x1 x2 x3 x7 x40 S := codeD_of_vc lo_ops_plain cu_ops_plain mixed (by kernel_rfl) h
noncomputable def R_ops_plain_57 : Code := (codeAt [1, 1, 0, 1, 0, 1, 1, 1, 1, 1, 1, 1] (Try.f91.body.getD .skip))
def KC_ops_plain_57 (E : Env) (w0 : World) (x : Bool) (Q : D → DSt → Prop) : AExit → List D → DSt → Prop :=
  (blockD 0 (seqD Try.prog E w0 x lo_ops_plain cu_ops_plain (codeAt [1, 1, 1] (Try.f91.body.getD .skip)) (retD Try.prog Try.f91 Q)))
def P_ops_plain_57 (E : Env) (w0 : World) (x : Bool) (Q : D → DSt → Prop) (x1 x2 x3 x7 x29 : D) (S : DSt) : Prop :=
  condD x29
  (litD S 1 (fillR 1 (List.replicate 1 [(.int .i64 0)]) [(0, (.int .i64 0))]) 1 fun v51 S52 =>
  DFn Try.prog E w0 x f_ops_of [v51] S52 fun v53 S54 =>
  storeD S54 3 x2 v53 fun v55 S56 =>
  optW (loadAg S56 3 x2) fun v57 => Q v57 S56)
  (optW (binI .eql x7 (.int .u8 10)) fun v58 =>
  condD v58
  (litD S 1 (fillR 1 (List.replicate 1 [(.int .i64 0)]) [(0, (.int .i64 0))]) 1 fun v59 S60 =>
  DFn Try.prog E w0 x f_ops_of [v59] S60 fun v61 S62 =>
  litD S62 1 (fillR 1 (List.replicate 2 [(.int .i64 0)]) [(0, (.int .i64 0)), (1, (.int .i64 0))]) 2 fun v63 S64 =>
  DFn Try.prog E w0 x f_ops_effect_gives [v61, v63] S64 fun v65 S66 =>
  storeD S66 3 x2 v65 fun v67 S68 =>
  optW (loadAg S68 3 x2) fun v69 => Q v69 S68)
  (optW (binI .eql x7 (.int .u8 21)) fun v246 =>
  condD v246
  (C_ops_plain_77 E w0 x Q x1 x2 x3 x7 v246 S)
  (optW (binI .eql x7 (.int .u8 22)) fun v247 =>
  C_ops_plain_77 E w0 x Q x1 x2 x3 x7 v247 S)))
def C_ops_plain_57 (E : Env) (w0 : World) (x : Bool) (Q : D → DSt → Prop) (x1 x2 x3 x7 x29 : D) (S : DSt) : Prop := CodeD Try.prog E w0 x R_ops_plain_57 (mkRow 129 [1, 2, 3, 7, 29] [x1, x2, x3, x7, x29]) S (KC_ops_plain_57 E w0 x Q)
theorem C_ops_plain_57_ok {E : Env} {w0 : World} {x : Bool} {Q : D → DSt → Prop} {x1 x2 x3 x7 x29 : D} {S : DSt} (h : P_ops_plain_57 E w0 x Q x1 x2 x3 x7 x29 S) : C_ops_plain_57 E w0 x Q x1 x2 x3 x7 x29 S := codeD_of_vc lo_ops_plain cu_ops_plain mixed (by kernel_rfl) h
noncomputable def R_ops_plain_37 : Code := (codeAt [1, 1, 0, 1, 0, 1, 1, 1] (Try.f91.body.getD .skip))
def KC_ops_plain_37 (E : Env) (w0 : World) (x : Bool) (Q : D → DSt → Prop) : AExit → List D → DSt → Prop :=
  (blockD 0 (seqD Try.prog E w0 x lo_ops_plain cu_ops_plain (codeAt [1, 1, 1] (Try.f91.body.getD .skip)) (retD Try.prog Try.f91 Q)))
def P_ops_plain_37 (E : Env) (w0 : World) (x : Bool) (Q : D → DSt → Prop) (x1 x2 x3 x7 x18 : D) (S : DSt) : Prop :=
  condD x18
  (DFn Try.prog E w0 x f_ops_of [.nilSlc] S fun v32 S33 =>
  litD S33 1 (fillR 1 (List.replicate 1 [(.int .i64 0)]) [(0, (.int .i64 4))]) 1 fun v34 S35 =>
  DFn Try.prog E w0 x f_ops_effect_gives [v32, v34] S35 fun v36 S37 =>
  storeD S37 3 x2 v36 fun v38 S39 =>
  optW (loadAg S39 3 x2) fun v40 => Q v40 S39)
  (optW (binI .eql x7 (.int .u8 7)) fun v41 =>
  condD v41
  (DFn Try.prog E w0 x f_ops_of [.nilSlc] S fun v42 S43 =>
  litD S43 1 (fillR 1 (List.replicate 1 [(.int .i64 0)]) [(0, (.int .i64 0))]) 1 fun v44 S45 =>
  DFn Try.prog E w0 x f_ops_effect_gives [v42, v44] S45 fun v46 S47 =>
  storeD S47 3 x2 v46 fun v48 S49 =>
  optW (loadAg S49 3 x2) fun v50 => Q v50 S49)
  (optW (binI .eql x7 (.int .u8 8)) fun v248 =>
  condD v248
  (C_ops_plain_57 E w0 x Q x1 x2 x3 x7 v248 S)
  (optW (binI .eql x7 (.int .u8 9)) fun v249 =>
  C_ops_plain_57 E w0 x Q x1 x2 x3 x7 v249 S)))
def C_ops_plain_37 (E : Env) (w0 : World) (x : Bool) (Q : D → DSt → Prop) (x1 x2 x3 x7 x18 : D) (S : DSt) : Prop := CodeD Try.prog E w0 x R_ops_plain_37 (mkRow 129 [1, 2, 3, 7, 18] [x1, x2, x3, x7, x18]) S (KC_ops_plain_37 E w0 x Q)
theorem C_ops_plain_37_ok {E : Env} {w0 : World} {x : Bool} {Q : D → DSt → Prop} {x1 x2 x3 x7 x18 : D} {S : DSt} (h : P_ops_plain_37 E w0 x Q x1 x2 x3 x7 x18 S) : C_ops_plain_37 E w0 x Q x1 x2 x3 x7 x18 S := codeD_of_vc lo_ops_plain cu_ops_plain mixed (by kernel_rfl) h
noncomputable def R_ops_plain_25 : Code := (codeAt [1, 1, 0, 1, 0, 1] (Try.f91.body.getD .skip))
def KC_ops_plain_25 (E : Env) (w0 : World) (x : Bool) (Q : D → DSt → Prop) : AExit → List D → DSt → Prop :=
  (blockD 0 (seqD Try.prog E w0 x lo_ops_plain cu_ops_plain (codeAt [1, 1, 1] (Try.f91.body.getD .skip)) (retD Try.prog Try.f91 Q)))
def P_ops_plain_25 (E : Env) (w0 : World) (x : Bool) (Q : D → DSt → Prop) (x1 x2 x3 x7 x8 : D) (S : DSt) : Prop :=
  condD x8
  (x = false ∧ (DF E (FnX Try.prog E w0) f_ops_of [.nilSlc] S fun v8 S9 => (True) ∧
  optW (offD 0 x1) fun v10 =>
  optW (loadSc S9 v10) fun v11 => ((loadSc S (orAny (offD 0 x1)) ≠ none ∧ footW (orAny (offD 0 x1)) S S9) ∧ True) ∧
  optW (convI .i64 v11) fun v12 =>
  litD S9 1 (fillR 1 (List.replicate 1 [(.int .i64 0)]) [(0, v12)]) 1 fun v13 S14 => (True) ∧
  DF E (FnX Try.prog E w0) f_ops_effect_gives [v8, v13] S14 fun v15 S16 => (True) ∧
  storeD S16 3 x2 v15 fun v17 S18 => (True) ∧
  optW (loadAg S18 3 x2) fun v19 => Q v19 S18) ∧
  (optW (offD 0 x1) fun v20 =>
  optW (loadSc S v20) fun v21 => (True) ∧
  optW (convI .i64 v21) fun v22 =>
  litD S 1 (fillR 1 (List.replicate 1 [(.int .i64 0)]) [(0, v22)]) 1 fun v23 S24 => (True) ∧
  DF E (FnX Try.prog E w0) f_ops_of [.nilSlc] S24 fun v25 S26 => (True) ∧
  DF E (FnX Try.prog E w0) f_ops_effect_gives [v25, v23] S26 fun v27 S28 => (True) ∧
  storeD S28 3 x2 v27 fun v29 S30 => (True) ∧
  optW (loadAg S30 3 x2) fun v31 => Q v31 S30) ∧
  True)
  (optW (binI .eql x7 (.int .u8 4)) fun v250 =>
  condD v250
  (C_ops_plain_37 E w0 x Q x1 x2 x3 x7 v250 S)
  (optW (binI .eql x7 (.int .u8 5)) fun v251 =>
  C_ops_plain_37 E w0 x Q x1 x2 x3 x7 v251 S))
def C_ops_plain_25 (E : Env) (w0 : World) (x : Bool) (Q : D → DSt → Prop) (x1 x2 x3 x7 x8 : D) (S : DSt) : Prop := CodeD Try.prog E w0 x R_ops_plain_25 (mkRow 129 [1, 2, 3, 7, 8] [x1, x2, x3, x7, x8]) S (KC_ops_plain_25 E w0 x Q)
theorem C_ops_plain_25_ok {E : Env} {w0 : World} {x : Bool} {Q : D → DSt → Prop} {x1 x2 x3 x7 x8 : D} {S : DSt} (h : P_ops_plain_25 E w0 x Q x1 x2 x3 x7 x8 S) : C_ops_plain_25 E w0 x Q x1 x2 x3 x7 x8 S := codeD_of_vc lo_ops_plain cu_ops_plain mixed (by kernel_rfl) h
def V_ops_plain (E : Env) (w0 : World) (x : Bool) (Q : D → DSt → Prop) (a0 : D) (S : DSt) : Prop :=
  optW (cellsD a0) fun cs => allocD S cs fun v0 S1 =>
  allocD S1 [.nilSlc, .nilSlc, (.bool false)] fun v2 S3 =>
  optW (offD 1 v0) fun v4 =>
  optW (loadSc S3 v4) fun v5 =>
  optW (offD 0 v0) fun v6 =>
  optW (loadSc S3 v6) fun v7 =>
  optW (binI .eql v7 (.int .u8 1)) fun v252 =>
  condD v252
  (C_ops_plain_25 E w0 x Q v0 v2 v5 v7 v252 S3)
  (optW (binI .eql v7 (.int .u8 2)) fun v253 =>
  condD v253
  (C_ops_plain_25 E w0 x Q v0 v2 v5 v7 v253 S3)
  (optW (binI .eql v7 (.int .u8 3)) fun v254 =>
  C_ops_plain_25 E w0 x Q v0 v2 v5 v7 v254 S3))
theorem V_ops_plain_ok {E : Env} {w0 : World} {x : Bool} {Q : D → DSt → Prop} {a0 : D} {S : DSt} (h : V_ops_plain E w0 x (FinD E Q) a0 S) : DFn Try.prog E w0 x f_ops_plain [a0] S Q :=
  fnD_of_vc lo_ops_plain cu_ops_plain (fn := Try.f91) (c := Try.f91.body.getD .skip) mixed Try.func91 (by kernel_rfl) (by kernel_rfl) h

/- trammel/ops.Takes -/
def lo_ops_Takes : List (Nat × List Nat) := []
def cu_ops_Takes : List (Nat × List Nat) := [(26, [7])]
noncomputable def R_ops_Takes_26 : Code := (codeAt [1, 1, 1, 1] (Try.f77.body.getD .skip))
def KC_ops_Takes_26 (E : Env) (w0 : World) (x : Bool) (Q : D → DSt → Prop) : AExit → List D → DSt → Prop :=
  (retD Try.prog Try.f77 Q)
def P_ops_Takes_26 (E : Env) (w0 : World) (x : Bool) (Q : D → DSt → Prop) (x7 : D) (S : DSt) : Prop :=
  optW (offD 2 x7) fun v10 =>
  optW (loadSc S v10) fun v11 =>
  optW (unD .not v11) fun v12 =>
  condD v12
  (Q (.tup [.nilSlc, .nilSlc, (.int .i64 2)]) S)
  (optW (offD 0 x7) fun v13 =>
  optW (loadSc S v13) fun v14 => (True) ∧
  optW (offD 1 x7) fun v15 =>
  optW (loadSc S v15) fun v16 => (True) ∧
  Q (.tup [v14, v16, (.int .i64 0)]) S)
def C_ops_Takes_26 (E : Env) (w0 : World) (x : Bool) (Q : D → DSt → Prop) (x7 : D) (S : DSt) : Prop := CodeD Try.prog E w0 x R_ops_Takes_26 (mkRow 71 [7] [x7]) S (KC_ops_Takes_26 E w0 x Q)
theorem C_ops_Takes_26_ok {E : Env} {w0 : World} {x : Bool} {Q : D → DSt → Prop} {x7 : D} {S : DSt} (h : P_ops_Takes_26 E w0 x Q x7 S) : C_ops_Takes_26 E w0 x Q x7 S := codeD_of_vc lo_ops_Takes cu_ops_Takes mixed (by kernel_rfl) h
def V_ops_Takes (E : Env) (w0 : World) (x : Bool) (Q : D → DSt → Prop) (a0 a1 : D) (S : DSt) : Prop :=
  optW (cellsD a0) fun cs => allocD S cs fun v0 S1 =>
  optW (cellsD a1) fun cs => allocD S1 cs fun v2 S3 =>
  optW (loadAg S3 4 v0) fun v4 =>
  DFn Try.prog E w0 x f_ops_Size [v4] S3 fun v5 S6 =>
  optW (binI .eql v5 (.int .i64 0)) fun v7 =>
  condD v7
  (Q (.tup [.nilSlc, .nilSlc, (.int .i64 120)]) S6)
  (allocD S6 [.nilSlc, .nilSlc, (.bool false)] fun v8 S9 =>
  optW (offD 0 v0) fun v17 =>
  optW (loadSc S9 v17) fun v18 =>
  optW (binI .eql v18 (.int .u8 6)) fun v19 =>
  condD v19
  (x = false ∧ (DF E (FnX Try.prog E w0) f_ops_of [.nilSlc] S9 fun v20 S21 => (True) ∧
  litD S21 1 (fillR 1 (List.replicate 1 [(.int .i64 0)]) [(0, (.int .i64 5))]) 1 fun v22 S23 => (True) ∧
  DF E (FnX Try.prog E w0) f_ops_effect_gives [v20, v22] S23 fun v24 S25 => (True) ∧
  optW (offD 1 v0) fun v26 =>
  optW (loadSc S25 v26) fun v27 => ((loadSc S23 (orAny (offD 1 v0)) ≠ none ∧ footW (orAny (offD 1 v0)) S23 S25) ∧ (loadSc S21 (orAny (offD 1 v0)) ≠ none ∧ footW (orAny (offD 1 v0)) S21 S25) ∧ (loadSc S9 (orAny (offD 1 v0)) ≠ none ∧ footW (orAny (offD 1 v0)) S9 S25) ∧ True) ∧
  optW (offD 1 v2) fun v28 =>
  optW (loadSc S25 v28) fun v29 => ((loadSc S23 (orAny (offD 1 v2)) ≠ none ∧ footW (orAny (offD 1 v2)) S23 S25) ∧ (loadSc S21 (orAny (offD 1 v2)) ≠ none ∧ footW (orAny (offD 1 v2)) S21 S25) ∧ (loadSc S9 (orAny (offD 1 v2)) ≠ none ∧ footW (orAny (offD 1 v2)) S9 S25) ∧ True) ∧
  optW (lenSl v29) fun v30 => ((lenSl (orAny (loadSc S23 (orAny (offD 1 v2)))) ≠ none ∧ True) ∧ (lenSl (orAny (loadSc S21 (orAny (offD 1 v2)))) ≠ none ∧ True) ∧ (lenSl (orAny (loadSc S9 (orAny (offD 1 v2)))) ≠ none ∧ True) ∧ True) ∧
  optW (binI .lss v27 v30) fun v31 =>
  DF E (FnX Try.prog E w0) f_ops_effect_given [v24, v31] S25 fun v32 S33 => (True) ∧
  storeD S33 3 v8 v32 fun v34 S35 => (True) ∧
  C_ops_Takes_26 E w0 x Q v8 S35) ∧
  (litD S9 1 (fillR 1 (List.replicate 1 [(.int .i64 0)]) [(0, (.int .i64 5))]) 1 fun v36 S37 => (True) ∧
  DF E (FnX Try.prog E w0) f_ops_of [.nilSlc] S37 fun v38 S39 => (True) ∧
  DF E (FnX Try.prog E w0) f_ops_effect_gives [v38, v36] S39 fun v40 S41 => (True) ∧
  optW (offD 1 v0) fun v42 =>
  optW (loadSc S41 v42) fun v43 => ((loadSc S39 (orAny (offD 1 v0)) ≠ none ∧ footW (orAny (offD 1 v0)) S39 S41) ∧ (loadSc S37 (orAny (offD 1 v0)) ≠ none ∧ footW (orAny (offD 1 v0)) S37 S41) ∧ (loadSc S9 (orAny (offD 1 v0)) ≠ none ∧ footW (orAny (offD 1 v0)) S9 S41) ∧ True) ∧
  optW (offD 1 v2) fun v44 =>
  optW (loadSc S41 v44) fun v45 => ((loadSc S39 (orAny (offD 1 v2)) ≠ none ∧ footW (orAny (offD 1 v2)) S39 S41) ∧ (loadSc S37 (orAny (offD 1 v2)) ≠ none ∧ footW (orAny (offD 1 v2)) S37 S41) ∧ (loadSc S9 (orAny (offD 1 v2)) ≠ none ∧ footW (orAny (offD 1 v2)) S9 S41) ∧ True) ∧
  optW (lenSl v45) fun v46 => ((lenSl (orAny (loadSc S39 (orAny (offD 1 v2)))) ≠ none ∧ True) ∧ (lenSl (orAny (loadSc S37 (orAny (offD 1 v2)))) ≠ none ∧ True) ∧ (lenSl (orAny (loadSc S9 (orAny (offD 1 v2)))) ≠ none ∧ True) ∧ True) ∧
  optW (binI .lss v43 v46) fun v47 =>
  DF E (FnX Try.prog E w0) f_ops_effect_given [v40, v47] S41 fun v48 S49 => (True) ∧
  storeD S49 3 v8 v48 fun v50 S51 => (True) ∧
  C_ops_Takes_26 E w0 x Q v8 S51) ∧
  True)
  (optW (offD 0 v0) fun v52 =>
  optW (loadSc S9 v52) fun v53 =>
  optW (binI .eql v53 (.int .u8 50)) fun v54 =>
  condD v54
  (optW (offD 1 v0) fun v55 =>
  optW (loadSc S9 v55) fun v56 =>
  optW (offD 2 v2) fun v57 =>
  optW (loadSc S9 v57) fun v58 =>
  optW (lenSl v58) fun v59 =>
  optW (binI .lss v56 v59) fun v60 =>
  condD v60
  (optW (offD 2 v2) fun v61 =>
  optW (loadSc S9 v61) fun v62 =>
  optW (offD 1 v0) fun v63 =>
  optW (loadSc S9 v63) fun v64 =>
  optW (idxSl 6 v62 v64) fun v65 =>
  optW (loadAg S9 6 v65) fun v66 =>
  allocD S9 [(.str []), .nilSlc, .nilSlc, (.int .i64 0), (.int .i64 0), .nilSlc] fun v67 S68 =>
  storeD S68 6 v67 v66 fun v69 S70 =>
  optW (offD 1 v67) fun v71 =>
  optW (loadSc S70 v71) fun v72 => (True) ∧
  DF E (FnX Try.prog E w0) f_slices_Clone_int [v72] S70 fun v73 S74 => (True) ∧
  DF E (FnX Try.prog E w0) f_ops_of [v73] S74 fun v75 S76 => (True) ∧
  optW (offD 2 v67) fun v77 =>
  optW (loadSc S76 v77) fun v78 => ((loadSc S74 (orAny (offD 2 v67)) ≠ none ∧ footW (orAny (offD 2 v67)) S74 S76) ∧ (loadSc S70 (orAny (offD 2 v67)) ≠ none ∧ footW (orAny (offD 2 v67)) S70 S76) ∧ True) ∧
  DF E (FnX Try.prog E w0) f_slices_Clone_int [v78] S76 fun v79 S80 => (True) ∧
  DF E (FnX Try.prog E w0) f_ops_effect_gives [v75, v79] S80 fun v81 S82 => (True) ∧
  storeD S82 3 v8 v81 fun v83 S84 => (True) ∧
  C_ops_Takes_26 E w0 x Q v8 S84)
  (C_ops_Takes_26 E w0 x Q v8 S9))
  (optW (offD 0 v0) fun v85 =>
  optW (loadSc S9 v85) fun v86 =>
  optW (binI .geq v86 (.int .u8 36)) fun v87 =>
  optW (valGD (wantsD v87 true) (offD 0 v0)) fun v88 =>
  optW (valGD (wantsD v87 true) (loadSc S9 v88)) fun v89 =>
  optW (valGD (wantsD v87 true) (binI .leq v89 (.int .u8 45))) fun v90 =>
  optW (pickD v87 v90 (.bool false)) fun v91 =>
  condD v91
  (optW (loadAg S9 4 v0) fun v92 =>
  optW (loadAg S9 3 v2) fun v93 =>
  DFn Try.prog E w0 x f_ops_made [v92, v93] S9 fun v94 S95 =>
  storeD S95 3 v8 v94 fun v96 S97 =>
  C_ops_Takes_26 E w0 x Q v8 S97)
  (optW (loadAg S9 4 v0) fun v98 =>
  DFn Try.prog E w0 x f_ops_plain [v98] S9 fun v99 S100 =>
  storeD S100 3 v8 v99 fun v101 S102 =>
  C_ops_Takes_26 E w0 x Q v8 S102))))
theorem V_ops_Takes_ok {E : Env} {w0 : World} {x : Bool} {Q : D → DSt → Prop} {a0 a1 : D} {S : DSt} (h : V_ops_Takes E w0 x (FinD E Q) a0 a1 S) : DFn Try.prog E w0 x f_ops_Takes [a0, a1] S Q :=
  fnD_of_vc lo_ops_Takes cu_ops_Takes (fn := Try.f77) (c := Try.f77.body.getD .skip) mixed Try.func77 (by kernel_rfl) (by kernel_rfl) h

/- slices.Clone[[]int,int] -/
def lo_slices_Clone_int : List (Nat × List Nat) := []
def cu_slices_Clone_int : List (Nat × List Nat) := []
def V_slices_Clone_int (E : Env) (w0 : World) (x : Bool) (Q : D → DSt → Prop) (a0 : D) (S : DSt) : Prop :=
  optW (eqOp .eql (eqSl a0 .nilSlc)) fun v0 =>
  condD v0
  (Q .nilSlc S)
  (litD S 1 (fillR 1 (List.replicate 0 [(.int .i64 0)]) []) 0 fun v1 S2 =>
  appendD S2 1 8 v1 a0 fun v3 S4 =>
  Q v3 S4)
theorem V_slices_Clone_int_ok {E : Env} {w0 : World} {x : Bool} {Q : D → DSt → Prop} {a0 : D} {S : DSt} (h : V_slices_Clone_int E w0 x (FinD E Q) a0 S) : DFn Try.prog E w0 x f_slices_Clone_int [a0] S Q :=
  fnD_of_vc lo_slices_Clone_int cu_slices_Clone_int (fn := Try.f89) (c := Try.f89.body.getD .skip) mixed Try.func89 (by kernel_rfl) (by kernel_rfl) h

/- slices.Contains[[]uint8,uint8] -/
def lo_slices_Contains_uint8 : List (Nat × List Nat) := []
def cu_slices_Contains_uint8 : List (Nat × List Nat) := []
def V_slices_Contains_uint8 (E : Env) (w0 : World) (x : Bool) (Q : D → DSt → Prop) (a0 a1 : D) (S : DSt) : Prop :=
  DFn Try.prog E w0 x f_slices_Index_uint8 [a0, a1] S fun v0 S1 =>
  optW (binI .geq v0 (.int .i64 0)) fun v2 =>
  Q v2 S1
theorem V_slices_Contains_uint8_ok {E : Env} {w0 : World} {x : Bool} {Q : D → DSt → Prop} {a0 a1 : D} {S : DSt} (h : V_slices_Contains_uint8 E w0 x (FinD E Q) a0 a1 S) : DFn Try.prog E w0 x f_slices_Contains_uint8 [a0, a1] S Q :=
  fnD_of_vc lo_slices_Contains_uint8 cu_slices_Contains_uint8 (fn := Try.f99) (c := Try.f99.body.getD .skip) mixed Try.func99 (by kernel_rfl) (by kernel_rfl) h

/- slices.Index[[]uint8,uint8] -/
def lo_slices_Index_uint8 : List (Nat × List Nat) := [(4, [0, 1, 7, 8])]
def cu_slices_Index_uint8 : List (Nat × List Nat) := []
noncomputable def L_slices_Index_uint8_0 : Code := (codeAt [1, 0, 1, 0, 0] (Try.f100.body.getD .skip))
def K_slices_Index_uint8_0 (E : Env) (w0 : World) (x : Bool) (Q : D → DSt → Prop) : AExit → List D → DSt → Prop :=
  (blockD 0 (seqD Try.prog E w0 x lo_slices_Index_uint8 cu_slices_Index_uint8 (codeAt [1, 1] (Try.f100.body.getD .skip)) (retD Try.prog Try.f100 Q)))
def B_slices_Index_uint8_0 (E : Env) (w0 : World) (x : Bool) (N0 : D → D → D → D → DSt → Prop) (Q : D → DSt → Prop) (x0 x1 x7 x8 : D) (S : DSt) : Prop :=
  optW (binI .lss x8 x7) fun v1 =>
  condD v1
  (optW (idxSl 1 x0 x8) fun v2 =>
  optW (loadSc S v2) fun v3 =>
  optW (binI .eql x1 v3) fun v4 =>
  condD v4
  (Q x8 S)
  (optW (binI .add x8 (.int .i64 1)) fun v5 =>
  N0 x0 x1 x7 v5 S))
  (Q (.int .i64 (-1)) S)
theorem B_slices_Index_uint8_0_ok {E : Env} {w0 : World} {x : Bool} {N0 : D → D → D → D → DSt → Prop} {Q : D → DSt → Prop} {x0 x1 x7 x8 : D} {S : DSt} (h : B_slices_Index_uint8_0 E w0 x N0 Q x0 x1 x7 x8 S) :
    CodeD Try.prog E w0 x L_slices_Index_uint8_0 (mkRow 19 [0, 1, 7, 8] [x0, x1, x7, x8]) S (loopKD (fun T S => N0 (T.getD 0 undefD) (T.getD 1 undefD) (T.getD 7 undefD) (T.getD 8 undefD) S) (K_slices_Index_uint8_0 E w0 x Q)) := codeD_of_vc lo_slices_Index_uint8 cu_slices_Index_uint8 mixed (by kernel_rfl) h
theorem loop_slices_Index_uint8_0 {E : Env} {w0 : World} {x : Bool} {Q : D → DSt → Prop} (I : Nat → D → D → D → D → DSt → Prop)
    (step : ∀ n x0 x1 x7 x8 S, I n x0 x1 x7 x8 S → B_slices_Index_uint8_0 E w0 x (fun x0 x1 x7 x8 S => ∃ m, m < n ∧ I m x0 x1 x7 x8 S) Q x0 x1 x7 x8 S)
    {n : Nat} {x0 x1 x7 x8 : D} {S : DSt} (h : I n x0 x1 x7 x8 S) : CodeD Try.prog E w0 x (.loop L_slices_Index_uint8_0) (mkRow 19 [0, 1, 7, 8] [x0, x1, x7, x8]) S (K_slices_Index_uint8_0 E w0 x Q) :=
  codeD_loop (k := 19) (n := n) (I := fun n T S => I n (T.getD 0 undefD) (T.getD 1 undefD) (T.getD 7 undefD) (T.getD 8 undefD) S) (fun n T S hl hI => codeD_row [0, 1, 7, 8] hl (CodeD.mono (B_slices_Index_uint8_0_ok (step n _ _ _ _ S hI)) fun ex T' S' _ hq => by cases ex <;> exact hq)) (mkRow_length ..) (Eq.mp (by kernel_rfl) h)
def V_slices_Index_uint8 (E : Env) (w0 : World) (x : Bool) (Q : D → DSt → Prop) (a0 a1 : D) (S : DSt) : Prop :=
  optW (lenSl a0) fun v0 =>
  CodeD Try.prog E w0 x (.loop L_slices_Index_uint8_0) (mkRow 19 [0, 1, 7, 8] [a0, a1, v0, (.int .i64 0)]) S (K_slices_Index_uint8_0 E w0 x Q)
theorem V_slices_Index_uint8_ok {E : Env} {w0 : World} {x : Bool} {Q : D → DSt → Prop} {a0 a1 : D} {S : DSt} (h : V_slices_Index_uint8 E w0 x (FinD E Q) a0 a1 S) : DFn Try.prog E w0 x f_slices_Index_uint8 [a0, a1] S Q :=
  fnD_of_vc lo_slices_Index_uint8 cu_slices_Index_uint8 (fn := Try.f100) (c := Try.f100.body.getD .skip) mixed Try.func100 (by kernel_rfl) (by kernel_rfl) h
end Go.Proofs.Ytchnpgddpaonhaa.d
end
