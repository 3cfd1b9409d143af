/-
  Texts Vc Cg, as far as they are used.
-/
import Derived.Test.YtcboaonbfgjmgaaRows
import Derived.Test.YtcboaonbfgjmgaaZau
import Derived.KernelRfl
import Derived.Test.YtcboaonbfgjmgaaZax
section
open Go.Proofs Go Go.Am
namespace Go.Proofs.Ytcboaonbfgjmgaa.d
set_option linter.unusedVariables false
set_option maxRecDepth 100000
/- trammel/trammelref12.place -/
def lo_ref12_place : List (Nat × List Nat) := []
def cu_ref12_place : List (Nat × List Nat) := []
def V_ref12_place (E : Env) (w0 : World) (x : Bool) (Q : D → DSt → Prop) (S : DSt) : Prop :=
  allocD S [(.int .i64 0), (.int .i64 0), (.int .i64 0), (.bool false)] fun v0 S1 =>
  optW (aggD (fillD [(.int .i64 0), (.int .i64 0), (.int .i64 0), (.bool false)] [(0, 1, (.int .i64 2)), (2, 1, (.int .i64 65535))])) fun v2 =>
  storeD S1 4 v0 v2 fun v3 S4 =>
  optW (loadAg S4 4 v0) fun v5 => Q v5 S4
theorem V_ref12_place_ok {E : Env} {w0 : World} {x : Bool} {Q : D → DSt → Prop} {S : DSt} (h : V_ref12_place E w0 x (FinD E Q) S) : DFn Try.prog E w0 x f_ref12_place [] S Q :=
  fnD_of_vc lo_ref12_place cu_ref12_place (fn := Try.f64) (c := Try.f64.body.getD .skip) mixed Try.func64 (by kernel_rfl) (by kernel_rfl) h

/- trammel/trammelref12.width -/
def lo_ref12_width : List (Nat × List Nat) := []
def cu_ref12_width : List (Nat × List Nat) := []
def V_ref12_width (E : Env) (w0 : World) (x : Bool) (Q : D → DSt → Prop) (a0 : D) (S : DSt) : Prop :=
  allocD S [(.int .i64 0), (.int .i64 0), (.int .i64 0), (.bool false)] fun v0 S1 =>
  optW (aggD (fillD [(.int .i64 0), (.int .i64 0), (.int .i64 0), (.bool false)] [(0, 1, (.int .i64 1)), (1, 1, (.int .i64 1)), (2, 1, a0)])) fun v2 =>
  storeD S1 4 v0 v2 fun v3 S4 =>
  optW (loadAg S4 4 v0) fun v5 => Q v5 S4
theorem V_ref12_width_ok {E : Env} {w0 : World} {x : Bool} {Q : D → DSt → Prop} {a0 : D} {S : DSt} (h : V_ref12_width E w0 x (FinD E Q) a0 S) : DFn Try.prog E w0 x f_ref12_width [a0] S Q :=
  fnD_of_vc lo_ref12_width cu_ref12_width (fn := Try.f65) (c := Try.f65.body.getD .skip) mixed Try.func65 (by kernel_rfl) (by kernel_rfl) h

/- trammel/trammelref12.leap -/
def lo_ref12_leap : List (Nat × List Nat) := []
def cu_ref12_leap : List (Nat × List Nat) := []
def V_ref12_leap (E : Env) (w0 : World) (x : Bool) (Q : D → DSt → Prop) (S : DSt) : Prop :=
  allocD S [(.int .i64 0), (.int .i64 0), (.int .i64 0), (.bool false)] fun v0 S1 =>
  optW (aggD (fillD [(.int .i64 0), (.int .i64 0), (.int .i64 0), (.bool false)] [(0, 1, (.int .i64 4)), (2, 1, (.int .i64 4294967295))])) fun v2 =>
  storeD S1 4 v0 v2 fun v3 S4 =>
  optW (loadAg S4 4 v0) fun v5 => Q v5 S4
theorem V_ref12_leap_ok {E : Env} {w0 : World} {x : Bool} {Q : D → DSt → Prop} {S : DSt} (h : V_ref12_leap E w0 x (FinD E Q) S) : DFn Try.prog E w0 x f_ref12_leap [] S Q :=
  fnD_of_vc lo_ref12_leap cu_ref12_leap (fn := Try.f49) (c := Try.f49.body.getD .skip) mixed Try.func49 (by kernel_rfl) (by kernel_rfl) h

/- trammel/trammelref12.within -/
def lo_ref12_within : List (Nat × List Nat) := []
def cu_ref12_within : List (Nat × List Nat) := []
def V_ref12_within (E : Env) (w0 : World) (x : Bool) (Q : D → DSt → Prop) (a0 a1 : D) (S : DSt) : Prop :=
  optW (cellsD a0) fun cs => allocD S cs fun v0 S1 =>
  optW (offD 1 v0) fun v2 =>
  optW (loadSc S1 v2) fun v3 =>
  optW (binI .geq a1 v3) fun v4 =>
  optW (valGD (wantsD v4 true) (some a1)) fun v5 =>
  optW (valGD (wantsD v4 true) (offD 2 v0)) fun v6 =>
  optW (valGD (wantsD v4 true) (loadSc S1 v6)) fun v7 =>
  optW (valGD (wantsD v4 true) (binI .leq v5 v7)) fun v8 =>
  optW (pickD v4 v8 (.bool false)) fun v9 =>
  Q v9 S1
theorem V_ref12_within_ok {E : Env} {w0 : World} {x : Bool} {Q : D → DSt → Prop} {a0 a1 : D} {S : DSt} (h : V_ref12_within E w0 x (FinD E Q) a0 a1 S) : DFn Try.prog E w0 x f_ref12_within [a0, a1] S Q :=
  fnD_of_vc lo_ref12_within cu_ref12_within (fn := Try.f62) (c := Try.f62.body.getD .skip) mixed Try.func62 (by kernel_rfl) (by kernel_rfl) h

/- trammel/trammelref12.parts -/
def lo_ref12_parts : List (Nat × List Nat) := []
def cu_ref12_parts : List (Nat × List Nat) := []
def V_ref12_parts (E : Env) (w0 : World) (x : Bool) (Q : D → DSt → Prop) (a0 : D) (S : DSt) : Prop :=
  optW (binI .eql a0 (.int .u8 1)) fun v0 =>
  condD v0
  (optW (aggD (fillD [(.int .i64 0), (.int .i64 0), (.int .i64 0), (.bool false)] [(0, 1, (.int .i64 1)), (1, 1, (.int .i64 (-128))), (2, 1, (.int .i64 127)), (3, 1, (.bool true))])) fun v1 =>
  litD S 4 (fillR 4 (List.replicate 1 [(.int .i64 0), (.int .i64 0), (.int .i64 0), (.bool false)]) [(0, v1)]) 1 fun v2 S3 =>
  Q (.tup [v2, (.bool true)]) S3)
  (optW (binI .eql a0 (.int .u8 2)) fun v4 =>
  condD v4
  (optW (aggD (fillD [(.int .i64 0), (.int .i64 0), (.int .i64 0), (.bool false)] [(0, 1, (.int .i64 4)), (1, 1, (.int .i64 (-2147483648))), (2, 1, (.int .i64 2147483647)), (3, 1, (.bool true))])) fun v5 =>
  litD S 4 (fillR 4 (List.replicate 1 [(.int .i64 0), (.int .i64 0), (.int .i64 0), (.bool false)]) [(0, v5)]) 1 fun v6 S7 =>
  Q (.tup [v6, (.bool true)]) S7)
  (optW (binI .eql a0 (.int .u8 3)) fun v8 =>
  condD v8
  (optW (aggD (fillD [(.int .i64 0), (.int .i64 0), (.int .i64 0), (.bool false)] [(0, 1, (.int .i64 8)), (1, 1, (.int .i64 (-9223372036854775808))), (2, 1, (.int .i64 9223372036854775807)), (3, 1, (.bool true))])) fun v9 =>
  litD S 4 (fillR 4 (List.replicate 1 [(.int .i64 0), (.int .i64 0), (.int .i64 0), (.bool false)]) [(0, v9)]) 1 fun v10 S11 =>
  Q (.tup [v10, (.bool true)]) S11)
  (optW (binI .eql a0 (.int .u8 6)) fun v12 =>
  optW (valGD (wantsD v12 false) (some a0)) fun v13 =>
  optW (valGD (wantsD v12 false) (binI .eql v13 (.int .u8 7))) fun v14 =>
  optW (pickD v12 (.bool true) v14) fun v15 =>
  optW (valGD (wantsD v15 false) (some a0)) fun v16 =>
  optW (valGD (wantsD v15 false) (binI .eql v16 (.int .u8 8))) fun v17 =>
  optW (pickD v15 (.bool true) v17) fun v18 =>
  optW (valGD (wantsD v18 false) (some a0)) fun v19 =>
  optW (valGD (wantsD v18 false) (binI .eql v19 (.int .u8 50))) fun v20 =>
  optW (pickD v18 (.bool true) v20) fun v21 =>
  optW (valGD (wantsD v21 false) (some a0)) fun v22 =>
  optW (valGD (wantsD v21 false) (binI .eql v22 (.int .u8 36))) fun v23 =>
  optW (pickD v21 (.bool true) v23) fun v24 =>
  optW (valGD (wantsD v24 false) (some a0)) fun v25 =>
  optW (valGD (wantsD v24 false) (binI .geq v25 (.int .u8 39))) fun v26 =>
  optW (valGD (wantsD v24 false) (some v26)) fun v27 =>
  optW (valGD (wantsD v27 true) (some a0)) fun v28 =>
  optW (valGD (wantsD v27 true) (binI .leq v28 (.int .u8 45))) fun v29 =>
  optW (valGD (wantsD v24 false) (pickD v27 v29 (.bool false))) fun v30 =>
  optW (pickD v24 (.bool true) v30) fun v31 =>
  condD v31
  (DFn Try.prog E w0 x f_ref12_place [] S fun v32 S33 =>
  litD S33 4 (fillR 4 (List.replicate 1 [(.int .i64 0), (.int .i64 0), (.int .i64 0), (.bool false)]) [(0, v32)]) 1 fun v34 S35 =>
  Q (.tup [v34, (.bool true)]) S35)
  (optW (binI .eql a0 (.int .u8 37)) fun v36 =>
  optW (valGD (wantsD v36 false) (some a0)) fun v37 =>
  optW (valGD (wantsD v36 false) (binI .eql v37 (.int .u8 38))) fun v38 =>
  optW (pickD v36 (.bool true) v38) fun v39 =>
  condD v39
  (DFn Try.prog E w0 x f_ref12_place [] S fun v40 S41 =>
  DFn Try.prog E w0 x f_ref12_place [] S41 fun v42 S43 =>
  litD S43 4 (fillR 4 (List.replicate 2 [(.int .i64 0), (.int .i64 0), (.int .i64 0), (.bool false)]) [(0, v40), (1, v42)]) 2 fun v44 S45 =>
  Q (.tup [v44, (.bool true)]) S45)
  (optW (binI .eql a0 (.int .u8 23)) fun v46 =>
  optW (valGD (wantsD v46 false) (some a0)) fun v47 =>
  optW (valGD (wantsD v46 false) (binI .eql v47 (.int .u8 24))) fun v48 =>
  optW (pickD v46 (.bool true) v48) fun v49 =>
  condD v49
  (DFn Try.prog E w0 x f_ref12_width [(.int .i64 5)] S fun v50 S51 =>
  litD S51 4 (fillR 4 (List.replicate 1 [(.int .i64 0), (.int .i64 0), (.int .i64 0), (.bool false)]) [(0, v50)]) 1 fun v52 S53 =>
  Q (.tup [v52, (.bool true)]) S53)
  (optW (binI .geq a0 (.int .u8 11)) fun v54 =>
  optW (valGD (wantsD v54 true) (some a0)) fun v55 =>
  optW (valGD (wantsD v54 true) (binI .leq v55 (.int .u8 28))) fun v56 =>
  optW (pickD v54 v56 (.bool false)) fun v57 =>
  condD v57
  (DFn Try.prog E w0 x f_ref12_width [(.int .i64 3)] S fun v58 S59 =>
  litD S59 4 (fillR 4 (List.replicate 1 [(.int .i64 0), (.int .i64 0), (.int .i64 0), (.bool false)]) [(0, v58)]) 1 fun v60 S61 =>
  Q (.tup [v60, (.bool true)]) S61)
  (optW (binI .eql a0 (.int .u8 29)) fun v62 =>
  condD v62
  (DFn Try.prog E w0 x f_ref12_width [(.int .i64 3)] S fun v63 S64 =>
  DFn Try.prog E w0 x f_ref12_width [(.int .i64 3)] S64 fun v65 S66 =>
  litD S66 4 (fillR 4 (List.replicate 2 [(.int .i64 0), (.int .i64 0), (.int .i64 0), (.bool false)]) [(0, v63), (1, v65)]) 2 fun v67 S68 =>
  Q (.tup [v67, (.bool true)]) S68)
  (optW (binI .eql a0 (.int .u8 46)) fun v69 =>
  optW (valGD (wantsD v69 false) (some a0)) fun v70 =>
  optW (valGD (wantsD v69 false) (binI .eql v70 (.int .u8 47))) fun v71 =>
  optW (pickD v69 (.bool true) v71) fun v72 =>
  optW (valGD (wantsD v72 false) (some a0)) fun v73 =>
  optW (valGD (wantsD v72 false) (binI .eql v73 (.int .u8 48))) fun v74 =>
  optW (pickD v72 (.bool true) v74) fun v75 =>
  condD v75
  (DFn Try.prog E w0 x f_ref12_leap [] S fun v76 S77 =>
  litD S77 4 (fillR 4 (List.replicate 1 [(.int .i64 0), (.int .i64 0), (.int .i64 0), (.bool false)]) [(0, v76)]) 1 fun v78 S79 =>
  Q (.tup [v78, (.bool true)]) S79)
  (optW (binI .eql a0 (.int .u8 52)) fun v80 =>
  condD v80
  (optW (aggD (fillD [(.int .i64 0), (.int .i64 0), (.int .i64 0), (.bool false)] [(0, 1, (.int .i64 1)), (2, 1, (.int .i64 255))])) fun v81 =>
  litD S 4 (fillR 4 (List.replicate 1 [(.int .i64 0), (.int .i64 0), (.int .i64 0), (.bool false)]) [(0, v81)]) 1 fun v82 S83 =>
  Q (.tup [v82, (.bool true)]) S83)
  (optW (binI .eql a0 (.int .u8 49)) fun v84 =>
  condD v84
  (DFn Try.prog E w0 x f_ref12_width [(.int .i64 3)] S fun v85 S86 =>
  litD S86 4 (fillR 4 (List.replicate 1 [(.int .i64 0), (.int .i64 0), (.int .i64 0), (.bool false)]) [(0, v85)]) 1 fun v87 S88 =>
  Q (.tup [v87, (.bool true)]) S88)
  (optW (binI .geq a0 (.int .u8 1)) fun v89 =>
  optW (valGD (wantsD v89 true) (some a0)) fun v90 =>
  optW (valGD (wantsD v89 true) (binI .leq v90 (.int .u8 52))) fun v91 =>
  optW (pickD v89 v91 (.bool false)) fun v92 =>
  Q (.tup [.nilSlc, v92]) S)))))))))))
theorem V_ref12_parts_ok {E : Env} {w0 : World} {x : Bool} {Q : D → DSt → Prop} {a0 : D} {S : DSt} (h : V_ref12_parts E w0 x (FinD E Q) a0 S) : DFn Try.prog E w0 x f_ref12_parts [a0] S Q :=
  fnD_of_vc lo_ref12_parts cu_ref12_parts (fn := Try.f38) (c := Try.f38.body.getD .skip) mixed Try.func38 (by kernel_rfl) (by kernel_rfl) h

/- trammel/trammelref12.is -/
def lo_ref12_is : List (Nat × List Nat) := [(12, [1, 5])]
def cu_ref12_is : List (Nat × List Nat) := []
noncomputable def L_ref12_is_0 : Code := (codeAt [1, 1, 1, 0, 1, 0, 0, 1, 0, 0] (Try.f37.body.getD .skip))
def K_ref12_is_0 (E : Env) (w0 : World) (x : Bool) (Q : D → DSt → Prop) : AExit → List D → DSt → Prop :=
  (blockD 0 (seqD Try.prog E w0 x lo_ref12_is cu_ref12_is (codeAt [1, 1, 1, 0, 1, 0, 1] (Try.f37.body.getD .skip)) (seqD Try.prog E w0 x lo_ref12_is cu_ref12_is (codeAt [1, 1, 1, 1] (Try.f37.body.getD .skip)) (retD Try.prog Try.f37 Q))))
def B_ref12_is_0 (E : Env) (w0 : World) (x : Bool) (N0 : D → D → DSt → Prop) (Q : D → DSt → Prop) (x1 x5 : D) (S : DSt) : Prop :=
  optW (offD 3 x1) fun v35 =>
  optW (loadSc S v35) fun v36 =>
  optW (lenSl v36) fun v37 =>
  optW (binI .lss x5 v37) fun v38 =>
  condD v38
  (optW (offD 1 x1) fun v39 =>
  optW (loadSc S v39) fun v40 => (True) ∧
  optW (convI .u8 v40) fun v41 =>
  optW (offD 3 x1) fun v42 =>
  optW (loadSc S v42) fun v43 => (True) ∧
  optW (idxSl 2 v43 x5) fun v44 =>
  optW (offD 0 v44) fun v45 =>
  optW (loadSc S v45) fun v46 => (True) ∧
  DF E (FnX Try.prog E w0) f_ref02_Fits [v41, v46] S fun v47 S48 => (True) ∧
  optW (unD .not v47) fun v49 =>
  guardD (wantsD v49 false) (fun K => DF E (FnX Try.prog E w0) f_ref12_leap [] S48 K) S48 fun v50 S51 => (True) ∧
  optW (valGD (wantsD v49 false) (offD 3 x1)) fun v52 =>
  optW (valGD (wantsD v49 false) (loadSc S51 v52)) fun v53 => ((valGD (wantsD v49 false) (loadSc S48 (orAny (valGD (wantsD v49 false) (offD 3 x1)))) ≠ none ∧ footW (orAny (valGD (wantsD v49 false) (offD 3 x1))) S48 S51) ∧ True) ∧
  optW (valGD (wantsD v49 false) (some x5)) fun v54 =>
  optW (valGD (wantsD v49 false) (idxSl 2 v53 v54)) fun v55 =>
  optW (valGD (wantsD v49 false) (offD 1 v55)) fun v56 =>
  optW (valGD (wantsD v49 false) (loadSc S51 v56)) fun v57 => ((valGD (wantsD v49 false) (loadSc S48 (orAny (valGD (wantsD v49 false) (offD 1 (orAny (valGD (wantsD v49 false) (idxSl 2 (orAny (valGD (wantsD v49 false) (loadSc S48 (orAny (valGD (wantsD v49 false) (offD 3 x1)))))) (orAny (valGD (wantsD v49 false) (some x5)))))))))) ≠ none ∧ footW (orAny (valGD (wantsD v49 false) (offD 1 (orAny (valGD (wantsD v49 false) (idxSl 2 (orAny (valGD (wantsD v49 false) (loadSc S48 (orAny (valGD (wantsD v49 false) (offD 3 x1)))))) (orAny (valGD (wantsD v49 false) (some x5))))))))) S48 S51) ∧ True) ∧
  guardD (wantsD v49 false) (fun K => DF E (FnX Try.prog E w0) f_ref12_within [v50, v57] S51 K) S51 fun v58 S59 => (True) ∧
  optW (valGD (wantsD v49 false) (unD .not v58)) fun v60 =>
  optW (pickD v49 (.bool true) v60) fun v61 =>
  condD v61
  (Q (.bool false) S59)
  (optW (binI .add x5 (.int .i64 1)) fun v62 =>
  N0 x1 v62 S59))
  (optW (offD 3 x1) fun v63 =>
  optW (loadSc S v63) fun v64 => (True) ∧
  optW (lenSl v64) fun v65 => (True) ∧
  optW (binI .leq v65 (.int .i64 65535)) fun v66 =>
  guardD (wantsD v66 true) (fun K => DF E (FnX Try.prog E w0) f_ref12_leap [] S K) S fun v67 S68 => (True) ∧
  optW (valGD (wantsD v66 true) (offD 2 x1)) fun v69 =>
  optW (valGD (wantsD v66 true) (loadSc S68 v69)) fun v70 => ((valGD (wantsD v66 true) (loadSc S (orAny (valGD (wantsD v66 true) (offD 2 x1)))) ≠ none ∧ footW (orAny (valGD (wantsD v66 true) (offD 2 x1))) S S68) ∧ True) ∧
  guardD (wantsD v66 true) (fun K => DF E (FnX Try.prog E w0) f_ref12_within [v67, v70] S68 K) S68 fun v71 S72 => (True) ∧
  optW (pickD v66 v71 (.bool false)) fun v73 =>
  Q v73 S72)
theorem B_ref12_is_0_ok {E : Env} {w0 : World} {x : Bool} {N0 : D → D → DSt → Prop} {Q : D → DSt → Prop} {x1 x5 : D} {S : DSt} (h : B_ref12_is_0 E w0 x N0 Q x1 x5 S) :
    CodeD Try.prog E w0 x L_ref12_is_0 (mkRow 105 [1, 5] [x1, x5]) S (loopKD (fun T S => N0 (T.getD 1 undefD) (T.getD 5 undefD) S) (K_ref12_is_0 E w0 x Q)) := codeD_of_vc lo_ref12_is cu_ref12_is mixed (by kernel_rfl) h
theorem loop_ref12_is_0 {E : Env} {w0 : World} {x : Bool} {Q : D → DSt → Prop} (I : Nat → D → D → DSt → Prop)
    (step : ∀ n x1 x5 S, I n x1 x5 S → B_ref12_is_0 E w0 x (fun x1 x5 S => ∃ m, m < n ∧ I m x1 x5 S) Q x1 x5 S)
    {n : Nat} {x1 x5 : D} {S : DSt} (h : I n x1 x5 S) : CodeD Try.prog E w0 x (.loop L_ref12_is_0) (mkRow 105 [1, 5] [x1, x5]) S (K_ref12_is_0 E w0 x Q) :=
  codeD_loop (k := 105) (n := n) (I := fun n T S => I n (T.getD 1 undefD) (T.getD 5 undefD) S) (fun n T S hl hI => codeD_row [1, 5] hl (CodeD.mono (B_ref12_is_0_ok (step n _ _ S hI)) fun ex T' S' _ hq => by cases ex <;> exact hq)) (mkRow_length ..) (Eq.mp (by kernel_rfl) h)
def V_ref12_is (E : Env) (w0 : World) (x : Bool) (Q : D → DSt → Prop) (a0 : D) (S : DSt) : Prop :=
  optW (cellsD a0) fun cs => allocD S cs fun v0 S1 =>
  optW (offD 0 v0) fun v2 =>
  optW (loadSc S1 v2) fun v3 =>
  DFn Try.prog E w0 x f_ref12_parts [v3] S1 fun v4 S5 =>
  optW (extractD v4 0) fun v6 =>
  optW (extractD v4 1) fun v7 =>
  optW (unD .not v7) fun v8 =>
  optW (valGD (wantsD v8 false) (some v6)) fun v9 =>
  optW (valGD (wantsD v8 false) (lenSl v9)) fun v10 => (True) ∧
  optW (valGD (wantsD v8 false) (binI .gtr v10 (.int .i64 0))) fun v11 =>
  optW (valGD (wantsD v8 false) (some v11)) fun v12 =>
  optW (valGD (wantsD v12 true) (some v6)) fun v13 =>
  optW (valGD (wantsD v12 true) (idxSl 4 v13 (.int .i64 0))) fun v14 =>
  optW (valGD (wantsD v12 true) (loadAg S5 4 v14)) fun v15 => (True) ∧
  optW (valGD (wantsD v12 true) (offD 1 v0)) fun v16 =>
  optW (valGD (wantsD v12 true) (loadSc S5 v16)) fun v17 => (True) ∧
  guardD (wantsD v12 true) (fun K => DF E (FnX Try.prog E w0) f_ref12_within [v15, v17] S5 K) S5 fun v18 S19 => (True) ∧
  optW (valGD (wantsD v12 true) (unD .not v18)) fun v20 =>
  optW (valGD (wantsD v8 false) (pickD v12 v20 (.bool false))) fun v21 =>
  optW (pickD v8 (.bool true) v21) fun v22 =>
  optW (valGD (wantsD v22 false) (some v6)) fun v23 =>
  optW (valGD (wantsD v22 false) (lenSl v23)) fun v24 => (True) ∧
  optW (valGD (wantsD v22 false) (binI .eql v24 (.int .i64 0))) fun v25 =>
  optW (valGD (wantsD v22 false) (some v25)) fun v26 =>
  optW (valGD (wantsD v26 true) (offD 1 v0)) fun v27 =>
  optW (valGD (wantsD v26 true) (loadSc S19 v27)) fun v28 => (True) ∧
  optW (valGD (wantsD v26 true) (binI .neq v28 (.int .i64 0))) fun v29 =>
  optW (valGD (wantsD v22 false) (pickD v26 v29 (.bool false))) fun v30 =>
  optW (pickD v22 (.bool true) v30) fun v31 =>
  condD v31
  (Q (.bool false) S19)
  (optW (offD 0 v0) fun v32 =>
  optW (loadSc S19 v32) fun v33 =>
  optW (binI .eql v33 (.int .u8 49)) fun v34 =>
  condD v34
  (CodeD Try.prog E w0 x (.loop L_ref12_is_0) (mkRow 105 [1, 5] [v0, (.int .i64 0)]) S19 (K_ref12_is_0 E w0 x Q))
  (optW (offD 3 v0) fun v74 =>
  optW (loadSc S19 v74) fun v75 =>
  optW (lenSl v75) fun v76 =>
  optW (binI .gtr v76 (.int .i64 0)) fun v77 =>
  condD v77
  (Q (.bool false) S19)
  (optW (lenSl v6) fun v78 => (True) ∧
  optW (binI .gtr v78 (.int .i64 1)) fun v79 =>
  optW (valGD (wantsD v79 true) (some v6)) fun v80 =>
  optW (valGD (wantsD v79 true) (idxSl 4 v80 (.int .i64 1))) fun v81 =>
  optW (valGD (wantsD v79 true) (loadAg S19 4 v81)) fun v82 => (True) ∧
  optW (valGD (wantsD v79 true) (offD 2 v0)) fun v83 =>
  optW (valGD (wantsD v79 true) (loadSc S19 v83)) fun v84 => (True) ∧
  guardD (wantsD v79 true) (fun K => DF E (FnX Try.prog E w0) f_ref12_within [v82, v84] S19 K) S19 fun v85 S86 => (True) ∧
  optW (pickD v79 v85 (.bool false)) fun v87 =>
  optW (valGD (wantsD v87 false) (some v6)) fun v88 =>
  optW (valGD (wantsD v87 false) (lenSl v88)) fun v89 => (True) ∧
  optW (valGD (wantsD v87 false) (binI .lss v89 (.int .i64 2))) fun v90 =>
  optW (valGD (wantsD v87 false) (some v90)) fun v91 =>
  optW (valGD (wantsD v91 true) (offD 2 v0)) fun v92 =>
  optW (valGD (wantsD v91 true) (loadSc S86 v92)) fun v93 => (True) ∧
  optW (valGD (wantsD v91 true) (binI .eql v93 (.int .i64 0))) fun v94 =>
  optW (valGD (wantsD v87 false) (pickD v91 v94 (.bool false))) fun v95 =>
  optW (pickD v87 (.bool true) v95) fun v96 =>
  Q v96 S86)))
theorem V_ref12_is_ok {E : Env} {w0 : World} {x : Bool} {Q : D → DSt → Prop} {a0 : D} {S : DSt} (h : V_ref12_is E w0 x (FinD E Q) a0 S) : DFn Try.prog E w0 x f_ref12_is [a0] S Q :=
  fnD_of_vc lo_ref12_is cu_ref12_is (fn := Try.f37) (c := Try.f37.body.getD .skip) mixed Try.func37 (by kernel_rfl) (by kernel_rfl) h

/- trammel/trammelref12.typed -/
def lo_ref12_typed : List (Nat × List Nat) := []
def cu_ref12_typed : List (Nat × List Nat) := []
def V_ref12_typed (E : Env) (w0 : World) (x : Bool) (Q : D → DSt → Prop) (a0 a1 a2 a3 : D) (S : DSt) : Prop :=
  optW (cellsD a0) fun cs => allocD S cs fun v0 S1 =>
  allocD S1 [(.int .u8 0), (.str []), .nilSlc, (.int .i64 0), (.int .i64 0)] fun v2 S3 =>
  optW (binI .sub a1 (.int .i64 16)) fun v4 =>
  optW (binI .lss v4 (.int .i64 0)) fun v5 =>
  optW (valGD (wantsD v5 false) (some v4)) fun v6 =>
  optW (valGD (wantsD v5 false) (offD 0 v0)) fun v7 =>
  optW (valGD (wantsD v5 false) (loadSc S3 v7)) fun v8 =>
  optW (valGD (wantsD v5 false) (lenSl v8)) fun v9 =>
  optW (valGD (wantsD v5 false) (binI .geq v6 v9)) fun v10 =>
  optW (pickD v5 (.bool true) v10) fun v11 =>
  condD v11
  (optW (aggD (fillD [(.int .u8 0), (.str []), .nilSlc, (.int .i64 0), (.int .i64 0)] [])) fun v12 =>
  storeD S3 5 v2 v12 fun v13 S14 =>
  optW (loadAg S14 5 v2) fun v15 => Q (.tup [v15, (.bool false)]) S14)
  (optW (offD 0 v0) fun v16 =>
  optW (loadSc S3 v16) fun v17 =>
  optW (idxSl 5 v17 v4) fun v18 =>
  optW (loadAg S3 5 v18) fun v19 =>
  allocD S3 [(.int .u8 0), (.str []), .nilSlc, (.int .i64 0), (.int .i64 0)] fun v20 S21 =>
  storeD S21 5 v20 v19 fun v22 S23 =>
  optW (loadAg S23 5 v20) fun v24 => (True) ∧
  optW (offD 0 v20) fun v25 =>
  optW (loadSc S23 v25) fun v26 => (True) ∧
  optW (binI .eql v26 a2) fun v27 =>
  optW (valGD (wantsD v27 false) (offD 0 v20)) fun v28 =>
  optW (valGD (wantsD v27 false) (loadSc S23 v28)) fun v29 => (True) ∧
  optW (valGD (wantsD v27 false) (some a3)) fun v30 =>
  optW (valGD (wantsD v27 false) (binI .eql v29 v30)) fun v31 =>
  optW (pickD v27 (.bool true) v31) fun v32 =>
  storeD S23 5 v2 v24 fun v33 S34 => (footW v28 S23 S34 ∧ True) ∧
  optW (loadAg S34 5 v2) fun v35 => Q (.tup [v35, v32]) S34)
theorem V_ref12_typed_ok {E : Env} {w0 : World} {x : Bool} {Q : D → DSt → Prop} {a0 a1 a2 a3 : D} {S : DSt} (h : V_ref12_typed E w0 x (FinD E Q) a0 a1 a2 a3 S) : DFn Try.prog E w0 x f_ref12_typed [a0, a1, a2, a3] S Q :=
  fnD_of_vc lo_ref12_typed cu_ref12_typed (fn := Try.f72) (c := Try.f72.body.getD .skip) mixed Try.func72 (by kernel_rfl) (by kernel_rfl) h

/- trammel/trammelref12.own -/
def lo_ref12_own : List (Nat × List Nat) := []
def cu_ref12_own : List (Nat × List Nat) := []
def V_ref12_own (E : Env) (w0 : World) (x : Bool) (Q : D → DSt → Prop) (a0 : D) (S : DSt) : Prop :=
  appendD S 1 8 .nilSlc a0 fun v0 S1 =>
  Q v0 S1
theorem V_ref12_own_ok {E : Env} {w0 : World} {x : Bool} {Q : D → DSt → Prop} {a0 : D} {S : DSt} (h : V_ref12_own E w0 x (FinD E Q) a0 S) : DFn Try.prog E w0 x f_ref12_own [a0] S Q :=
  fnD_of_vc lo_ref12_own cu_ref12_own (fn := Try.f51) (c := Try.f51.body.getD .skip) mixed Try.func51 (by kernel_rfl) (by kernel_rfl) h

/- trammel/trammelref12.made -/
def lo_ref12_made : List (Nat × List Nat) := [(18, [2, 7, 8, 9, 10, 11])]
def cu_ref12_made : List (Nat × List Nat) := [(25, [2, 3, 7, 25, 26])]
noncomputable def L_ref12_made_0 : Code := (codeAt [1, 1, 0, 1, 0, 1, 0, 1, 1, 0, 1, 0, 0] (Try.f52.body.getD .skip))
def K_ref12_made_0 (E : Env) (w0 : World) (x : Bool) (Q : D → DSt → Prop) : AExit → List D → DSt → Prop :=
  (blockD 1 (seqD Try.prog E w0 x lo_ref12_made cu_ref12_made (codeAt [1, 1, 0, 1, 0, 1, 0, 1, 1, 1] (Try.f52.body.getD .skip)) (blockD 0 (seqD Try.prog E w0 x lo_ref12_made cu_ref12_made (codeAt [1, 1, 1] (Try.f52.body.getD .skip)) (retD Try.prog Try.f52 Q)))))
def B_ref12_made_0 (E : Env) (w0 : World) (x : Bool) (N0 : D → D → D → D → D → D → DSt → Prop) (Q : D → DSt → Prop) (x2 x7 x8 x9 x10 x11 : D) (S : DSt) : Prop :=
  optW (offD 2 x8) fun v19 =>
  optW (loadSc S v19) fun v20 =>
  optW (lenSl v20) fun v21 =>
  optW (binI .lss x11 v21) fun v22 =>
  condD v22
  (optW (offD 2 x8) fun v23 =>
  optW (loadSc S v23) fun v24 =>
  optW (idxSl 2 v24 x11) fun v25 =>
  optW (offD 1 v25) fun v26 =>
  optW (loadSc S v26) fun v27 =>
  litD S 1 (fillR 1 (List.replicate 1 [(.int .i64 0)]) [(0, v27)]) 1 fun v28 S29 =>
  appendD S29 1 8 x10 v28 fun v30 S31 =>
  optW (binI .add x11 (.int .i64 1)) fun v32 =>
  N0 x2 x7 x8 x9 v30 v32 S31)
  (optW (offD 0 x2) fun v33 =>
  optW (loadSc S v33) fun v34 =>
  optW (binI .eql v34 (.int .u8 36)) fun v35 =>
  condD v35
  (litD S 1 (fillR 1 (List.replicate 1 [(.int .i64 0)]) [(0, x7)]) 1 fun v36 S37 =>
  Q (.tup [x10, v36, x9]) S37)
  (optW (unD .not x9) fun v38 =>
  optW (valGD (wantsD v38 false) (offD 2 x2)) fun v39 =>
  optW (valGD (wantsD v38 false) (loadSc S v39)) fun v40 =>
  optW (valGD (wantsD v38 false) (some x10)) fun v41 =>
  optW (valGD (wantsD v38 false) (lenSl v41)) fun v42 =>
  optW (valGD (wantsD v38 false) (binI .geq v40 v42)) fun v43 =>
  optW (pickD v38 (.bool true) v43) fun v44 =>
  condD v44
  (Q (.tup [.nilSlc, .nilSlc, (.bool false)]) S)
  (optW (offD 0 x2) fun v45 =>
  optW (loadSc S v45) fun v46 =>
  optW (binI .eql v46 (.int .u8 37)) fun v47 =>
  condD v47
  (x = false ∧ (litD S 1 (fillR 1 (List.replicate 1 [(.int .i64 0)]) [(0, x7)]) 1 fun v48 S49 => (True) ∧
  optW (offD 2 x2) fun v50 =>
  optW (loadSc S49 v50) fun v51 => ((loadSc S (orAny (offD 2 x2)) ≠ none ∧ footW (orAny (offD 2 x2)) S S49) ∧ True) ∧
  optW (idxSl 1 x10 v51) fun v52 =>
  optW (loadSc S49 v52) fun v53 => ((loadSc S (orAny (idxSl 1 (orAny (some x10)) (orAny (loadSc S (orAny (offD 2 x2)))))) ≠ none ∧ footW (orAny (idxSl 1 (orAny (some x10)) (orAny (loadSc S (orAny (offD 2 x2)))))) S S49) ∧ True) ∧
  litD S49 1 (fillR 1 (List.replicate 1 [(.int .i64 0)]) [(0, v53)]) 1 fun v54 S55 => (True) ∧
  Q (.tup [v48, v54, (.bool true)]) S55) ∧
  (optW (offD 2 x2) fun v56 =>
  optW (loadSc S v56) fun v57 => (True) ∧
  optW (idxSl 1 x10 v57) fun v58 =>
  optW (loadSc S v58) fun v59 => (True) ∧
  litD S 1 (fillR 1 (List.replicate 1 [(.int .i64 0)]) [(0, v59)]) 1 fun v60 S61 => (True) ∧
  litD S61 1 (fillR 1 (List.replicate 1 [(.int .i64 0)]) [(0, x7)]) 1 fun v62 S63 => (True) ∧
  Q (.tup [v62, v60, (.bool true)]) S63) ∧
  True)
  (optW (offD 2 x2) fun v64 =>
  optW (loadSc S v64) fun v65 =>
  optW (idxSl 1 x10 v65) fun v66 =>
  optW (loadSc S v66) fun v67 =>
  litD S 1 (fillR 1 (List.replicate 2 [(.int .i64 0)]) [(0, x7), (1, v67)]) 2 fun v68 S69 =>
  Q (.tup [v68, .nilSlc, (.bool true)]) S69))))
theorem B_ref12_made_0_ok {E : Env} {w0 : World} {x : Bool} {N0 : D → D → D → D → D → D → DSt → Prop} {Q : D → DSt → Prop} {x2 x7 x8 x9 x10 x11 : D} {S : DSt} (h : B_ref12_made_0 E w0 x N0 Q x2 x7 x8 x9 x10 x11 S) :
    CodeD Try.prog E w0 x L_ref12_made_0 (mkRow 171 [2, 7, 8, 9, 10, 11] [x2, x7, x8, x9, x10, x11]) S (loopKD (fun T S => N0 (T.getD 2 undefD) (T.getD 7 undefD) (T.getD 8 undefD) (T.getD 9 undefD) (T.getD 10 undefD) (T.getD 11 undefD) S) (K_ref12_made_0 E w0 x Q)) := codeD_of_vc lo_ref12_made cu_ref12_made mixed (by kernel_rfl) h
theorem loop_ref12_made_0 {E : Env} {w0 : World} {x : Bool} {Q : D → DSt → Prop} (I : Nat → D → D → D → D → D → D → DSt → Prop)
    (step : ∀ n x2 x7 x8 x9 x10 x11 S, I n x2 x7 x8 x9 x10 x11 S → B_ref12_made_0 E w0 x (fun x2 x7 x8 x9 x10 x11 S => ∃ m, m < n ∧ I m x2 x7 x8 x9 x10 x11 S) Q x2 x7 x8 x9 x10 x11 S)
    {n : Nat} {x2 x7 x8 x9 x10 x11 : D} {S : DSt} (h : I n x2 x7 x8 x9 x10 x11 S) : CodeD Try.prog E w0 x (.loop L_ref12_made_0) (mkRow 171 [2, 7, 8, 9, 10, 11] [x2, x7, x8, x9, x10, x11]) S (K_ref12_made_0 E w0 x Q) :=
  codeD_loop (k := 171) (n := n) (I := fun n T S => I n (T.getD 2 undefD) (T.getD 7 undefD) (T.getD 8 undefD) (T.getD 9 undefD) (T.getD 10 undefD) (T.getD 11 undefD) S) (fun n T S hl hI => codeD_row [2, 7, 8, 9, 10, 11] hl (CodeD.mono (B_ref12_made_0_ok (step n _ _ _ _ _ _ S hI)) fun ex T' S' _ hq => by cases ex <;> exact hq)) (mkRow_length ..) (Eq.mp (by kernel_rfl) h)
noncomputable def R_ref12_made_25 : Code := (codeAt [1, 1, 0, 1, 0, 1] (Try.f52.body.getD .skip))
def KC_ref12_made_25 (E : Env) (w0 : World) (x : Bool) (Q : D → DSt → Prop) : AExit → List D → DSt → Prop :=
  (blockD 0 (seqD Try.prog E w0 x lo_ref12_made cu_ref12_made (codeAt [1, 1, 1] (Try.f52.body.getD .skip)) (retD Try.prog Try.f52 Q)))
def P_ref12_made_25 (E : Env) (w0 : World) (x : Bool) (Q : D → DSt → Prop) (x2 x3 x7 x25 x26 : D) (S : DSt) : Prop :=
  condD x26
  (optW (loadAg S 3 x3) fun v8 =>
  optW (offD 1 x2) fun v9 =>
  optW (loadSc S v9) fun v10 =>
  DFn Try.prog E w0 x f_ref12_typed [v8, v10, (.int .u8 6), (.int .u8 6)] S fun v11 S12 =>
  optW (extractD v11 0) fun v13 =>
  optW (extractD v11 1) fun v14 =>
  allocD S12 [(.int .u8 0), (.str []), .nilSlc, (.int .i64 0), (.int .i64 0)] fun v15 S16 =>
  storeD S16 5 v15 v13 fun v17 S18 =>
  CodeD Try.prog E w0 x (.loop L_ref12_made_0) (mkRow 171 [2, 7, 8, 9, 10, 11] [x2, x7, v15, v14, .nilSlc, (.int .i64 0)]) S18 (K_ref12_made_0 E w0 x Q))
  (optW (binI .eql x25 (.int .u8 39)) fun v70 =>
  condD v70
  (optW (loadAg S 3 x3) fun v71 =>
  optW (offD 1 x2) fun v72 =>
  optW (loadSc S v72) fun v73 =>
  DFn Try.prog E w0 x f_ref12_typed [v71, v73, (.int .u8 7), (.int .u8 7)] S fun v74 S75 =>
  optW (extractD v74 0) fun v76 =>
  optW (extractD v74 1) fun v77 =>
  allocD S75 [(.int .u8 0), (.str []), .nilSlc, (.int .i64 0), (.int .i64 0)] fun v78 S79 =>
  storeD S79 5 v78 v76 fun v80 S81 =>
  optW (offD 3 v78) fun v82 =>
  optW (loadSc S81 v82) fun v83 =>
  litD S81 1 (fillR 1 (List.replicate 1 [(.int .i64 0)]) [(0, v83)]) 1 fun v84 S85 =>
  litD S85 1 (fillR 1 (List.replicate 1 [(.int .i64 0)]) [(0, x7)]) 1 fun v86 S87 =>
  Q (.tup [v84, v86, v77]) S87)
  (optW (binI .eql x25 (.int .u8 40)) fun v88 =>
  condD v88
  (optW (loadAg S 3 x3) fun v89 =>
  optW (offD 1 x2) fun v90 =>
  optW (loadSc S v90) fun v91 =>
  DFn Try.prog E w0 x f_ref12_typed [v89, v91, (.int .u8 8), (.int .u8 8)] S fun v92 S93 =>
  optW (extractD v92 0) fun v94 =>
  optW (extractD v92 1) fun v95 =>
  allocD S93 [(.int .u8 0), (.str []), .nilSlc, (.int .i64 0), (.int .i64 0)] fun v96 S97 =>
  storeD S97 5 v96 v94 fun v98 S99 =>
  litD S99 1 (fillR 1 (List.replicate 1 [(.int .i64 0)]) [(0, x7)]) 1 fun v100 S101 =>
  Q (.tup [.nilSlc, v100, v95]) S101)
  (optW (binI .eql x25 (.int .u8 44)) fun v102 =>
  condD v102
  (optW (loadAg S 3 x3) fun v103 =>
  optW (offD 1 x2) fun v104 =>
  optW (loadSc S v104) fun v105 =>
  DFn Try.prog E w0 x f_ref12_typed [v103, v105, (.int .u8 8), (.int .u8 8)] S fun v106 S107 =>
  optW (extractD v106 0) fun v108 =>
  optW (extractD v106 1) fun v109 =>
  allocD S107 [(.int .u8 0), (.str []), .nilSlc, (.int .i64 0), (.int .i64 0)] fun v110 S111 =>
  storeD S111 5 v110 v108 fun v112 S113 =>
  optW (offD 3 v110) fun v114 =>
  optW (loadSc S113 v114) fun v115 =>
  litD S113 1 (fillR 1 (List.replicate 2 [(.int .i64 0)]) [(0, x7), (1, v115)]) 2 fun v116 S117 =>
  Q (.tup [v116, .nilSlc, v109]) S117)
  (optW (binI .eql x25 (.int .u8 45)) fun v118 =>
  condD v118
  (optW (loadAg S 3 x3) fun v119 =>
  optW (offD 1 x2) fun v120 =>
  optW (loadSc S v120) fun v121 =>
  DFn Try.prog E w0 x f_ref12_typed [v119, v121, (.int .u8 8), (.int .u8 8)] S fun v122 S123 =>
  optW (extractD v122 0) fun v124 =>
  optW (extractD v122 1) fun v125 =>
  allocD S123 [(.int .u8 0), (.str []), .nilSlc, (.int .i64 0), (.int .i64 0)] fun v126 S127 =>
  storeD S127 5 v126 v124 fun v128 S129 =>
  x = false ∧ (litD S129 1 (fillR 1 (List.replicate 1 [(.int .i64 0)]) [(0, x7)]) 1 fun v130 S131 => (True) ∧
  optW (offD 3 v126) fun v132 =>
  optW (loadSc S131 v132) fun v133 => ((loadSc S129 (orAny (offD 3 v126)) ≠ none ∧ footW (orAny (offD 3 v126)) S129 S131) ∧ True) ∧
  litD S131 1 (fillR 1 (List.replicate 1 [(.int .i64 0)]) [(0, v133)]) 1 fun v134 S135 => (True) ∧
  Q (.tup [v130, v134, v125]) S135) ∧
  (optW (offD 3 v126) fun v136 =>
  optW (loadSc S129 v136) fun v137 => (True) ∧
  litD S129 1 (fillR 1 (List.replicate 1 [(.int .i64 0)]) [(0, v137)]) 1 fun v138 S139 => (True) ∧
  litD S139 1 (fillR 1 (List.replicate 1 [(.int .i64 0)]) [(0, x7)]) 1 fun v140 S141 => (True) ∧
  Q (.tup [v140, v138, v125]) S141) ∧
  True)
  (optW (loadAg S 3 x3) fun v142 =>
  optW (offD 1 x2) fun v143 =>
  optW (loadSc S v143) fun v144 =>
  DFn Try.prog E w0 x f_ref12_typed [v142, v144, (.int .u8 7), (.int .u8 8)] S fun v145 S146 =>
  optW (extractD v145 0) fun v147 =>
  optW (extractD v145 1) fun v148 =>
  allocD S146 [(.int .u8 0), (.str []), .nilSlc, (.int .i64 0), (.int .i64 0)] fun v149 S150 =>
  storeD S150 5 v149 v147 fun v151 S152 =>
  optW (offD 0 x2) fun v153 =>
  optW (loadSc S152 v153) fun v154 =>
  optW (binI .eql v154 (.int .u8 41)) fun v155 =>
  condD v155
  (x = false ∧ (litD S152 1 (fillR 1 (List.replicate 2 [(.int .i64 0)]) [(0, x7), (1, (.int .i64 3))]) 2 fun v156 S157 => (True) ∧
  optW (offD 3 v149) fun v158 =>
  optW (loadSc S157 v158) fun v159 => ((loadSc S152 (orAny (offD 3 v149)) ≠ none ∧ footW (orAny (offD 3 v149)) S152 S157) ∧ True) ∧
  litD S157 1 (fillR 1 (List.replicate 1 [(.int .i64 0)]) [(0, v159)]) 1 fun v160 S161 => (True) ∧
  Q (.tup [v156, v160, v148]) S161) ∧
  (optW (offD 3 v149) fun v162 =>
  optW (loadSc S152 v162) fun v163 => (True) ∧
  litD S152 1 (fillR 1 (List.replicate 1 [(.int .i64 0)]) [(0, v163)]) 1 fun v164 S165 => (True) ∧
  litD S165 1 (fillR 1 (List.replicate 2 [(.int .i64 0)]) [(0, x7), (1, (.int .i64 3))]) 2 fun v166 S167 => (True) ∧
  Q (.tup [v166, v164, v148]) S167) ∧
  True)
  (optW (binI .eql v154 (.int .u8 42)) fun v168 =>
  condD v168
  (optW (offD 3 v149) fun v169 =>
  optW (loadSc S152 v169) fun v170 =>
  litD S152 1 (fillR 1 (List.replicate 3 [(.int .i64 0)]) [(0, x7), (1, (.int .i64 3)), (2, v170)]) 3 fun v171 S172 =>
  Q (.tup [v171, .nilSlc, v148]) S172)
  (litD S152 1 (fillR 1 (List.replicate 1 [(.int .i64 0)]) [(0, x7)]) 1 fun v173 S174 =>
  litD S174 1 (fillR 1 (List.replicate 1 [(.int .i64 0)]) [(0, (.int .i64 3))]) 1 fun v175 S176 =>
  Q (.tup [v173, v175, v148]) S176)))))))
def C_ref12_made_25 (E : Env) (w0 : World) (x : Bool) (Q : D → DSt → Prop) (x2 x3 x7 x25 x26 : D) (S : DSt) : Prop := CodeD Try.prog E w0 x R_ref12_made_25 (mkRow 171 [2, 3, 7, 25, 26] [x2, x3, x7, x25, x26]) S (KC_ref12_made_25 E w0 x Q)
theorem C_ref12_made_25_ok {E : Env} {w0 : World} {x : Bool} {Q : D → DSt → Prop} {x2 x3 x7 x25 x26 : D} {S : DSt} (h : P_ref12_made_25 E w0 x Q x2 x3 x7 x25 x26 S) : C_ref12_made_25 E w0 x Q x2 x3 x7 x25 x26 S := codeD_of_vc lo_ref12_made cu_ref12_made mixed (by kernel_rfl) h
def V_ref12_made (E : Env) (w0 : World) (x : Bool) (Q : D → DSt → Prop) (a0 a1 : D) (S : DSt) : Prop :=
  optW (cellsD a0) fun cs => allocD S cs fun v0 S1 =>
  optW (cellsD a1) fun cs => allocD S1 cs fun v2 S3 =>
  optW (offD 1 v0) fun v4 =>
  optW (loadSc S3 v4) fun v5 =>
  optW (offD 0 v0) fun v6 =>
  optW (loadSc S3 v6) fun v7 =>
  optW (binI .eql v7 (.int .u8 36)) fun v177 =>
  condD v177
  (C_ref12_made_25 E w0 x Q v0 v2 v5 v7 v177 S3)
  (optW (binI .eql v7 (.int .u8 37)) fun v178 =>
  condD v178
  (C_ref12_made_25 E w0 x Q v0 v2 v5 v7 v178 S3)
  (optW (binI .eql v7 (.int .u8 38)) fun v179 =>
  C_ref12_made_25 E w0 x Q v0 v2 v5 v7 v179 S3))
theorem V_ref12_made_ok {E : Env} {w0 : World} {x : Bool} {Q : D → DSt → Prop} {a0 a1 : D} {S : DSt} (h : V_ref12_made E w0 x (FinD E Q) a0 a1 S) : DFn Try.prog E w0 x f_ref12_made [a0, a1] S Q :=
  fnD_of_vc lo_ref12_made cu_ref12_made (fn := Try.f52) (c := Try.f52.body.getD .skip) mixed Try.func52 (by kernel_rfl) (by kernel_rfl) h

/- trammel/trammelref12.plain -/
def lo_ref12_plain : List (Nat × List Nat) := []
def cu_ref12_plain : List (Nat × List Nat) := []
def V_ref12_plain (E : Env) (w0 : World) (x : Bool) (Q : D → DSt → Prop) (a0 : D) (S : DSt) : Prop :=
  optW (cellsD a0) fun cs => allocD S cs fun v0 S1 =>
  optW (offD 1 v0) fun v2 =>
  optW (loadSc S1 v2) fun v3 =>
  optW (offD 0 v0) fun v4 =>
  optW (loadSc S1 v4) fun v5 =>
  optW (binI .geq v5 (.int .u8 1)) fun v6 =>
  optW (valGD (wantsD v6 true) (offD 0 v0)) fun v7 =>
  optW (valGD (wantsD v6 true) (loadSc S1 v7)) fun v8 =>
  optW (valGD (wantsD v6 true) (binI .leq v8 (.int .u8 3))) fun v9 =>
  optW (pickD v6 v9 (.bool false)) fun v10 =>
  condD v10
  (optW (offD 0 v0) fun v11 =>
  optW (loadSc S1 v11) fun v12 => (True) ∧
  optW (convI .i64 v12) fun v13 =>
  litD S1 1 (fillR 1 (List.replicate 1 [(.int .i64 0)]) [(0, v13)]) 1 fun v14 S15 => (True) ∧
  Q (.tup [.nilSlc, v14]) S15)
  (optW (offD 0 v0) fun v16 =>
  optW (loadSc S1 v16) fun v17 =>
  optW (binI .eql v17 (.int .u8 4)) fun v18 =>
  optW (valGD (wantsD v18 false) (offD 0 v0)) fun v19 =>
  optW (valGD (wantsD v18 false) (loadSc S1 v19)) fun v20 =>
  optW (valGD (wantsD v18 false) (binI .eql v20 (.int .u8 5))) fun v21 =>
  optW (pickD v18 (.bool true) v21) fun v22 =>
  condD v22
  (litD S1 1 (fillR 1 (List.replicate 1 [(.int .i64 0)]) [(0, (.int .i64 4))]) 1 fun v23 S24 =>
  Q (.tup [.nilSlc, v23]) S24)
  (optW (offD 0 v0) fun v25 =>
  optW (loadSc S1 v25) fun v26 =>
  optW (binI .eql v26 (.int .u8 6)) fun v27 =>
  condD v27
  (litD S1 1 (fillR 1 (List.replicate 1 [(.int .i64 0)]) [(0, (.int .i64 5))]) 1 fun v28 S29 =>
  Q (.tup [.nilSlc, v28]) S29)
  (optW (offD 0 v0) fun v30 =>
  optW (loadSc S1 v30) fun v31 =>
  optW (binI .eql v31 (.int .u8 7)) fun v32 =>
  condD v32
  (litD S1 1 (fillR 1 (List.replicate 1 [(.int .i64 0)]) [(0, (.int .i64 0))]) 1 fun v33 S34 =>
  Q (.tup [.nilSlc, v33]) S34)
  (optW (offD 0 v0) fun v35 =>
  optW (loadSc S1 v35) fun v36 =>
  optW (binI .eql v36 (.int .u8 8)) fun v37 =>
  optW (valGD (wantsD v37 false) (offD 0 v0)) fun v38 =>
  optW (valGD (wantsD v37 false) (loadSc S1 v38)) fun v39 =>
  optW (valGD (wantsD v37 false) (binI .eql v39 (.int .u8 9))) fun v40 =>
  optW (pickD v37 (.bool true) v40) fun v41 =>
  condD v41
  (litD S1 1 (fillR 1 (List.replicate 1 [(.int .i64 0)]) [(0, (.int .i64 0))]) 1 fun v42 S43 =>
  Q (.tup [v42, .nilSlc]) S43)
  (optW (offD 0 v0) fun v44 =>
  optW (loadSc S1 v44) fun v45 =>
  optW (binI .eql v45 (.int .u8 10)) fun v46 =>
  condD v46
  (litD S1 1 (fillR 1 (List.replicate 1 [(.int .i64 0)]) [(0, (.int .i64 0))]) 1 fun v47 S48 =>
  litD S48 1 (fillR 1 (List.replicate 2 [(.int .i64 0)]) [(0, (.int .i64 0)), (1, (.int .i64 0))]) 2 fun v49 S50 =>
  Q (.tup [v47, v49]) S50)
  (optW (offD 0 v0) fun v51 =>
  optW (loadSc S1 v51) fun v52 =>
  optW (binI .geq v52 (.int .u8 11)) fun v53 =>
  optW (valGD (wantsD v53 true) (offD 0 v0)) fun v54 =>
  optW (valGD (wantsD v53 true) (loadSc S1 v54)) fun v55 =>
  optW (valGD (wantsD v53 true) (binI .leq v55 (.int .u8 20))) fun v56 =>
  optW (pickD v53 v56 (.bool false)) fun v57 =>
  condD v57
  (litD S1 1 (fillR 1 (List.replicate 2 [(.int .i64 0)]) [(0, v3), (1, v3)]) 2 fun v58 S59 =>
  litD S59 1 (fillR 1 (List.replicate 1 [(.int .i64 0)]) [(0, v3)]) 1 fun v60 S61 =>
  Q (.tup [v58, v60]) S61)
  (optW (offD 0 v0) fun v62 =>
  optW (loadSc S1 v62) fun v63 =>
  optW (binI .eql v63 (.int .u8 21)) fun v64 =>
  optW (valGD (wantsD v64 false) (offD 0 v0)) fun v65 =>
  optW (valGD (wantsD v64 false) (loadSc S1 v65)) fun v66 =>
  optW (valGD (wantsD v64 false) (binI .eql v66 (.int .u8 22))) fun v67 =>
  optW (pickD v64 (.bool true) v67) fun v68 =>
  condD v68
  (litD S1 1 (fillR 1 (List.replicate 1 [(.int .i64 0)]) [(0, v3)]) 1 fun v69 S70 =>
  litD S70 1 (fillR 1 (List.replicate 1 [(.int .i64 0)]) [(0, v3)]) 1 fun v71 S72 =>
  Q (.tup [v69, v71]) S72)
  (optW (offD 0 v0) fun v73 =>
  optW (loadSc S1 v73) fun v74 =>
  optW (binI .geq v74 (.int .u8 23)) fun v75 =>
  optW (valGD (wantsD v75 true) (offD 0 v0)) fun v76 =>
  optW (valGD (wantsD v75 true) (loadSc S1 v76)) fun v77 =>
  optW (valGD (wantsD v75 true) (binI .leq v77 (.int .u8 28))) fun v78 =>
  optW (pickD v75 v78 (.bool false)) fun v79 =>
  condD v79
  (litD S1 1 (fillR 1 (List.replicate 2 [(.int .i64 0)]) [(0, v3), (1, v3)]) 2 fun v80 S81 =>
  litD S81 1 (fillR 1 (List.replicate 1 [(.int .i64 0)]) [(0, (.int .i64 4))]) 1 fun v82 S83 =>
  Q (.tup [v80, v82]) S83)
  (optW (offD 0 v0) fun v84 =>
  optW (loadSc S1 v84) fun v85 =>
  optW (binI .eql v85 (.int .u8 29)) fun v86 =>
  condD v86
  (x = false ∧ (litD S1 1 (fillR 1 (List.replicate 1 [(.int .i64 0)]) [(0, v3)]) 1 fun v87 S88 => (True) ∧
  optW (offD 2 v0) fun v89 =>
  optW (loadSc S88 v89) fun v90 => ((loadSc S1 (orAny (offD 2 v0)) ≠ none ∧ footW (orAny (offD 2 v0)) S1 S88) ∧ True) ∧
  litD S88 1 (fillR 1 (List.replicate 1 [(.int .i64 0)]) [(0, v90)]) 1 fun v91 S92 => (True) ∧
  Q (.tup [v87, v91]) S92) ∧
  (optW (offD 2 v0) fun v93 =>
  optW (loadSc S1 v93) fun v94 => (True) ∧
  litD S1 1 (fillR 1 (List.replicate 1 [(.int .i64 0)]) [(0, v94)]) 1 fun v95 S96 => (True) ∧
  litD S96 1 (fillR 1 (List.replicate 1 [(.int .i64 0)]) [(0, v3)]) 1 fun v97 S98 => (True) ∧
  Q (.tup [v97, v95]) S98) ∧
  True)
  (optW (offD 0 v0) fun v99 =>
  optW (loadSc S1 v99) fun v100 =>
  optW (binI .eql v100 (.int .u8 30)) fun v101 =>
  condD v101
  (litD S1 1 (fillR 1 (List.replicate 1 [(.int .i64 0)]) [(0, (.int .i64 4))]) 1 fun v102 S103 =>
  litD S103 1 (fillR 1 (List.replicate 1 [(.int .i64 0)]) [(0, (.int .i64 4))]) 1 fun v104 S105 =>
  Q (.tup [v102, v104]) S105)
  (optW (offD 0 v0) fun v106 =>
  optW (loadSc S1 v106) fun v107 =>
  optW (binI .eql v107 (.int .u8 31)) fun v108 =>
  condD v108
  (litD S1 1 (fillR 1 (List.replicate 2 [(.int .i64 0)]) [(0, (.int .i64 5)), (1, (.int .i64 5))]) 2 fun v109 S110 =>
  litD S110 1 (fillR 1 (List.replicate 1 [(.int .i64 0)]) [(0, (.int .i64 5))]) 1 fun v111 S112 =>
  Q (.tup [v109, v111]) S112)
  (optW (offD 0 v0) fun v113 =>
  optW (loadSc S1 v113) fun v114 =>
  optW (binI .eql v114 (.int .u8 32)) fun v115 =>
  condD v115
  (litD S1 1 (fillR 1 (List.replicate 1 [(.int .i64 0)]) [(0, (.int .i64 5))]) 1 fun v116 S117 =>
  litD S117 1 (fillR 1 (List.replicate 1 [(.int .i64 0)]) [(0, (.int .i64 3))]) 1 fun v118 S119 =>
  Q (.tup [v116, v118]) S119)
  (optW (offD 0 v0) fun v120 =>
  optW (loadSc S1 v120) fun v121 =>
  optW (binI .eql v121 (.int .u8 33)) fun v122 =>
  condD v122
  (litD S1 1 (fillR 1 (List.replicate 2 [(.int .i64 0)]) [(0, (.int .i64 5)), (1, (.int .i64 3))]) 2 fun v123 S124 =>
  litD S124 1 (fillR 1 (List.replicate 1 [(.int .i64 0)]) [(0, (.int .i64 2))]) 1 fun v125 S126 =>
  Q (.tup [v123, v125]) S126)
  (optW (offD 0 v0) fun v127 =>
  optW (loadSc S1 v127) fun v128 =>
  optW (binI .eql v128 (.int .u8 34)) fun v129 =>
  condD v129
  (litD S1 1 (fillR 1 (List.replicate 3 [(.int .i64 0)]) [(0, (.int .i64 5)), (1, (.int .i64 3)), (2, (.int .i64 3))]) 3 fun v130 S131 =>
  litD S131 1 (fillR 1 (List.replicate 1 [(.int .i64 0)]) [(0, (.int .i64 5))]) 1 fun v132 S133 =>
  Q (.tup [v130, v132]) S133)
  (optW (offD 0 v0) fun v134 =>
  optW (loadSc S1 v134) fun v135 =>
  optW (binI .eql v135 (.int .u8 35)) fun v136 =>
  condD v136
  (litD S1 1 (fillR 1 (List.replicate 1 [(.int .i64 0)]) [(0, (.int .i64 2))]) 1 fun v137 S138 =>
  litD S138 1 (fillR 1 (List.replicate 1 [(.int .i64 0)]) [(0, (.int .i64 5))]) 1 fun v139 S140 =>
  Q (.tup [v137, v139]) S140)
  (optW (offD 0 v0) fun v141 =>
  optW (loadSc S1 v141) fun v142 =>
  optW (binI .eql v142 (.int .u8 47)) fun v143 =>
  optW (valGD (wantsD v143 false) (offD 0 v0)) fun v144 =>
  optW (valGD (wantsD v143 false) (loadSc S1 v144)) fun v145 =>
  optW (valGD (wantsD v143 false) (binI .eql v145 (.int .u8 48))) fun v146 =>
  optW (pickD v143 (.bool true) v146) fun v147 =>
  condD v147
  (litD S1 1 (fillR 1 (List.replicate 1 [(.int .i64 0)]) [(0, (.int .i64 4))]) 1 fun v148 S149 =>
  Q (.tup [v148, .nilSlc]) S149)
  (optW (offD 0 v0) fun v150 =>
  optW (loadSc S1 v150) fun v151 =>
  optW (binI .eql v151 (.int .u8 49)) fun v152 =>
  condD v152
  (litD S1 1 (fillR 1 (List.replicate 1 [(.int .i64 0)]) [(0, v3)]) 1 fun v153 S154 =>
  Q (.tup [v153, .nilSlc]) S154)
  (Q (.tup [.nilSlc, .nilSlc]) S1))))))))))))))))))
theorem V_ref12_plain_ok {E : Env} {w0 : World} {x : Bool} {Q : D → DSt → Prop} {a0 : D} {S : DSt} (h : V_ref12_plain E w0 x (FinD E Q) a0 S) : DFn Try.prog E w0 x f_ref12_plain [a0] S Q :=
  fnD_of_vc lo_ref12_plain cu_ref12_plain (fn := Try.f53) (c := Try.f53.body.getD .skip) mixed Try.func53 (by kernel_rfl) (by kernel_rfl) h

/- trammel/trammelref12.Takes -/
def lo_ref12_Takes : List (Nat × List Nat) := []
def cu_ref12_Takes : List (Nat × List Nat) := []
def V_ref12_Takes (E : Env) (w0 : World) (x : Bool) (Q : D → DSt → Prop) (a0 a1 : D) (S : DSt) : Prop :=
  optW (cellsD a0) fun cs => allocD S cs fun v0 S1 =>
  optW (cellsD a1) fun cs => allocD S1 cs fun v2 S3 =>
  optW (loadAg S3 4 v0) fun v4 =>
  DFn Try.prog E w0 x f_ref12_is [v4] S3 fun v5 S6 =>
  optW (unD .not v5) fun v7 =>
  condD v7
  (Q (.tup [.nilSlc, .nilSlc, (.int .i64 120)]) S6)
  (optW (offD 0 v0) fun v8 =>
  optW (loadSc S6 v8) fun v9 =>
  optW (binI .eql v9 (.int .u8 6)) fun v10 =>
  optW (valGD (wantsD v10 true) (offD 1 v0)) fun v11 =>
  optW (valGD (wantsD v10 true) (loadSc S6 v11)) fun v12 =>
  optW (valGD (wantsD v10 true) (offD 1 v2)) fun v13 =>
  optW (valGD (wantsD v10 true) (loadSc S6 v13)) fun v14 =>
  optW (valGD (wantsD v10 true) (lenSl v14)) fun v15 =>
  optW (valGD (wantsD v10 true) (binI .geq v12 v15)) fun v16 =>
  optW (pickD v10 v16 (.bool false)) fun v17 =>
  optW (valGD (wantsD v17 false) (offD 0 v0)) fun v18 =>
  optW (valGD (wantsD v17 false) (loadSc S6 v18)) fun v19 =>
  optW (valGD (wantsD v17 false) (binI .eql v19 (.int .u8 50))) fun v20 =>
  optW (valGD (wantsD v17 false) (some v20)) fun v21 =>
  optW (valGD (wantsD v21 true) (offD 1 v0)) fun v22 =>
  optW (valGD (wantsD v21 true) (loadSc S6 v22)) fun v23 =>
  optW (valGD (wantsD v21 true) (offD 2 v2)) fun v24 =>
  optW (valGD (wantsD v21 true) (loadSc S6 v24)) fun v25 =>
  optW (valGD (wantsD v21 true) (lenSl v25)) fun v26 =>
  optW (valGD (wantsD v21 true) (binI .geq v23 v26)) fun v27 =>
  optW (valGD (wantsD v17 false) (pickD v21 v27 (.bool false))) fun v28 =>
  optW (pickD v17 (.bool true) v28) fun v29 =>
  condD v29
  (Q (.tup [.nilSlc, .nilSlc, (.int .i64 2)]) S6)
  (optW (offD 0 v0) fun v30 =>
  optW (loadSc S6 v30) fun v31 =>
  optW (binI .eql v31 (.int .u8 50)) fun v32 =>
  condD v32
  (optW (offD 2 v2) fun v33 =>
  optW (loadSc S6 v33) fun v34 => (True) ∧
  optW (offD 1 v0) fun v35 =>
  optW (loadSc S6 v35) fun v36 => (True) ∧
  optW (idxSl 6 v34 v36) fun v37 =>
  optW (offD 1 v37) fun v38 =>
  optW (loadSc S6 v38) fun v39 => (True) ∧
  DF E (FnX Try.prog E w0) f_ref12_own [v39] S6 fun v40 S41 => (True) ∧
  optW (offD 2 v2) fun v42 =>
  optW (loadSc S41 v42) fun v43 => ((loadSc S6 (orAny (offD 2 v2)) ≠ none ∧ footW (orAny (offD 2 v2)) S6 S41) ∧ True) ∧
  optW (offD 1 v0) fun v44 =>
  optW (loadSc S41 v44) fun v45 => ((loadSc S6 (orAny (offD 1 v0)) ≠ none ∧ footW (orAny (offD 1 v0)) S6 S41) ∧ True) ∧
  optW (idxSl 6 v43 v45) fun v46 =>
  optW (offD 2 v46) fun v47 =>
  optW (loadSc S41 v47) fun v48 => ((loadSc S6 (orAny (offD 2 (orAny (idxSl 6 (orAny (loadSc S6 (orAny (offD 2 v2)))) (orAny (loadSc S6 (orAny (offD 1 v0)))))))) ≠ none ∧ footW (orAny (offD 2 (orAny (idxSl 6 (orAny (loadSc S6 (orAny (offD 2 v2)))) (orAny (loadSc S6 (orAny (offD 1 v0)))))))) S6 S41) ∧ True) ∧
  DF E (FnX Try.prog E w0) f_ref12_own [v48] S41 fun v49 S50 => (True) ∧
  Q (.tup [v40, v49, (.int .i64 0)]) S50)
  (optW (offD 0 v0) fun v51 =>
  optW (loadSc S6 v51) fun v52 =>
  optW (binI .geq v52 (.int .u8 36)) fun v53 =>
  optW (valGD (wantsD v53 true) (offD 0 v0)) fun v54 =>
  optW (valGD (wantsD v53 true) (loadSc S6 v54)) fun v55 =>
  optW (valGD (wantsD v53 true) (binI .leq v55 (.int .u8 45))) fun v56 =>
  optW (pickD v53 v56 (.bool false)) fun v57 =>
  condD v57
  (optW (loadAg S6 4 v0) fun v58 =>
  optW (loadAg S6 3 v2) fun v59 =>
  DFn Try.prog E w0 x f_ref12_made [v58, v59] S6 fun v60 S61 =>
  optW (extractD v60 0) fun v62 =>
  optW (extractD v60 1) fun v63 =>
  optW (extractD v60 2) fun v64 =>
  optW (unD .not v64) fun v65 =>
  condD v65
  (Q (.tup [.nilSlc, .nilSlc, (.int .i64 2)]) S61)
  (Q (.tup [v62, v63, (.int .i64 0)]) S61))
  (optW (loadAg S6 4 v0) fun v66 =>
  DFn Try.prog E w0 x f_ref12_plain [v66] S6 fun v67 S68 =>
  optW (extractD v67 0) fun v69 =>
  optW (extractD v67 1) fun v70 =>
  Q (.tup [v69, v70, (.int .i64 0)]) S68))))
theorem V_ref12_Takes_ok {E : Env} {w0 : World} {x : Bool} {Q : D → DSt → Prop} {a0 a1 : D} {S : DSt} (h : V_ref12_Takes E w0 x (FinD E Q) a0 a1 S) : DFn Try.prog E w0 x f_ref12_Takes [a0, a1] S Q :=
  fnD_of_vc lo_ref12_Takes cu_ref12_Takes (fn := Try.f32) (c := Try.f32.body.getD .skip) mixed Try.func32 (by kernel_rfl) (by kernel_rfl) h
end Go.Proofs.Ytcboaonbfgjmgaa.d
end

section
open Go.Proofs Go Go.Am Go.Op
namespace Go.Proofs.Ytcboaonbfgjmgaa.d
set_option linter.unusedVariables false
set_option linter.unusedSimpArgs false
set_option maxRecDepth 100000
/-- A part. -/
def parR (f : Fld) : List D := [.int .i64 (f.size : Int), .int .i64 f.lo, .int .i64 f.hi, .bool (decide (f.lo < 0))]
theorem orD {a : Bool} {n m : Int} {K : D → Prop} : (optW (valGD (wantsD (.bool a) false) (some (.int .u8 n))) fun v13 => optW (valGD (wantsD (.bool a) false) (binI .eql v13 (.int .u8 m))) fun v14 => optW (pickD (.bool a) (.bool true) v14) K) = K (.bool (a || n == m)) := by
  cases a <;> simp
theorem andD {n m k : Int} {K : D → Prop} : (optW (binI .geq (.int .u8 n) (.int .u8 m)) fun v => optW (valGD (wantsD v true) (some (.int .u8 n))) fun v' => optW (valGD (wantsD v true) (binI .leq v' (.int .u8 k))) fun v'' => optW (pickD v v'' (.bool false)) K) = K (.bool (decide (m ≤ n ∧ n ≤ k))) := by
  by_cases h : m ≤ n
  · by_cases h2 : n ≤ k <;> simp [h, h2]
  · simp [h]
theorem orandD {a : Bool} {n m k : Int} {K : D → Prop} : (optW (valGD (wantsD (.bool a) false) (some (.int .u8 n))) fun v25 => optW (valGD (wantsD (.bool a) false) (binI .geq v25 (.int .u8 m))) fun v26 => optW (valGD (wantsD (.bool a) false) (some v26)) fun v27 => optW (valGD (wantsD v27 true) (some (.int .u8 n))) fun v28 =>
    optW (valGD (wantsD v27 true) (binI .leq v28 (.int .u8 k))) fun v29 => optW (valGD (wantsD (.bool a) false) (pickD v27 v29 (.bool false))) fun v30 => optW (pickD (.bool a) (.bool true) v30) K) = K (.bool (a || decide (m ≤ n ∧ n ≤ k))) := by
  cases a
  · by_cases h : m ≤ n
    · by_cases h2 : n ≤ k <;> simp [h, h2]
    · simp [h]
  · simp
section
variable {E : Env} {w0 : World} {x : Bool} {S : DSt} {op : Int}
theorem par_box {ds : List D} (hl : ds.length = 4) {Q : D → DSt → Prop} (h : ∀ {S' : DSt}, S.le S' → FinD E Q (.agg ds) S') : allocD S [(.int .i64 0), (.int .i64 0), (.int .i64 0), (.bool false)] fun v0 S1 => storeD S1 4 v0 (.agg ds) fun v3 S4 => optW (loadAg S4 4 v0) fun v5 => FinD E Q v5 S4 := by
  intro k acs hk
  refine stP (ds := ds) (DSt.set_same _ _ _) (clA _) ⟨hl, by decide, by simp⟩ fun acs => ?_
  have e : setManyD [(D.int .i64 0), (.int .i64 0), (.int .i64 0), (.bool false)] 0 ds = ds := by
    match ds, hl with
    | [a, b, c, d], _ => rfl
  rw [DSt.set_set, e, laP (DSt.set_same _ _ _) ⟨by decide, by omega⟩, oD, List.drop_zero, List.take_of_length_le (by omega)]
  exact h (DSt.le_new hk)
theorem ref12_place_ok : Pure Try.prog E w0 f_ref12_place [] (.agg (parR fIx)) := fun x S => by
  refine V_ref12_place_ok ?_
  unfold V_ref12_place
  simp only [fillD, clI, setManyD, List.length_cons, List.length_nil, List.set, agS, oD, Nat.reduceAdd, Nat.reduceLeDiff, and_self, if_true]
  exact par_box rfl fun h => FinD.less h FinD.pure
theorem ref12_leap_ok : Pure Try.prog E w0 f_ref12_leap [] (.agg (parR fLeap)) := fun x S => by
  refine V_ref12_leap_ok ?_
  unfold V_ref12_leap
  simp only [fillD, clI, setManyD, List.length_cons, List.length_nil, List.set, agS, oD, Nat.reduceAdd, Nat.reduceLeDiff, and_self, if_true]
  exact par_box rfl fun h => FinD.less h FinD.pure
theorem ref12_width_ok {hi : Int} : Pure Try.prog E w0 f_ref12_width [.int .i64 hi] (.agg (parR ⟨1, 1, hi⟩)) := fun x S => by
  refine V_ref12_width_ok ?_
  unfold V_ref12_width
  simp only [fillD, clI, setManyD, List.length_cons, List.length_nil, List.set, agS, oD, Nat.reduceAdd, Nat.reduceLeDiff, and_self, if_true]
  exact par_box rfl fun h => FinD.less h FinD.pure
theorem ref12_within_ok {f : Fld} {n : Int} : Pure Try.prog E w0 f_ref12_within [.agg (parR f), .int .i64 n] (.bool (f.may n)) := fun x S => by
  refine V_ref12_within_ok ?_
  unfold V_ref12_within
  rw [clA, oD]
  intro k acs hk
  have l : ∀ i, loadSc (S.set k ⟨(parR f).length, [parR f], acs⟩) (.ptr k i) = (parR f)[i]? := fun i => ldP (DSt.set_same _ _ _)
  rw [ofP, oD, l, show (parR f)[0 + 1]? = some (.int .i64 f.lo) from rfl, oD]
  by_cases h : f.lo ≤ n
  · by_cases h2 : n ≤ f.hi
    · simp [h, h2, l, show (parR f)[2]? = some (.int .i64 f.hi) from rfl]
      refine FinD.drop hk ?_
      rw [show f.may n = true by unfold Fld.may; simp [h, h2]]; exact FinD.pure
    · simp [h, h2, l, show (parR f)[2]? = some (.int .i64 f.hi) from rfl]
      refine FinD.drop hk ?_
      rw [show f.may n = false by unfold Fld.may; simp [h, h2]]; exact FinD.pure
  · simp [h]
    refine FinD.drop hk ?_
    rw [show f.may n = false by unfold Fld.may; simp [h]]; exact FinD.pure
theorem lit4 {ds : List D} (hl : ds.length = 4) {K : D → DSt → Prop} (h : K (.lst [ds] 4) S) : litD S 4 (fillR 4 (List.replicate 1 [(.int .i64 0), (.int .i64 0), (.int .i64 0), (.bool false)]) [(0, .agg ds)]) 1 K := by
  simp only [fillR, clA, List.length_cons, List.length_nil, List.replicate, List.set]
  rw [if_pos ⟨hl, by decide⟩]
  exact lit_lst rfl h
theorem lit44 {ds : List D} (hl : ds.length = 4) {K : D → DSt → Prop} (h : K (.lst [ds, ds] 4) S) : litD S 4 (fillR 4 (List.replicate 2 [(.int .i64 0), (.int .i64 0), (.int .i64 0), (.bool false)]) [(0, .agg ds), (1, .agg ds)]) 2 K := by
  simp only [fillR, clA, List.length_cons, List.length_nil, List.replicate, List.set]
  rw [if_pos ⟨hl, by decide⟩, if_pos ⟨hl, by decide⟩]
  exact lit_lst rfl h
theorem ref12_parts_ok : Pure Try.prog E w0 f_ref12_parts [.int .u8 op] (.tup [.lst (((lay op).getD []).map parR) 4, .bool (lay op).isSome]) := fun x S => by
  refine V_ref12_parts_ok ?_
  unfold V_ref12_parts
  rw [← layR_is]
  unfold layR
  have e0 : ∀ d : D, d = .tup [.lst (((layR op).getD []).map parR) 4, .bool (layR op).isSome] → FinD E (fun d' S' => d' = .tup [.lst (((layR op).getD []).map parR) 4, .bool (layR op).isSome] ∧ S' = S) d S := fun d h => h ▸ FinD.pure
  unfold layR at e0
  simp only [biEq, oD, orD, andD, orandD, cdB]
  simp only [fillD, clI, clB, setManyD, List.length_cons, List.length_nil, List.set, agS, oD, Nat.reduceAdd, Nat.reduceLeDiff, and_self, if_true]
  refine ⟨fun h => ?_, fun h1 => ⟨fun h => ?_, fun h2 => ⟨fun h => ?_, fun h3 => ⟨fun h => ?_, fun h4 => ⟨fun h => ?_, fun h5 => ⟨fun h => ?_, fun h6 => ⟨fun h => ?_, fun h7 => ⟨fun h => ?_, fun h8 => ⟨fun h => ?_, fun h9 => ⟨fun h => ?_, fun h10 => ⟨fun h => ?_, fun h11 => ?_⟩⟩⟩⟩⟩⟩⟩⟩⟩⟩⟩
  all_goals
    try replace h1 : ¬ op = 1 := by simpa using h1
    try replace h2 : ¬ op = 2 := by simpa using h2
    try replace h3 : ¬ op = 3 := by simpa using h3
    try replace h8 : ¬ op = 29 := by simpa using h8
    try replace h10 : ¬ op = 52 := by simpa using h10
    try replace h11 : ¬ op = 49 := by simpa using h11
    try simp only [if_neg h1] at e0 ⊢
    try simp only [if_neg h2] at e0 ⊢
    try simp only [if_neg h3] at e0 ⊢
    try simp only [h4, Bool.false_eq_true, if_false] at e0 ⊢
    try simp only [h5, Bool.false_eq_true, if_false] at e0 ⊢
    try simp only [h6, Bool.false_eq_true, if_false] at e0 ⊢
    try simp only [h7, Bool.false_eq_true, if_false] at e0 ⊢
    try simp only [if_neg h8] at e0 ⊢
    try simp only [h9, Bool.false_eq_true, if_false] at e0 ⊢
    try simp only [if_neg h10] at e0 ⊢
    try simp only [if_neg h11] at e0 ⊢
  · replace h : op = 1 := by simpa using h
    simp only [if_pos h] at e0 ⊢; exact lit4 rfl (e0 _ rfl)
  · replace h : op = 2 := by simpa using h
    simp only [if_pos h] at e0 ⊢; exact lit4 rfl (e0 _ rfl)
  · replace h : op = 3 := by simpa using h
    simp only [if_pos h] at e0 ⊢; exact lit4 rfl (e0 _ rfl)
  · simp only [h, if_true] at e0 ⊢; exact ref12_place_ok.use (lit4 rfl (e0 _ rfl))
  · simp only [h, if_true] at e0 ⊢; exact ref12_place_ok.use (ref12_place_ok.use (lit44 rfl (e0 _ rfl)))
  · simp only [h, if_true] at e0 ⊢; exact ref12_width_ok.use (lit4 rfl (e0 _ rfl))
  · simp only [h, if_true] at e0 ⊢; exact ref12_width_ok.use (lit4 rfl (e0 _ rfl))
  · replace h : op = 29 := by simpa using h
    simp only [if_pos h] at e0 ⊢; exact ref12_width_ok.use (ref12_width_ok.use (lit44 rfl (e0 _ rfl)))
  · simp only [h, if_true] at e0 ⊢; exact ref12_leap_ok.use (lit4 rfl (e0 _ rfl))
  · replace h : op = 52 := by simpa using h
    simp only [if_pos h] at e0 ⊢; exact lit4 rfl (e0 _ rfl)
  · replace h : op = 49 := by simpa using h
    simp only [if_pos h] at e0 ⊢; exact ref12_width_ok.use (lit4 rfl (e0 _ rfl))
  · by_cases h12 : decide (1 ≤ op ∧ op ≤ 52) = true
    · simp only [h12, if_true] at e0 ⊢; exact FinD.nilT (lp := []) (sz := 4) (e0 _ rfl)
    · have h12 : decide (1 ≤ op ∧ op ≤ 52) = false := by simpa using h12
      simp only [h12, Bool.false_eq_true, if_false] at e0 ⊢; exact FinD.nilT (lp := []) (sz := 4) (e0 _ rfl)
end
end Go.Proofs.Ytcboaonbfgjmgaa.d
end
