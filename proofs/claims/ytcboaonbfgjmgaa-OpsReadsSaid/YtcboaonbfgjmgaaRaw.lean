/-
  Texts Vb Cc Cd Dm Dn Ce Cf Vc Cg Ch Ci, as far as they are used.
-/
import Derived.Test.YtcboaonbfgjmgaaRows
import Derived.Test.YtcboaonbfgjmgaaRau
import Derived.KernelRfl
import Derived.Test.YtcboaonbfgjmgaaRav
section
open Go.Proofs Go Go.Am
namespace Go.Proofs.Ytcboaonbfgjmgaa.d
set_option linter.unusedVariables false
set_option maxRecDepth 100000
/- trammel/ops.layout -/
def lo_ops_layout : List (Nat × List Nat) := []
def cu_ops_layout : List (Nat × List Nat) := [(89, [0, 4, 5, 6, 13, 29]), (101, [0, 4, 5, 6, 13, 44]), (113, [0, 5, 6, 13, 50]), (137, [0, 5, 6, 13, 61])]
noncomputable def R_ops_layout_137 : Code := (codeAt [1, 1, 1, 0, 1, 0, 1, 1, 1, 1, 1, 1, 1, 1, 1, 1, 1, 1, 1, 1, 1] (Try.f40.body.getD .skip))
def KC_ops_layout_137 (E : Env) (w0 : World) (x : Bool) (Q : D → DSt → Prop) : AExit → List D → DSt → Prop :=
  (blockD 0 (seqD Try.prog E w0 x lo_ops_layout cu_ops_layout (codeAt [1, 1, 1, 1] (Try.f40.body.getD .skip)) (retD Try.prog Try.f40 Q)))
def P_ops_layout_137 (E : Env) (w0 : World) (x : Bool) (Q : D → DSt → Prop) (x0 x5 x6 x13 x61 : D) (S : DSt) : Prop :=
  condD x61
  (optW (loadAg S 2 x5) fun v56 =>
  litD S 2 (fillR 2 (List.replicate 1 [(.int .i64 0), .nilFn]) [(0, v56)]) 1 fun v57 S58 =>
  Q (.tup [v57, (.bool true)]) S58)
  (optW (binI .eql x13 (.int .u8 52)) fun v59 =>
  condD v59
  (DFn Try.prog E w0 x f_ops_between [(.int .i64 0), (.int .i64 255)] S fun v60 S61 =>
  optW (aggD (fillD [(.int .i64 0), .nilFn] [(0, 1, (.int .i64 1)), (1, 1, v60)])) fun v62 =>
  litD S61 2 (fillR 2 (List.replicate 1 [(.int .i64 0), .nilFn]) [(0, v62)]) 1 fun v63 S64 =>
  Q (.tup [v63, (.bool true)]) S64)
  (optW (binI .eql x13 (.int .u8 49)) fun v65 =>
  condD v65
  (optW (loadAg S 2 x6) fun v66 =>
  litD S 2 (fillR 2 (List.replicate 1 [(.int .i64 0), .nilFn]) [(0, v66)]) 1 fun v67 S68 =>
  Q (.tup [v67, (.bool true)]) S68)
  (optW (binI .geq x0 (.int .u8 11)) fun v69 =>
  optW (valGD (wantsD v69 true) (some x0)) fun v70 =>
  optW (valGD (wantsD v69 true) (binI .leq v70 (.int .u8 28))) fun v71 =>
  optW (pickD v69 v71 (.bool false)) fun v72 =>
  condD v72
  (optW (loadAg S 2 x6) fun v73 =>
  litD S 2 (fillR 2 (List.replicate 1 [(.int .i64 0), .nilFn]) [(0, v73)]) 1 fun v74 S75 =>
  Q (.tup [v74, (.bool true)]) S75)
  (optW (binI .geq x0 (.int .u8 1)) fun v76 =>
  optW (valGD (wantsD v76 true) (some x0)) fun v77 =>
  optW (valGD (wantsD v76 true) (binI .leq v77 (.int .u8 52))) fun v78 =>
  optW (pickD v76 v78 (.bool false)) fun v79 =>
  Q (.tup [.nilSlc, v79]) S))))
def C_ops_layout_137 (E : Env) (w0 : World) (x : Bool) (Q : D → DSt → Prop) (x0 x5 x6 x13 x61 : D) (S : DSt) : Prop := CodeD Try.prog E w0 x R_ops_layout_137 (mkRow 90 [0, 5, 6, 13, 61] [x0, x5, x6, x13, x61]) S (KC_ops_layout_137 E w0 x Q)
theorem C_ops_layout_137_ok {E : Env} {w0 : World} {x : Bool} {Q : D → DSt → Prop} {x0 x5 x6 x13 x61 : D} {S : DSt} (h : P_ops_layout_137 E w0 x Q x0 x5 x6 x13 x61 S) : C_ops_layout_137 E w0 x Q x0 x5 x6 x13 x61 S := codeD_of_vc lo_ops_layout cu_ops_layout mixed (by kernel_rfl) h
noncomputable def R_ops_layout_113 : Code := (codeAt [1, 1, 1, 0, 1, 0, 1, 1, 1, 1, 1, 1, 1, 1, 1, 1, 1] (Try.f40.body.getD .skip))
def KC_ops_layout_113 (E : Env) (w0 : World) (x : Bool) (Q : D → DSt → Prop) : AExit → List D → DSt → Prop :=
  (blockD 0 (seqD Try.prog E w0 x lo_ops_layout cu_ops_layout (codeAt [1, 1, 1, 1] (Try.f40.body.getD .skip)) (retD Try.prog Try.f40 Q)))
def P_ops_layout_113 (E : Env) (w0 : World) (x : Bool) (Q : D → DSt → Prop) (x0 x5 x6 x13 x50 : D) (S : DSt) : Prop :=
  condD x50
  (DFn Try.prog E w0 x f_ops_between [(.int .i64 1), (.int .i64 5)] S fun v46 S47 =>
  optW (aggD (fillD [(.int .i64 0), .nilFn] [(0, 1, (.int .i64 1)), (1, 1, v46)])) fun v48 =>
  litD S47 2 (fillR 2 (List.replicate 1 [(.int .i64 0), .nilFn]) [(0, v48)]) 1 fun v49 S50 =>
  Q (.tup [v49, (.bool true)]) S50)
  (optW (binI .eql x13 (.int .u8 29)) fun v51 =>
  condD v51
  (optW (loadAg S 2 x6) fun v52 =>
  optW (loadAg S 2 x6) fun v53 =>
  litD S 2 (fillR 2 (List.replicate 2 [(.int .i64 0), .nilFn]) [(0, v52), (1, v53)]) 2 fun v54 S55 =>
  Q (.tup [v54, (.bool true)]) S55)
  (optW (binI .eql x13 (.int .u8 46)) fun v80 =>
  condD v80
  (C_ops_layout_137 E w0 x Q x0 x5 x6 x13 v80 S)
  (optW (binI .eql x13 (.int .u8 47)) fun v81 =>
  condD v81
  (C_ops_layout_137 E w0 x Q x0 x5 x6 x13 v81 S)
  (optW (binI .eql x13 (.int .u8 48)) fun v82 =>
  C_ops_layout_137 E w0 x Q x0 x5 x6 x13 v82 S))))
def C_ops_layout_113 (E : Env) (w0 : World) (x : Bool) (Q : D → DSt → Prop) (x0 x5 x6 x13 x50 : D) (S : DSt) : Prop := CodeD Try.prog E w0 x R_ops_layout_113 (mkRow 90 [0, 5, 6, 13, 50] [x0, x5, x6, x13, x50]) S (KC_ops_layout_113 E w0 x Q)
theorem C_ops_layout_113_ok {E : Env} {w0 : World} {x : Bool} {Q : D → DSt → Prop} {x0 x5 x6 x13 x50 : D} {S : DSt} (h : P_ops_layout_113 E w0 x Q x0 x5 x6 x13 x50 S) : C_ops_layout_113 E w0 x Q x0 x5 x6 x13 x50 S := codeD_of_vc lo_ops_layout cu_ops_layout mixed (by kernel_rfl) h
noncomputable def R_ops_layout_101 : Code := (codeAt [1, 1, 1, 0, 1, 0, 1, 1, 1, 1, 1, 1, 1, 1, 1] (Try.f40.body.getD .skip))
def KC_ops_layout_101 (E : Env) (w0 : World) (x : Bool) (Q : D → DSt → Prop) : AExit → List D → DSt → Prop :=
  (blockD 0 (seqD Try.prog E w0 x lo_ops_layout cu_ops_layout (codeAt [1, 1, 1, 1] (Try.f40.body.getD .skip)) (retD Try.prog Try.f40 Q)))
def P_ops_layout_101 (E : Env) (w0 : World) (x : Bool) (Q : D → DSt → Prop) (x0 x4 x5 x6 x13 x44 : D) (S : DSt) : Prop :=
  condD x44
  (optW (loadAg S 2 x4) fun v42 =>
  optW (loadAg S 2 x4) fun v43 =>
  litD S 2 (fillR 2 (List.replicate 2 [(.int .i64 0), .nilFn]) [(0, v42), (1, v43)]) 2 fun v44 S45 =>
  Q (.tup [v44, (.bool true)]) S45)
  (optW (binI .eql x13 (.int .u8 23)) fun v83 =>
  condD v83
  (C_ops_layout_113 E w0 x Q x0 x5 x6 x13 v83 S)
  (optW (binI .eql x13 (.int .u8 24)) fun v84 =>
  C_ops_layout_113 E w0 x Q x0 x5 x6 x13 v84 S))
def C_ops_layout_101 (E : Env) (w0 : World) (x : Bool) (Q : D → DSt → Prop) (x0 x4 x5 x6 x13 x44 : D) (S : DSt) : Prop := CodeD Try.prog E w0 x R_ops_layout_101 (mkRow 90 [0, 4, 5, 6, 13, 44] [x0, x4, x5, x6, x13, x44]) S (KC_ops_layout_101 E w0 x Q)
theorem C_ops_layout_101_ok {E : Env} {w0 : World} {x : Bool} {Q : D → DSt → Prop} {x0 x4 x5 x6 x13 x44 : D} {S : DSt} (h : P_ops_layout_101 E w0 x Q x0 x4 x5 x6 x13 x44 S) : C_ops_layout_101 E w0 x Q x0 x4 x5 x6 x13 x44 S := codeD_of_vc lo_ops_layout cu_ops_layout mixed (by kernel_rfl) h
noncomputable def R_ops_layout_89 : Code := (codeAt [1, 1, 1, 0, 1, 0, 1, 1, 1, 1, 1, 1, 1] (Try.f40.body.getD .skip))
def KC_ops_layout_89 (E : Env) (w0 : World) (x : Bool) (Q : D → DSt → Prop) : AExit → List D → DSt → Prop :=
  (blockD 0 (seqD Try.prog E w0 x lo_ops_layout cu_ops_layout (codeAt [1, 1, 1, 1] (Try.f40.body.getD .skip)) (retD Try.prog Try.f40 Q)))
def P_ops_layout_89 (E : Env) (w0 : World) (x : Bool) (Q : D → DSt → Prop) (x0 x4 x5 x6 x13 x29 : D) (S : DSt) : Prop :=
  condD x29
  (optW (loadAg S 2 x4) fun v39 =>
  litD S 2 (fillR 2 (List.replicate 1 [(.int .i64 0), .nilFn]) [(0, v39)]) 1 fun v40 S41 =>
  Q (.tup [v40, (.bool true)]) S41)
  (optW (binI .eql x13 (.int .u8 37)) fun v85 =>
  condD v85
  (C_ops_layout_101 E w0 x Q x0 x4 x5 x6 x13 v85 S)
  (optW (binI .eql x13 (.int .u8 38)) fun v86 =>
  C_ops_layout_101 E w0 x Q x0 x4 x5 x6 x13 v86 S))
def C_ops_layout_89 (E : Env) (w0 : World) (x : Bool) (Q : D → DSt → Prop) (x0 x4 x5 x6 x13 x29 : D) (S : DSt) : Prop := CodeD Try.prog E w0 x R_ops_layout_89 (mkRow 90 [0, 4, 5, 6, 13, 29] [x0, x4, x5, x6, x13, x29]) S (KC_ops_layout_89 E w0 x Q)
theorem C_ops_layout_89_ok {E : Env} {w0 : World} {x : Bool} {Q : D → DSt → Prop} {x0 x4 x5 x6 x13 x29 : D} {S : DSt} (h : P_ops_layout_89 E w0 x Q x0 x4 x5 x6 x13 x29 S) : C_ops_layout_89 E w0 x Q x0 x4 x5 x6 x13 x29 S := codeD_of_vc lo_ops_layout cu_ops_layout mixed (by kernel_rfl) h
def V_ops_layout (E : Env) (w0 : World) (x : Bool) (Q : D → DSt → Prop) (a0 : D) (S : DSt) : Prop :=
  DFn Try.prog E w0 x f_ops_between [(.int .i64 0), (.int .i64 65535)] S fun v0 S1 =>
  optW (aggD (fillD [(.int .i64 0), .nilFn] [(0, 1, (.int .i64 2)), (1, 1, v0)])) fun v2 =>
  DFn Try.prog E w0 x f_ops_between [(.int .i64 0), (.int .i64 4294967295)] S1 fun v3 S4 =>
  optW (aggD (fillD [(.int .i64 0), .nilFn] [(0, 1, (.int .i64 4)), (1, 1, v3)])) fun v5 =>
  allocD S4 [(.int .i64 0), .nilFn] fun v6 S7 =>
  allocD S7 [(.int .i64 0), .nilFn] fun v8 S9 =>
  storeD S9 2 v6 v2 fun v10 S11 =>
  storeD S11 2 v8 v5 fun v12 S13 =>
  DFn Try.prog E w0 x f_ops_between [(.int .i64 1), (.int .i64 3)] S13 fun v14 S15 =>
  optW (aggD (fillD [(.int .i64 0), .nilFn] [(0, 1, (.int .i64 1)), (1, 1, v14)])) fun v16 =>
  allocD S15 [(.int .i64 0), .nilFn] fun v17 S18 =>
  storeD S18 2 v17 v16 fun v19 S20 =>
  optW (binI .eql a0 (.int .u8 1)) fun v21 =>
  condD v21
  (DFn Try.prog E w0 x f_ops_fits [(.int .u8 1)] S20 fun v22 S23 =>
  optW (aggD (fillD [(.int .i64 0), .nilFn] [(0, 1, (.int .i64 1)), (1, 1, v22)])) fun v24 =>
  litD S23 2 (fillR 2 (List.replicate 1 [(.int .i64 0), .nilFn]) [(0, v24)]) 1 fun v25 S26 =>
  Q (.tup [v25, (.bool true)]) S26)
  (optW (binI .eql a0 (.int .u8 2)) fun v27 =>
  condD v27
  (DFn Try.prog E w0 x f_ops_fits [(.int .u8 2)] S20 fun v28 S29 =>
  optW (aggD (fillD [(.int .i64 0), .nilFn] [(0, 1, (.int .i64 4)), (1, 1, v28)])) fun v30 =>
  litD S29 2 (fillR 2 (List.replicate 1 [(.int .i64 0), .nilFn]) [(0, v30)]) 1 fun v31 S32 =>
  Q (.tup [v31, (.bool true)]) S32)
  (optW (binI .eql a0 (.int .u8 3)) fun v33 =>
  condD v33
  (DFn Try.prog E w0 x f_ops_fits [(.int .u8 3)] S20 fun v34 S35 =>
  optW (aggD (fillD [(.int .i64 0), .nilFn] [(0, 1, (.int .i64 8)), (1, 1, v34)])) fun v36 =>
  litD S35 2 (fillR 2 (List.replicate 1 [(.int .i64 0), .nilFn]) [(0, v36)]) 1 fun v37 S38 =>
  Q (.tup [v37, (.bool true)]) S38)
  (optW (binI .eql a0 (.int .u8 6)) fun v87 =>
  condD v87
  (C_ops_layout_89 E w0 x Q a0 v6 v8 v17 a0 v87 S20)
  (optW (binI .eql a0 (.int .u8 7)) fun v88 =>
  condD v88
  (C_ops_layout_89 E w0 x Q a0 v6 v8 v17 a0 v88 S20)
  (optW (binI .eql a0 (.int .u8 8)) fun v89 =>
  condD v89
  (C_ops_layout_89 E w0 x Q a0 v6 v8 v17 a0 v89 S20)
  (optW (binI .eql a0 (.int .u8 50)) fun v90 =>
  condD v90
  (C_ops_layout_89 E w0 x Q a0 v6 v8 v17 a0 v90 S20)
  (optW (binI .eql a0 (.int .u8 36)) fun v91 =>
  condD v91
  (C_ops_layout_89 E w0 x Q a0 v6 v8 v17 a0 v91 S20)
  (optW (binI .eql a0 (.int .u8 39)) fun v92 =>
  condD v92
  (C_ops_layout_89 E w0 x Q a0 v6 v8 v17 a0 v92 S20)
  (optW (binI .eql a0 (.int .u8 40)) fun v93 =>
  condD v93
  (C_ops_layout_89 E w0 x Q a0 v6 v8 v17 a0 v93 S20)
  (optW (binI .eql a0 (.int .u8 41)) fun v94 =>
  condD v94
  (C_ops_layout_89 E w0 x Q a0 v6 v8 v17 a0 v94 S20)
  (optW (binI .eql a0 (.int .u8 42)) fun v95 =>
  condD v95
  (C_ops_layout_89 E w0 x Q a0 v6 v8 v17 a0 v95 S20)
  (optW (binI .eql a0 (.int .u8 43)) fun v96 =>
  condD v96
  (C_ops_layout_89 E w0 x Q a0 v6 v8 v17 a0 v96 S20)
  (optW (binI .eql a0 (.int .u8 44)) fun v97 =>
  condD v97
  (C_ops_layout_89 E w0 x Q a0 v6 v8 v17 a0 v97 S20)
  (optW (binI .eql a0 (.int .u8 45)) fun v98 =>
  C_ops_layout_89 E w0 x Q a0 v6 v8 v17 a0 v98 S20))))))))))))))
theorem V_ops_layout_ok {E : Env} {w0 : World} {x : Bool} {Q : D → DSt → Prop} {a0 : D} {S : DSt} (h : V_ops_layout E w0 x (FinD E Q) a0 S) : DFn Try.prog E w0 x f_ops_layout [a0] S Q :=
  fnD_of_vc lo_ops_layout cu_ops_layout (fn := Try.f40) (c := Try.f40.body.getD .skip) mixed Try.func40 (by kernel_rfl) (by kernel_rfl) h

/- trammel/ops.put -/
end Go.Proofs.Ytcboaonbfgjmgaa.d
end

section
open Go.Proofs Go Go.Am Go.Op
namespace Go.Proofs.Ytcboaonbfgjmgaa.d
set_option linter.unusedVariables false
set_option linter.unusedSimpArgs false
set_option maxRecDepth 100000
def fR (l : List Fld) : List (List D) := l.map fun f => [.int .i64 (f.size : Int), betD f.lo f.hi]
/-- The fields behind an Op. -/
def rowsF (op : Int) : List (List D) := if op = 1 then [[.int .i64 1, fitD 1]] else if op = 2 then [[.int .i64 4, fitD 2]] else if op = 3 then [[.int .i64 8, fitD 3]] else fR ((lay op).getD [])
section
variable {E : Env} {w0 : World} {x : Bool} {S : DSt} {Q : D → DSt → Prop} {k4 k5 k6 : Nat} {a4 a5 a6 : List AV} {op : Int} {b : Bool}
theorem fill2 {n : Int} {v : D} (h : cellsD v = some [v]) : aggD (fillD [(.int .i64 0), .nilFn] [(0, 1, (.int .i64 n)), (1, 1, v)]) = some (.agg [.int .i64 n, v]) := by
  simp [fillD, h, setManyD]
@[simp] theorem clBet (lo hi : Int) : cellsD (betD lo hi) = some [betD lo hi] := (rfl)
@[simp] theorem clFit (w : Int) : cellsD (fitD w) = some [fitD w] := (rfl)
theorem one_lit {n : Int} {v : D} {K : D → DSt → Prop} (h : K (.lst [[.int .i64 n, v]] 2) S) : litD S 2 (fillR 2 (List.replicate 1 [(.int .i64 0), .nilFn]) [(0, .agg [.int .i64 n, v])]) 1 K := by
  simp only [fillR, clA, List.length_cons, List.length_nil, List.replicate, List.set]
  rw [if_pos (by decide)]
  exact lit_lst rfl h
theorem two_lit {n : Int} {v : D} {K : D → DSt → Prop} (h : K (.lst [[.int .i64 n, v], [.int .i64 n, v]] 2) S) : litD S 2 (fillR 2 (List.replicate 2 [(.int .i64 0), .nilFn]) [(0, .agg [.int .i64 n, v]), (1, .agg [.int .i64 n, v])]) 2 K := by
  simp only [fillR, clA, List.length_cons, List.length_nil, List.replicate, List.set]
  rw [if_pos (by decide), if_pos (by decide)]
  exact lit_lst rfl h
theorem bx {k : Nat} {n : Int} {v : D} {acs : List AV} (h : S k = some ⟨2, [[.int .i64 n, v]], acs⟩) : loadAg S 2 (.ptr k 0) = some (.agg [.int .i64 n, v]) := laP h ⟨by decide, by simp⟩
theorem lay_j3 (h5 : S k5 = some ⟨2, [[.int .i64 4, betD 0 4294967295]], a5⟩) (h6 : S k6 = some ⟨2, [[.int .i64 1, betD 1 3]], a6⟩) (hQ : FinD E Q (.tup [.lst (fR ((lay3 b op).getD [])) 2, .bool (lay3 b op).isSome]) S) :
    C_ops_layout_137 E w0 x (FinD E Q) (.int .u8 op) (.ptr k5 0) (.ptr k6 0) (.int .u8 op) (.bool b) S := by
  refine C_ops_layout_137_ok ?_
  unfold P_ops_layout_137
  unfold lay3 at hQ
  have nilq : FinD E Q (.tup [.lst [] 2, .bool true]) S → FinD E Q (.tup [.nilSlc, .bool true]) S := fun h => FinD.nilT (lp := []) (sz := 2) h
  have nilf : FinD E Q (.tup [.lst [] 2, .bool false]) S → FinD E Q (.tup [.nilSlc, .bool false]) S := fun h => FinD.nilT (lp := []) (sz := 2) h
  cases b with
  | true => rw [cdT, bx h5, oD]; exact one_lit hQ
  | false =>
    rw [cdF, biEq, oD, cdB]
    simp only [Bool.false_eq_true, if_false] at hQ
    refine ⟨fun h => ?_, fun h => ?_⟩
    · rw [if_pos (by simpa using h)] at hQ
      refine ops_between_ok.use ?_
      rw [fill2 (clBet _ _), oD]
      exact one_lit hQ
    rw [if_neg (by simpa using h)] at hQ
    rw [biEq, oD, cdB]
    refine ⟨fun h => ?_, fun h => ?_⟩
    · rw [if_pos (by simpa using h)] at hQ; rw [bx h6, oD]; exact one_lit hQ
    rw [if_neg (by simpa using h)] at hQ
    by_cases h1 : 11 ≤ op
    · by_cases h2 : op ≤ 28
      · rw [if_pos ⟨h1, h2⟩] at hQ
        simp [h1, h2, bx h6]
        exact one_lit hQ
      · rw [if_neg (by omega)] at hQ
        simp [h1, h2]
        by_cases h3 : op ≤ 52
        · rw [if_pos (by omega)] at hQ
          simp [show (1 : Int) ≤ op by omega, h3]
          exact nilq hQ
        · rw [if_neg (by omega)] at hQ
          simp [show (1 : Int) ≤ op by omega, h3]
          exact nilf hQ
    · rw [if_neg (by omega)] at hQ
      simp [h1]
      by_cases h3 : 1 ≤ op
      · rw [if_pos (by omega)] at hQ
        simp [h3, show op ≤ 52 by omega]
        exact nilq hQ
      · rw [if_neg (by omega)] at hQ
        simp [h3]
        exact nilf hQ
theorem lay_j2 (h5 : S k5 = some ⟨2, [[.int .i64 4, betD 0 4294967295]], a5⟩) (h6 : S k6 = some ⟨2, [[.int .i64 1, betD 1 3]], a6⟩) (hQ : FinD E Q (.tup [.lst (fR ((lay2 b op).getD [])) 2, .bool (lay2 b op).isSome]) S) :
    C_ops_layout_113 E w0 x (FinD E Q) (.int .u8 op) (.ptr k5 0) (.ptr k6 0) (.int .u8 op) (.bool b) S := by
  refine C_ops_layout_113_ok ?_
  unfold P_ops_layout_113
  unfold lay2 at hQ
  cases b with
  | true =>
    rw [cdT]
    refine ops_between_ok.use ?_
    rw [fill2 (clBet _ _), oD]
    exact one_lit hQ
  | false =>
    rw [cdF, biEq, oD, cdB]
    simp only [Bool.false_eq_true, if_false] at hQ
    refine ⟨fun h => ?_, fun h => ?_⟩
    · rw [if_pos (by simpa using h)] at hQ; rw [bx h6, oD, oD]; exact two_lit hQ
    rw [if_neg (by simpa using h)] at hQ
    simp only [biEq, oD, cdB]
    refine ⟨fun h => ?_, fun h => ⟨fun h' => ?_, fun h' => ?_⟩⟩
    · rw [h]; refine lay_j3 h5 h6 ?_; simpa [h] using hQ
    · rw [h']; refine lay_j3 h5 h6 ?_; simpa [h, h'] using hQ
    · refine lay_j3 h5 h6 ?_; simpa [h, h'] using hQ
theorem lay_j1 (h4 : S k4 = some ⟨2, [[.int .i64 2, betD 0 65535]], a4⟩) (h5 : S k5 = some ⟨2, [[.int .i64 4, betD 0 4294967295]], a5⟩) (h6 : S k6 = some ⟨2, [[.int .i64 1, betD 1 3]], a6⟩) (hQ : FinD E Q (.tup [.lst (fR ((lay1 b op).getD [])) 2, .bool (lay1 b op).isSome]) S) :
    C_ops_layout_101 E w0 x (FinD E Q) (.int .u8 op) (.ptr k4 0) (.ptr k5 0) (.ptr k6 0) (.int .u8 op) (.bool b) S := by
  refine C_ops_layout_101_ok ?_
  unfold P_ops_layout_101
  unfold lay1 at hQ
  cases b with
  | true => rw [cdT, bx h4, oD, oD]; exact two_lit hQ
  | false =>
    rw [cdF]
    simp only [Bool.false_eq_true, if_false] at hQ
    simp only [biEq, oD, cdB]
    refine ⟨fun h => ?_, fun h => ?_⟩
    · rw [h]; refine lay_j2 h5 h6 ?_; simpa [h] using hQ
    · refine lay_j2 h5 h6 ?_; simpa [h] using hQ
theorem lay_j0 (h4 : S k4 = some ⟨2, [[.int .i64 2, betD 0 65535]], a4⟩) (h5 : S k5 = some ⟨2, [[.int .i64 4, betD 0 4294967295]], a5⟩) (h6 : S k6 = some ⟨2, [[.int .i64 1, betD 1 3]], a6⟩) (hQ : FinD E Q (.tup [.lst (fR ((lay0 b op).getD [])) 2, .bool (lay0 b op).isSome]) S) :
    C_ops_layout_89 E w0 x (FinD E Q) (.int .u8 op) (.ptr k4 0) (.ptr k5 0) (.ptr k6 0) (.int .u8 op) (.bool b) S := by
  refine C_ops_layout_89_ok ?_
  unfold P_ops_layout_89
  unfold lay0 at hQ
  cases b with
  | true => rw [cdT, bx h4, oD]; exact one_lit hQ
  | false =>
    rw [cdF]
    simp only [Bool.false_eq_true, if_false] at hQ
    simp only [biEq, oD, cdB]
    refine ⟨fun h => ?_, fun h => ?_⟩
    · rw [h]; refine lay_j1 h4 h5 h6 ?_; simpa [h] using hQ
    · refine lay_j1 h4 h5 h6 ?_; simpa [h] using hQ
theorem ops_layout_ok : Pure Try.prog E w0 f_ops_layout [.int .u8 op] (.tup [.lst (rowsF op) 2, .bool (lay op).isSome]) := fun x S0 => by
  refine V_ops_layout_ok ?_
  unfold V_ops_layout
  refine ops_between_ok.use ?_
  rw [fill2 (clBet _ _), oD]
  refine ops_between_ok.use ?_
  rw [fill2 (clBet _ _), oD]
  intro k4 a4 n4 k5 a5 n5
  obtain ⟨ne5, n5'⟩ := DSt.fresh n5
  refine stP (ds := [.int .i64 2, betD 0 65535]) (by rw [DSt.set_ne _ _ _ (Ne.symm ne5)]; exact DSt.set_same _ _ _) (clA _) ⟨rfl, by decide, by simp⟩ fun a4 => ?_
  rw [DSt.set_in _ (Ne.symm ne5)]
  refine stP (ds := [.int .i64 4, betD 0 4294967295]) (DSt.set_same _ _ _) (clA _) ⟨rfl, by decide, by simp⟩ fun a5 => ?_
  rw [DSt.set_set]
  refine ops_between_ok.use ?_
  rw [fill2 (clBet _ _), oD]
  intro k6 a6 n6
  refine stP (ds := [.int .i64 1, betD 1 3]) (DSt.set_same _ _ _) (clA _) ⟨rfl, by decide, by simp⟩ fun a6 => ?_
  rw [DSt.set_set]
  obtain ⟨ne6, n6'⟩ := DSt.fresh n6
  obtain ⟨ne6', n6''⟩ := DSt.fresh n6'
  generalize hS : ((S0.set k4 _).set k5 _).set k6 _ = S
  have hle : S0.le S := by rw [← hS]; exact DSt.le_set (DSt.le_set (DSt.le_new n4) n5') n6''
  have h6 : S k6 = some ⟨2, [[.int .i64 1, betD 1 3]], a6⟩ := by rw [← hS]; exact DSt.set_same _ _ _
  have h5 : S k5 = some ⟨2, [[.int .i64 4, betD 0 4294967295]], a5⟩ := by rw [← hS, DSt.set_ne _ _ _ (Ne.symm ne6)]; exact DSt.set_same _ _ _
  have h4 : S k4 = some ⟨2, [[.int .i64 2, betD 0 65535]], a4⟩ := by rw [← hS, DSt.set_ne _ _ _ (Ne.symm ne6'), DSt.set_ne _ _ _ (Ne.symm ne5)]; exact DSt.set_same _ _ _
  have hQ : FinD E (fun d' S' => d' = .tup [.lst (rowsF op) 2, .bool (lay op).isSome] ∧ S' = S0) (.tup [.lst (rowsF op) 2, .bool (lay op).isSome]) S := FinD.less hle FinD.pure
  clear hS
  generalize hQ0 : (fun d' S' => d' = D.tup [.lst (rowsF op) 2, .bool (lay op).isSome] ∧ S' = S0) = Q0 at hQ ⊢
  clear hQ0
  simp only [biEq, oD, cdB, beq_iff_eq, beq_eq_false_iff_ne, ne_eq]
  refine ⟨fun h => ?_, fun g1 => ⟨fun h => ?_, fun g2 => ⟨fun h => ?_, fun g3 => ?_⟩⟩⟩
  · refine ops_fits_ok.use ?_
    rw [fill2 (clFit _), oD]
    refine one_lit ?_
    rw [h] at hQ; exact hQ
  · refine ops_fits_ok.use ?_
    rw [fill2 (clFit _), oD]
    refine one_lit ?_
    rw [h] at hQ; exact hQ
  · refine ops_fits_ok.use ?_
    rw [fill2 (clFit _), oD]
    refine one_lit ?_
    rw [h] at hQ; exact hQ
  have e : lay op = lay0 (op == 6 || op == 7 || op == 8 || op == 50 || op == 36 || op == 39 || op == 40 || op == 41 || op == 42 || op == 43 || op == 44 || op == 45) op := by unfold lay; rw [if_neg g1, if_neg g2, if_neg g3]
  rw [show rowsF op = fR ((lay op).getD []) by unfold rowsF; rw [if_neg g1, if_neg g2, if_neg g3], e] at hQ
  generalize hb : (op == 6 || op == 7 || op == 8 || op == 50 || op == 36 || op == 39 || op == 40 || op == 41 || op == 42 || op == 43 || op == 44 || op == 45) = b at hQ
  have fin : ∀ c : Bool, c = b → C_ops_layout_89 E w0 x (FinD E Q0) (.int .u8 op) (.ptr k4 0) (.ptr k5 0) (.ptr k6 0) (.int .u8 op) (.bool c) S := by
    rintro c rfl
    exact lay_j0 h4 h5 h6 hQ
  refine ⟨fun h => fin _ (by rw [← hb]; simp [h]), fun h1 => ⟨fun h => fin _ (by rw [← hb]; simp [h]), fun h2 => ⟨fun h => fin _ (by rw [← hb]; simp [h]), fun h3 => ⟨fun h => fin _ (by rw [← hb]; simp [h]), fun h4 => ⟨fun h => fin _ (by rw [← hb]; simp [h]), fun h5 => ⟨fun h => fin _ (by rw [← hb]; simp [h]), fun h6 =>
    ⟨fun h => fin _ (by rw [← hb]; simp [h]), fun h7 => ⟨fun h => fin _ (by rw [← hb]; simp [h]), fun h8 => ⟨fun h => fin _ (by rw [← hb]; simp [h]), fun h9 => ⟨fun h => fin _ (by rw [← hb]; simp [h]), fun h10 => ⟨fun h => fin _ (by rw [← hb]; simp [h]), fun h11 => fin _ (by rw [← hb]; simp [h1, h2, h3, h4, h5, h6, h7, h8, h9, h10, h11])⟩⟩⟩⟩⟩⟩⟩⟩⟩⟩⟩
end
end Go.Proofs.Ytcboaonbfgjmgaa.d
end

section
open Go.Proofs Go Go.Am Go.Op
namespace Go.Proofs.Ytcboaonbfgjmgaa.d
set_option linter.unusedVariables false
set_option linter.unusedSimpArgs false
set_option maxRecDepth 100000
/-- What tells whether a number is from one to another. -/
def MayD (fv : D) (lo hi : Int) : Prop := fv = betD lo hi ∨ ∃ w, fv = fitD w ∧ lo = fitLo w ∧ hi = fitHi w
theorem MayD.bet (lo hi : Int) : MayD (betD lo hi) lo hi := .inl rfl
theorem MayD.fit (w : Int) : MayD (fitD w) (fitLo w) (fitHi w) := .inr ⟨w, rfl, rfl, rfl⟩
theorem MayD.cells {fv : D} {lo hi : Int} (h : MayD fv lo hi) : cellsD fv = some [fv] := by
  rcases h with rfl | ⟨w, rfl, _⟩ <;> rfl
theorem fnb1 : bodied Try.prog f_ops_between_1 = true := by kernel_rfl
theorem fnb2 : bodied Try.prog f_ops_fits_1 = true := by kernel_rfl
/-- A row of a field. -/
def FldD (row : List D) (f : Fld) : Prop := ∃ fv, row = [.int .i64 (f.size : Int), fv] ∧ MayD fv f.lo f.hi
theorem rowsF_at {op : Int} {i : Nat} {f : Fld} (h : ((lay op).getD [])[i]? = some f) : ∃ row, (rowsF op)[i]? = some row ∧ FldD row f := by
  unfold rowsF
  by_cases h1 : op = 1
  · have e : lay op = some [⟨1, fitLo 1, fitHi 1⟩] := by unfold lay; rw [if_pos h1]
    rw [e] at h
    rw [if_pos h1]
    cases i with
    | zero => cases h; exact ⟨_, rfl, _, rfl, .fit 1⟩
    | succ i => cases h
  rw [if_neg h1]
  by_cases h2 : op = 2
  · have e : lay op = some [⟨4, fitLo 2, fitHi 2⟩] := by unfold lay; rw [if_neg h1, if_pos h2]
    rw [e] at h
    rw [if_pos h2]
    cases i with
    | zero => cases h; exact ⟨_, rfl, _, rfl, .fit 2⟩
    | succ i => cases h
  rw [if_neg h2]
  by_cases h3 : op = 3
  · have e : lay op = some [⟨8, fitLo 3, fitHi 3⟩] := by unfold lay; rw [if_neg h1, if_neg h2, if_pos h3]
    rw [e] at h
    rw [if_pos h3]
    cases i with
    | zero => cases h; exact ⟨_, rfl, _, rfl, .fit 3⟩
    | succ i => cases h
  rw [if_neg h3]
  exact ⟨_, by unfold fR; rw [List.getElem?_map, h]; rfl, _, rfl, .bet _ _⟩
theorem rowsF_length {op : Int} : (rowsF op).length = ((lay op).getD []).length := by
  unfold rowsF
  by_cases h1 : op = 1
  · rw [if_pos h1]; unfold lay; rw [if_pos h1]; rfl
  rw [if_neg h1]
  by_cases h2 : op = 2
  · rw [if_pos h2]; unfold lay; rw [if_neg h1, if_pos h2]; rfl
  rw [if_neg h2]
  by_cases h3 : op = 3
  · rw [if_pos h3]; unfold lay; rw [if_neg h1, if_neg h2, if_pos h3]; rfl
  rw [if_neg h3, fR, List.length_map]
section
variable {E : Env} {w0 : World} {x : Bool} {S0 S : DSt} {t : D} {bs ms : List Int}
theorem may_call {fv : D} {lo hi n : Int} (h : MayD fv lo hi) (hn : I64 n) {K : D → DSt → Prop} (hK : K (.bool (decide (lo ≤ n ∧ n ≤ hi))) S) : callVD Try.prog (DFn Try.prog E w0 x) S fv [.int .i64 n] K := by
  rcases h with rfl | ⟨w, rfl, rfl, rfl⟩
  · simp only [betD, callVD, enterD, fnb1, if_true]
    exact ops_between_1_ok.use hK
  · simp only [fitD, callVD, enterD, fnb2, if_true]
    exact (ops_fits_1_ok hn).use hK
end
end Go.Proofs.Ytcboaonbfgjmgaa.d
end

section
namespace Go.Am
set_option linter.unusedVariables false
set_option linter.unusedSimpArgs false
def WkR : List (List D) → List (List D) → Prop
  | [], [] => True
  | r :: rs, q :: qs => (WkL r q ∧ r.length = q.length) ∧ WkR rs qs
  | _, _ => False
theorem WkR.length : ∀ {rs qs : List (List D)}, WkR rs qs → rs.length = qs.length
  | [], [], _ => rfl
  | r :: rs, q :: qs, h => by rw [List.length_cons, List.length_cons, WkR.length h.2]
  | [], _ :: _, h => h.elim
  | _ :: _, [], h => h.elim
theorem WkR.row : ∀ {rs qs : List (List D)} {sz : Nat}, WkR rs qs → (∀ r ∈ rs, r.length = sz) → ∀ q ∈ qs, q.length = sz
  | [], [], sz, _, _ => fun q hq => by cases hq
  | r :: rs, q :: qs, sz, h, hr => fun y hy => by
    rcases List.mem_cons.1 hy with e | hy
    · subst e; rw [← h.1.2]; exact hr r List.mem_cons_self
    · exact WkR.row h.2 (fun r hr' => hr r (List.mem_cons_of_mem _ hr')) y hy
  | [], _ :: _, _, h, _ => h.elim
  | _ :: _, [], _, h, _ => h.elim
theorem WkR.ok {E : Env} {R : Fz} : ∀ {rs qs : List (List D)} {vs : List AV}, WkR rs qs → RpLL E R rs vs → RpLL E R qs vs
  | [], [], vs, _, h => h
  | r :: rs, q :: qs, vs, w, h => by
    simp only [RpLL] at h ⊢
    obtain ⟨a, b, e, h1, h2⟩ := h
    exact ⟨a, b, e, w.1.1.ok h1, WkR.ok w.2 h2⟩
  | [], _ :: _, _, w, _ => w.elim
  | _ :: _, [], _, w, _ => w.elim
theorem Wk.lst {rs qs : List (List D)} (w : WkR rs qs) (sz : Nat) : Wk (.lst rs sz) (.lst qs sz) := fun E R v h => by
  simp only [Rp] at h ⊢
  rcases h with ⟨rfl, rfl⟩ | ⟨o, j, cap, ex, z, e1, e2, e3, e4, e5⟩
  · cases qs with
    | nil => exact .inl ⟨rfl, rfl⟩
    | cons => exact w.elim
  · refine .inr ⟨o, j, cap, ex, z, by rw [← w.length]; exact e1, e2, by rw [← w.length]; exact e3, w.row e4, ?_⟩
    rcases e5 with rfl | ⟨all, f1, f2, f3⟩
    · cases qs with
      | nil => exact .inl rfl
      | cons => exact w.elim
    · exact .inr ⟨all, f1, by rw [← w.length]; exact w.ok f2, by rw [← w.length]; exact f3⟩
theorem Wk.trans {a b c : D} (h : Wk a b) (h' : Wk b c) : Wk a c := fun E R v x => h' E R v (h E R v x)
theorem WkR.map {α : Type} {f g : α → List D} (h : ∀ a, WkL (f a) (g a) ∧ (f a).length = (g a).length) : ∀ (l : List α), WkR (l.map f) (l.map g)
  | [] => trivial
  | a :: l => ⟨h a, WkR.map h l⟩
/-- A list that is read: with more behind it, or not. -/
inductive Lst (rows : List (List D)) (sz : Nat) : D → Prop where
  | lst : Lst rows sz (.lst rows sz)
  | ext (more : List (List D)) : Lst rows sz (.ext rows more sz)
section
variable {rows : List (List D)} {sz : Nat} {d : D}
theorem Lst.len (h : Lst rows sz d) : lenSl d = some (.int .i64 rows.length) := by cases h <;> rfl
theorem Lst.at (h : Lst rows sz d) {i : Nat} {row : List D} (hr : rows[i]? = some row) : idxSl sz d (.int .i64 (i : Int)) = some (.elt row 0) := by
  cases h
  · exact idxL hr
  · exact idxE hr
theorem Lst.rowsS (h : Lst rows sz d) (S : DSt) : Am.rowsS S sz d = some rows := by
  cases h <;> simp [Am.rowsS, rowsOf]
theorem Lst.wk (h : Lst rows sz d) : Wk d (.lst rows sz) := by
  cases h
  · exact Wk.refl _
  · exact Wk.ext _ _ _
theorem Lst.cells (h : Lst rows sz d) : cellsD d = some [d] := by cases h <;> rfl
end
theorem bndN {n cap : Nat} (h : n ≤ cap) : boundD (.int .i64 (n : Int)) cap = some n := by
  simp only [boundD]
  rw [if_pos (by omega), Int.toNat_natCast]
theorem slcL {rows : List (List D)} {sz n : Nat} (h : n ≤ rows.length) : sliceSl sz (.lst rows sz) none (some (.int .i64 (n : Int))) none = some (extD (rows.take n) (rows.drop n) sz) := by
  simp only [sliceSl, boundsD, topD, highD, lowD, if_true, Option.bind_some, bndN h, Option.map_some, List.drop_zero, Nat.sub_zero]
  rw [List.take_of_length_le (l := rows.drop n) (by rw [List.length_drop]; omega)]
theorem slcE {rows more : List (List D)} {sz n : Nat} (h : n ≤ (rows ++ more).length) : sliceSl sz (.ext rows more sz) none (some (.int .i64 (n : Int))) none = some (extD ((rows ++ more).take n) ((rows ++ more).drop n) sz) := by
  simp only [sliceSl, boundsD, topD, highD, lowD, if_true, Option.bind_some, bndN h, Option.map_some, List.drop_zero, Nat.sub_zero]
  rw [List.take_of_length_le (l := (rows ++ more).drop n) (by rw [List.length_drop]; omega)]
theorem Grw.upd {S0 S : DSt} {t : D} {rows : List (List D)} {sz k : Nat} {o o' : DObj} (h : Grw S0 t rows sz S) (hk : S0 k = some o') : Grw (S0.set k o) t rows sz (S.set k o) := by
  rcases h with ⟨rfl, rfl, rfl⟩ | ⟨l, acs, h, rfl, rfl⟩
  · exact .inl ⟨rfl, rfl, rfl⟩
  · have hne : l ≠ k := fun e => by rw [e, hk] at h; cases h
    refine .inr ⟨l, acs, ?_, rfl, DSt.set_comm _ hne _ _⟩
    rw [DSt.set_ne _ _ _ hne]; exact h
/-- What grows no more. -/
theorem Grw.last {S0 S : DSt} {t : D} {rows : List (List D)} {sz bytes : Nat} (h : Grw S0 t rows sz S) {v : D} {news : List (List D)} (hv : rowsS S sz v = some news) (hn : news ≠ []) (hb : 0 < bytes ∧ (2 * (rows.length + news.length) + 768) * bytes ≤ 2 ^ 47) {K : D → DSt → Prop}
    (hK : K (.lst (rows ++ news) sz) S0) : appendD S sz bytes t v K := by
  simp only [appendD, hv]
  rcases h with ⟨rfl, rfl, rfl⟩ | ⟨k, acs, h, rfl, rfl⟩
  · simp only [growD]
    rw [if_neg hn]
    refine ⟨⟨hb.1, by simpa using hb.2⟩, .inl ?_⟩
    rw [List.take_of_length_le (Nat.le_refl _)]
    simpa using hK
  · simp only [growD]
    rw [if_neg hn, DSt.set_same]
    simp only
    rw [if_pos ⟨by trivial, by trivial, by omega⟩]
    refine ⟨hb, .inl ?_⟩
    rw [DSt.erase_set _ _ _ h, List.take_of_length_le (by simp)]
    simpa using hK
end Go.Am
end

section
namespace Go.Am
set_option linter.unusedVariables false
set_option linter.unusedSimpArgs false
theorem DSt.set_self {S : DSt} {k : Nat} {o : DObj} (h : S k = some o) : S.set k o = S := by
  funext j; unfold DSt.set
  by_cases e : j = k
  · subst e; rw [if_pos rfl, h]
  · rw [if_neg e]
theorem DSt.ne_of {S : DSt} {k l : Nat} {o : DObj} (h : S k = some o) (n : S l = Option.none) : k ≠ l := fun e => by rw [e, n] at h; cases h
theorem DSt.none_of {S S' : DSt} (h : S.le S') {k : Nat} (hk : S' k = Option.none) : S k = Option.none := by
  cases e : S k with
  | none => rfl
  | some o => rw [h _ _ e] at hk; cases hk
/-- An object of one row. -/
def Cel (S : DSt) (k sz : Nat) (c : List D) : Prop := ∃ a, S k = some ⟨sz, [c], a⟩
section
variable {S S' : DSt} {k l sz sz' : Nat} {c c' : List D}
theorem Cel.new {a : List AV} : Cel (S.set k ⟨sz, [c], a⟩) k sz c := ⟨a, DSt.set_same _ _ _⟩
theorem Cel.set_ne (h : Cel S k sz c) {o : DObj} (hn : k ≠ l) : Cel (S.set l o) k sz c := by
  obtain ⟨a, h⟩ := h; exact ⟨a, by rw [DSt.set_ne _ _ _ hn]; exact h⟩
theorem Cel.none (h : Cel S k sz c) (hn : S l = Option.none) : k ≠ l := by
  obtain ⟨a, h⟩ := h; exact DSt.ne_of h hn
theorem Cel.set (h : Cel S k sz c) {o : DObj} (hn : S l = Option.none) : Cel (S.set l o) k sz c := h.set_ne (h.none hn)
theorem Cel.of (h : Cel S k sz c) (e : S' k = S k) : Cel S' k sz c := by
  obtain ⟨a, h⟩ := h; exact ⟨a, by rw [e]; exact h⟩
theorem Cel.le (h : Cel S k sz c) (hl : S.le S') : Cel S' k sz c := by
  obtain ⟨a, h⟩ := h; exact ⟨a, hl _ _ h⟩
theorem Cel.ne (h : Cel S k sz c) (h' : Cel S l sz' c') (hs : sz ≠ sz') : k ≠ l := fun e => by
  obtain ⟨a, h⟩ := h; obtain ⟨b, h'⟩ := h'; subst e; rw [h] at h'; cases h'; exact hs rfl
theorem Cel.there (h : Cel S k sz c) : S k ≠ Option.none := by
  obtain ⟨a, h⟩ := h; rw [h]; simp
theorem Cel.ld (h : Cel S k sz c) (i : Nat) : loadSc S (.ptr k i) = c[i]? := by obtain ⟨a, h⟩ := h; exact ldP h
theorem Cel.la (h : Cel S k sz c) {i n : Nat} (hn : 0 < n ∧ i + n ≤ c.length) : loadAg S n (.ptr k i) = some (.agg ((c.drop i).take n)) := by obtain ⟨a, h⟩ := h; exact laP h hn
theorem Cel.all (h : Cel S k sz c) {n : Nat} (hn : 0 < n) (hl : n = c.length) : loadAg S n (.ptr k 0) = Option.some (.agg c) := by
  rw [h.la ⟨hn, by omega⟩, List.drop_zero, List.take_of_length_le (by omega)]
theorem Cel.st (h : Cel S k sz c) {i n : Nat} {v : D} {ds : List D} {K : D → DSt → Prop} (hv : cellsD v = Option.some ds) (hn : ds.length = n ∧ 0 < n ∧ i + n ≤ c.length) (hK : ∀ a, K undefD (S.set k ⟨sz, [setManyD c i ds], a⟩)) : storeD S n (.ptr k i) v K := by
  obtain ⟨a, h⟩ := h; exact stP h hv hn hK
end
/-- A slice that grows, an object of its own: none of 'av'. -/
def GrA (S0 : DSt) (av : List Nat) (t : D) (rows : List (List D)) (sz : Nat) (S : DSt) : Prop :=
  (t = .nilSlc ∧ rows = []) ∨ ∃ k acs, S0 k = Option.none ∧ k ∉ av ∧ t = .raw k 0 rows.length rows.length false sz ∧ S k = some ⟨sz, rows, acs⟩
section
variable {S0 S : DSt} {av : List Nat} {t : D} {rows : List (List D)} {sz : Nat}
theorem GrA.nil : GrA S0 av .nilSlc [] sz S := .inl ⟨rfl, rfl⟩
theorem GrA.of (h : GrA S0 av t rows sz S) {S' : DSt} (e : ∀ k o, k ∉ av → S k = some o → S' k = some o) : GrA S0 av t rows sz S' := by
  rcases h with h | ⟨k, acs, h0, h1, h2, h3⟩
  · exact .inl h
  · exact .inr ⟨k, acs, h0, h1, h2, e _ _ h1 h3⟩
theorem GrA.set (h : GrA S0 av t rows sz S) {l : Nat} {o : DObj} (hl : l ∈ av ∨ S l = Option.none) : GrA S0 av t rows sz (S.set l o) := h.of fun k o' hk e => by
  rw [DSt.set_ne]
  · exact e
  · rintro rfl
    rcases hl with hl | hl
    · exact hk hl
    · rw [hl] at e; cases e
theorem GrA.le (h : GrA S0 av t rows sz S) {S' : DSt} (hl : S.le S') : GrA S0 av t rows sz S' := h.of fun k o _ e => hl _ _ e
theorem GrA.push (h : GrA S0 av t rows sz S) (hle : S0.le S) (hav : ∀ j ∈ av, S j ≠ Option.none) {bytes : Nat} {v : D} {news : List (List D)} (hv : rowsS S sz v = some news) (hn : news ≠ []) (hb : 0 < bytes ∧ (2 * (rows.length + news.length) + 768) * bytes ≤ 2 ^ 47) {K : D → DSt → Prop}
    (hK : ∀ t' S', S0.le S' → (∀ j ∈ av, S' j = S j) → GrA S0 av t' (rows ++ news) sz S' → K t' S') : appendD S sz bytes t v K := by
  simp only [appendD, hv]
  rcases h with ⟨rfl, rfl⟩ | ⟨k, acs, h0, h1, rfl, h3⟩
  · simp only [growD]
    rw [if_neg hn]
    refine ⟨⟨hb.1, by simpa using hb.2⟩, .inr fun k acs hk => hK _ _ (DSt.le_set hle (DSt.none_of hle hk)) (fun j hj => DSt.set_ne _ _ _ fun e => hav j hj (by rw [e]; exact hk)) (.inr ⟨k, acs, DSt.none_of hle hk, fun hm => hav k hm hk, by simp, by simpa using DSt.set_same _ _ _⟩)⟩
  · simp only [growD]
    rw [if_neg hn, h3]
    simp only
    rw [if_pos ⟨by trivial, by trivial, by omega⟩]
    have hke : ∀ j ∈ av, (S.erase k) j = S j := fun j hj => DSt.erase_ne _ _ fun e => h1 (e ▸ hj)
    refine ⟨hb, .inr fun k' acs' hk' => ?_⟩
    have hle' := DSt.le_erase hle h0
    refine hK _ _ (DSt.le_set hle' (DSt.none_of hle' hk')) (fun j hj => ?_) (.inr ⟨k', acs', DSt.none_of hle' hk', fun hm => hav k' hm (by rw [← hke k' hm]; exact hk'), by simp, ?_⟩)
    · rw [DSt.set_ne, hke j hj]
      rintro rfl
      exact hav j hj (by rw [← hke j hj]; exact hk')
    · rw [DSt.set_same]; simp
theorem GrA.grw (h : GrA S0 av t rows sz S) (hle : S0.le S) : ∃ S', S'.le S ∧ Grw S0 t rows sz S' := by
  rcases h with ⟨rfl, rfl⟩ | ⟨k, acs, h0, h1, rfl, h3⟩
  · exact ⟨S0, hle, .inl ⟨rfl, rfl, rfl⟩⟩
  · refine ⟨S0.set k ⟨sz, rows, acs⟩, fun j o e => ?_, .inr ⟨k, acs, h0, rfl, rfl⟩⟩
    unfold DSt.set at e
    split at e
    · rename_i hj; subst hj; cases e; exact h3
    · exact hle _ _ e
theorem GrA.len (h : GrA S0 av t rows sz S) : lenSl t = some (.int .i64 rows.length) := by
  rcases h with ⟨rfl, rfl⟩ | ⟨k, acs, _, _, rfl, _⟩ <;> rfl
theorem GrA.cells (h : GrA S0 av t rows sz S) : cellsD t = some [t] := by
  rcases h with ⟨rfl, rfl⟩ | ⟨k, acs, _, _, rfl, _⟩ <;> rfl
end
/-- A contract's end, told anew. -/
theorem DFn.fin {P : Program} {E : Env} {w0 : World} {x : Bool} {f : FuncId} {ds : List D} {S : DSt} {Q Q' : D → DSt → Prop} (h : DFn P E w0 x f ds S Q) (hq : ∀ d S', Q d S' → FinD E Q' d S') : DFn P E w0 x f ds S Q' := fun R H avs hF hC ha => by
  refine fnF_good _ _ _ _ _ (h R H avs hF hC ha) fun v H' ⟨F', R', S', d, a, b, c, e⟩ => ?_
  obtain ⟨R2, S2, d2, a2, b2, c2, e2⟩ := hq _ _ e R' H' v b c
  exact ⟨F', R2, S2, d2, Fz.le_trans a a2, b2, c2, e2⟩
end Go.Am
end

section
open Go.Proofs Go Go.Am Go.Op
namespace Go.Proofs.Ytcboaonbfgjmgaa.d
set_option linter.unusedVariables false
set_option linter.unusedSimpArgs false
set_option maxRecDepth 100000
def armR (y : Int × Int) : List D := [.int .i64 y.1, .int .i64 y.2]
/-- Arms; an instruction. -/
def armD (arms : List (Int × Int)) : D := .lst (arms.map armR) 2
def inC (y : In) : List D := [.int .u8 y.op, .int .i64 y.a, .int .i64 y.b, armD y.arms]
def inD (y : In) : D := .agg (inC y)
section
variable {E : Env} {w0 : World} {x : Bool} {S0 S : DSt} {t : D} {bs ms : List Int}
@[simp] theorem armD_len (arms : List (Int × Int)) : lenSl (armD arms) = some (.int .i64 arms.length) := by simp [armD]
theorem armD_at {arms : List (Int × Int)} {i : Nat} {y : Int × Int} (h : arms[i]? = some y) : idxSl 2 (armD arms) (.int .i64 (i : Int)) = some (.elt (armR y) 0) := idxL (by rw [List.getElem?_map, h]; rfl)
end
end Go.Proofs.Ytcboaonbfgjmgaa.d
end

section
open Go.Proofs Go Go.Am Go.Op
namespace Go.Proofs.Ytcboaonbfgjmgaa.d
set_option linter.unusedVariables false
set_option linter.unusedSimpArgs false
set_option maxRecDepth 100000
theorem FldD.load {row : List D} {f : Fld} (h : FldD row f) : row.length = 2 := by obtain ⟨fv, rfl, _⟩ := h; rfl
section
variable {E : Env} {w0 : World} {x : Bool} {S0 S : DSt} {t : D} {bs : List Int} {y : In}
end
end Go.Proofs.Ytcboaonbfgjmgaa.d
end

section
open Go.Proofs Go Go.Am
namespace Go.Proofs.Ytcboaonbfgjmgaa.d
set_option linter.unusedVariables false
set_option maxRecDepth 100000
/- trammel/trammelref12.place -/
def lo_ref12_place : List (Nat × List Nat) := []
def cu_ref12_place : List (Nat × List Nat) := []
def V_ref12_place (E : Env) (w0 : World) (x : Bool) (Q : D → DSt → Prop) (S : DSt) : Prop :=
  allocD S [(.int .i64 0), (.int .i64 0), (.int .i64 0), (.bool false)] fun v0 S1 =>
  optW (aggD (fillD [(.int .i64 0), (.int .i64 0), (.int .i64 0), (.bool false)] [(0, 1, (.int .i64 2)), (2, 1, (.int .i64 65535))])) fun v2 =>
  storeD S1 4 v0 v2 fun v3 S4 =>
  optW (loadAg S4 4 v0) fun v5 => Q v5 S4
theorem V_ref12_place_ok {E : Env} {w0 : World} {x : Bool} {Q : D → DSt → Prop} {S : DSt} (h : V_ref12_place E w0 x (FinD E Q) S) : DFn Try.prog E w0 x f_ref12_place [] S Q :=
  fnD_of_vc lo_ref12_place cu_ref12_place (fn := Try.f64) (c := Try.f64.body.getD .skip) mixed Try.func64 (by kernel_rfl) (by kernel_rfl) h

/- trammel/trammelref12.width -/
def lo_ref12_width : List (Nat × List Nat) := []
def cu_ref12_width : List (Nat × List Nat) := []
def V_ref12_width (E : Env) (w0 : World) (x : Bool) (Q : D → DSt → Prop) (a0 : D) (S : DSt) : Prop :=
  allocD S [(.int .i64 0), (.int .i64 0), (.int .i64 0), (.bool false)] fun v0 S1 =>
  optW (aggD (fillD [(.int .i64 0), (.int .i64 0), (.int .i64 0), (.bool false)] [(0, 1, (.int .i64 1)), (1, 1, (.int .i64 1)), (2, 1, a0)])) fun v2 =>
  storeD S1 4 v0 v2 fun v3 S4 =>
  optW (loadAg S4 4 v0) fun v5 => Q v5 S4
theorem V_ref12_width_ok {E : Env} {w0 : World} {x : Bool} {Q : D → DSt → Prop} {a0 : D} {S : DSt} (h : V_ref12_width E w0 x (FinD E Q) a0 S) : DFn Try.prog E w0 x f_ref12_width [a0] S Q :=
  fnD_of_vc lo_ref12_width cu_ref12_width (fn := Try.f65) (c := Try.f65.body.getD .skip) mixed Try.func65 (by kernel_rfl) (by kernel_rfl) h

/- trammel/trammelref12.leap -/
def lo_ref12_leap : List (Nat × List Nat) := []
def cu_ref12_leap : List (Nat × List Nat) := []
def V_ref12_leap (E : Env) (w0 : World) (x : Bool) (Q : D → DSt → Prop) (S : DSt) : Prop :=
  allocD S [(.int .i64 0), (.int .i64 0), (.int .i64 0), (.bool false)] fun v0 S1 =>
  optW (aggD (fillD [(.int .i64 0), (.int .i64 0), (.int .i64 0), (.bool false)] [(0, 1, (.int .i64 4)), (2, 1, (.int .i64 4294967295))])) fun v2 =>
  storeD S1 4 v0 v2 fun v3 S4 =>
  optW (loadAg S4 4 v0) fun v5 => Q v5 S4
theorem V_ref12_leap_ok {E : Env} {w0 : World} {x : Bool} {Q : D → DSt → Prop} {S : DSt} (h : V_ref12_leap E w0 x (FinD E Q) S) : DFn Try.prog E w0 x f_ref12_leap [] S Q :=
  fnD_of_vc lo_ref12_leap cu_ref12_leap (fn := Try.f49) (c := Try.f49.body.getD .skip) mixed Try.func49 (by kernel_rfl) (by kernel_rfl) h

/- trammel/trammelref12.within -/
def lo_ref12_within : List (Nat × List Nat) := []
def cu_ref12_within : List (Nat × List Nat) := []
def V_ref12_within (E : Env) (w0 : World) (x : Bool) (Q : D → DSt → Prop) (a0 a1 : D) (S : DSt) : Prop :=
  optW (cellsD a0) fun cs => allocD S cs fun v0 S1 =>
  optW (offD 1 v0) fun v2 =>
  optW (loadSc S1 v2) fun v3 =>
  optW (binI .geq a1 v3) fun v4 =>
  optW (valGD (wantsD v4 true) (some a1)) fun v5 =>
  optW (valGD (wantsD v4 true) (offD 2 v0)) fun v6 =>
  optW (valGD (wantsD v4 true) (loadSc S1 v6)) fun v7 =>
  optW (valGD (wantsD v4 true) (binI .leq v5 v7)) fun v8 =>
  optW (pickD v4 v8 (.bool false)) fun v9 =>
  Q v9 S1
theorem V_ref12_within_ok {E : Env} {w0 : World} {x : Bool} {Q : D → DSt → Prop} {a0 a1 : D} {S : DSt} (h : V_ref12_within E w0 x (FinD E Q) a0 a1 S) : DFn Try.prog E w0 x f_ref12_within [a0, a1] S Q :=
  fnD_of_vc lo_ref12_within cu_ref12_within (fn := Try.f62) (c := Try.f62.body.getD .skip) mixed Try.func62 (by kernel_rfl) (by kernel_rfl) h

/- trammel/trammelref12.parts -/
def lo_ref12_parts : List (Nat × List Nat) := []
def cu_ref12_parts : List (Nat × List Nat) := []
def V_ref12_parts (E : Env) (w0 : World) (x : Bool) (Q : D → DSt → Prop) (a0 : D) (S : DSt) : Prop :=
  optW (binI .eql a0 (.int .u8 1)) fun v0 =>
  condD v0
  (optW (aggD (fillD [(.int .i64 0), (.int .i64 0), (.int .i64 0), (.bool false)] [(0, 1, (.int .i64 1)), (1, 1, (.int .i64 (-128))), (2, 1, (.int .i64 127)), (3, 1, (.bool true))])) fun v1 =>
  litD S 4 (fillR 4 (List.replicate 1 [(.int .i64 0), (.int .i64 0), (.int .i64 0), (.bool false)]) [(0, v1)]) 1 fun v2 S3 =>
  Q (.tup [v2, (.bool true)]) S3)
  (optW (binI .eql a0 (.int .u8 2)) fun v4 =>
  condD v4
  (optW (aggD (fillD [(.int .i64 0), (.int .i64 0), (.int .i64 0), (.bool false)] [(0, 1, (.int .i64 4)), (1, 1, (.int .i64 (-2147483648))), (2, 1, (.int .i64 2147483647)), (3, 1, (.bool true))])) fun v5 =>
  litD S 4 (fillR 4 (List.replicate 1 [(.int .i64 0), (.int .i64 0), (.int .i64 0), (.bool false)]) [(0, v5)]) 1 fun v6 S7 =>
  Q (.tup [v6, (.bool true)]) S7)
  (optW (binI .eql a0 (.int .u8 3)) fun v8 =>
  condD v8
  (optW (aggD (fillD [(.int .i64 0), (.int .i64 0), (.int .i64 0), (.bool false)] [(0, 1, (.int .i64 8)), (1, 1, (.int .i64 (-9223372036854775808))), (2, 1, (.int .i64 9223372036854775807)), (3, 1, (.bool true))])) fun v9 =>
  litD S 4 (fillR 4 (List.replicate 1 [(.int .i64 0), (.int .i64 0), (.int .i64 0), (.bool false)]) [(0, v9)]) 1 fun v10 S11 =>
  Q (.tup [v10, (.bool true)]) S11)
  (optW (binI .eql a0 (.int .u8 6)) fun v12 =>
  optW (valGD (wantsD v12 false) (some a0)) fun v13 =>
  optW (valGD (wantsD v12 false) (binI .eql v13 (.int .u8 7))) fun v14 =>
  optW (pickD v12 (.bool true) v14) fun v15 =>
  optW (valGD (wantsD v15 false) (some a0)) fun v16 =>
  optW (valGD (wantsD v15 false) (binI .eql v16 (.int .u8 8))) fun v17 =>
  optW (pickD v15 (.bool true) v17) fun v18 =>
  optW (valGD (wantsD v18 false) (some a0)) fun v19 =>
  optW (valGD (wantsD v18 false) (binI .eql v19 (.int .u8 50))) fun v20 =>
  optW (pickD v18 (.bool true) v20) fun v21 =>
  optW (valGD (wantsD v21 false) (some a0)) fun v22 =>
  optW (valGD (wantsD v21 false) (binI .eql v22 (.int .u8 36))) fun v23 =>
  optW (pickD v21 (.bool true) v23) fun v24 =>
  optW (valGD (wantsD v24 false) (some a0)) fun v25 =>
  optW (valGD (wantsD v24 false) (binI .geq v25 (.int .u8 39))) fun v26 =>
  optW (valGD (wantsD v24 false) (some v26)) fun v27 =>
  optW (valGD (wantsD v27 true) (some a0)) fun v28 =>
  optW (valGD (wantsD v27 true) (binI .leq v28 (.int .u8 45))) fun v29 =>
  optW (valGD (wantsD v24 false) (pickD v27 v29 (.bool false))) fun v30 =>
  optW (pickD v24 (.bool true) v30) fun v31 =>
  condD v31
  (DFn Try.prog E w0 x f_ref12_place [] S fun v32 S33 =>
  litD S33 4 (fillR 4 (List.replicate 1 [(.int .i64 0), (.int .i64 0), (.int .i64 0), (.bool false)]) [(0, v32)]) 1 fun v34 S35 =>
  Q (.tup [v34, (.bool true)]) S35)
  (optW (binI .eql a0 (.int .u8 37)) fun v36 =>
  optW (valGD (wantsD v36 false) (some a0)) fun v37 =>
  optW (valGD (wantsD v36 false) (binI .eql v37 (.int .u8 38))) fun v38 =>
  optW (pickD v36 (.bool true) v38) fun v39 =>
  condD v39
  (DFn Try.prog E w0 x f_ref12_place [] S fun v40 S41 =>
  DFn Try.prog E w0 x f_ref12_place [] S41 fun v42 S43 =>
  litD S43 4 (fillR 4 (List.replicate 2 [(.int .i64 0), (.int .i64 0), (.int .i64 0), (.bool false)]) [(0, v40), (1, v42)]) 2 fun v44 S45 =>
  Q (.tup [v44, (.bool true)]) S45)
  (optW (binI .eql a0 (.int .u8 23)) fun v46 =>
  optW (valGD (wantsD v46 false) (some a0)) fun v47 =>
  optW (valGD (wantsD v46 false) (binI .eql v47 (.int .u8 24))) fun v48 =>
  optW (pickD v46 (.bool true) v48) fun v49 =>
  condD v49
  (DFn Try.prog E w0 x f_ref12_width [(.int .i64 5)] S fun v50 S51 =>
  litD S51 4 (fillR 4 (List.replicate 1 [(.int .i64 0), (.int .i64 0), (.int .i64 0), (.bool false)]) [(0, v50)]) 1 fun v52 S53 =>
  Q (.tup [v52, (.bool true)]) S53)
  (optW (binI .geq a0 (.int .u8 11)) fun v54 =>
  optW (valGD (wantsD v54 true) (some a0)) fun v55 =>
  optW (valGD (wantsD v54 true) (binI .leq v55 (.int .u8 28))) fun v56 =>
  optW (pickD v54 v56 (.bool false)) fun v57 =>
  condD v57
  (DFn Try.prog E w0 x f_ref12_width [(.int .i64 3)] S fun v58 S59 =>
  litD S59 4 (fillR 4 (List.replicate 1 [(.int .i64 0), (.int .i64 0), (.int .i64 0), (.bool false)]) [(0, v58)]) 1 fun v60 S61 =>
  Q (.tup [v60, (.bool true)]) S61)
  (optW (binI .eql a0 (.int .u8 29)) fun v62 =>
  condD v62
  (DFn Try.prog E w0 x f_ref12_width [(.int .i64 3)] S fun v63 S64 =>
  DFn Try.prog E w0 x f_ref12_width [(.int .i64 3)] S64 fun v65 S66 =>
  litD S66 4 (fillR 4 (List.replicate 2 [(.int .i64 0), (.int .i64 0), (.int .i64 0), (.bool false)]) [(0, v63), (1, v65)]) 2 fun v67 S68 =>
  Q (.tup [v67, (.bool true)]) S68)
  (optW (binI .eql a0 (.int .u8 46)) fun v69 =>
  optW (valGD (wantsD v69 false) (some a0)) fun v70 =>
  optW (valGD (wantsD v69 false) (binI .eql v70 (.int .u8 47))) fun v71 =>
  optW (pickD v69 (.bool true) v71) fun v72 =>
  optW (valGD (wantsD v72 false) (some a0)) fun v73 =>
  optW (valGD (wantsD v72 false) (binI .eql v73 (.int .u8 48))) fun v74 =>
  optW (pickD v72 (.bool true) v74) fun v75 =>
  condD v75
  (DFn Try.prog E w0 x f_ref12_leap [] S fun v76 S77 =>
  litD S77 4 (fillR 4 (List.replicate 1 [(.int .i64 0), (.int .i64 0), (.int .i64 0), (.bool false)]) [(0, v76)]) 1 fun v78 S79 =>
  Q (.tup [v78, (.bool true)]) S79)
  (optW (binI .eql a0 (.int .u8 52)) fun v80 =>
  condD v80
  (optW (aggD (fillD [(.int .i64 0), (.int .i64 0), (.int .i64 0), (.bool false)] [(0, 1, (.int .i64 1)), (2, 1, (.int .i64 255))])) fun v81 =>
  litD S 4 (fillR 4 (List.replicate 1 [(.int .i64 0), (.int .i64 0), (.int .i64 0), (.bool false)]) [(0, v81)]) 1 fun v82 S83 =>
  Q (.tup [v82, (.bool true)]) S83)
  (optW (binI .eql a0 (.int .u8 49)) fun v84 =>
  condD v84
  (DFn Try.prog E w0 x f_ref12_width [(.int .i64 3)] S fun v85 S86 =>
  litD S86 4 (fillR 4 (List.replicate 1 [(.int .i64 0), (.int .i64 0), (.int .i64 0), (.bool false)]) [(0, v85)]) 1 fun v87 S88 =>
  Q (.tup [v87, (.bool true)]) S88)
  (optW (binI .geq a0 (.int .u8 1)) fun v89 =>
  optW (valGD (wantsD v89 true) (some a0)) fun v90 =>
  optW (valGD (wantsD v89 true) (binI .leq v90 (.int .u8 52))) fun v91 =>
  optW (pickD v89 v91 (.bool false)) fun v92 =>
  Q (.tup [.nilSlc, v92]) S)))))))))))
theorem V_ref12_parts_ok {E : Env} {w0 : World} {x : Bool} {Q : D → DSt → Prop} {a0 : D} {S : DSt} (h : V_ref12_parts E w0 x (FinD E Q) a0 S) : DFn Try.prog E w0 x f_ref12_parts [a0] S Q :=
  fnD_of_vc lo_ref12_parts cu_ref12_parts (fn := Try.f38) (c := Try.f38.body.getD .skip) mixed Try.func38 (by kernel_rfl) (by kernel_rfl) h

/- trammel/trammelref12.is -/
end Go.Proofs.Ytcboaonbfgjmgaa.d
end

section
open Go.Proofs Go Go.Am Go.Op
namespace Go.Proofs.Ytcboaonbfgjmgaa.d
set_option linter.unusedVariables false
set_option linter.unusedSimpArgs false
set_option maxRecDepth 100000
/-- A part. -/
def parR (f : Fld) : List D := [.int .i64 (f.size : Int), .int .i64 f.lo, .int .i64 f.hi, .bool (decide (f.lo < 0))]
theorem orD {a : Bool} {n m : Int} {K : D → Prop} : (optW (valGD (wantsD (.bool a) false) (some (.int .u8 n))) fun v13 => optW (valGD (wantsD (.bool a) false) (binI .eql v13 (.int .u8 m))) fun v14 => optW (pickD (.bool a) (.bool true) v14) K) = K (.bool (a || n == m)) := by
  cases a <;> simp
theorem andD {n m k : Int} {K : D → Prop} : (optW (binI .geq (.int .u8 n) (.int .u8 m)) fun v => optW (valGD (wantsD v true) (some (.int .u8 n))) fun v' => optW (valGD (wantsD v true) (binI .leq v' (.int .u8 k))) fun v'' => optW (pickD v v'' (.bool false)) K) = K (.bool (decide (m ≤ n ∧ n ≤ k))) := by
  by_cases h : m ≤ n
  · by_cases h2 : n ≤ k <;> simp [h, h2]
  · simp [h]
theorem orandD {a : Bool} {n m k : Int} {K : D → Prop} : (optW (valGD (wantsD (.bool a) false) (some (.int .u8 n))) fun v25 => optW (valGD (wantsD (.bool a) false) (binI .geq v25 (.int .u8 m))) fun v26 => optW (valGD (wantsD (.bool a) false) (some v26)) fun v27 => optW (valGD (wantsD v27 true) (some (.int .u8 n))) fun v28 =>
    optW (valGD (wantsD v27 true) (binI .leq v28 (.int .u8 k))) fun v29 => optW (valGD (wantsD (.bool a) false) (pickD v27 v29 (.bool false))) fun v30 => optW (pickD (.bool a) (.bool true) v30) K) = K (.bool (a || decide (m ≤ n ∧ n ≤ k))) := by
  cases a
  · by_cases h : m ≤ n
    · by_cases h2 : n ≤ k <;> simp [h, h2]
    · simp [h]
  · simp
section
variable {E : Env} {w0 : World} {x : Bool} {S : DSt} {op : Int}
theorem par_box {ds : List D} (hl : ds.length = 4) {Q : D → DSt → Prop} (h : ∀ {S' : DSt}, S.le S' → FinD E Q (.agg ds) S') : allocD S [(.int .i64 0), (.int .i64 0), (.int .i64 0), (.bool false)] fun v0 S1 => storeD S1 4 v0 (.agg ds) fun v3 S4 => optW (loadAg S4 4 v0) fun v5 => FinD E Q v5 S4 := by
  intro k acs hk
  refine stP (ds := ds) (DSt.set_same _ _ _) (clA _) ⟨hl, by decide, by simp⟩ fun acs => ?_
  have e : setManyD [(D.int .i64 0), (.int .i64 0), (.int .i64 0), (.bool false)] 0 ds = ds := by
    match ds, hl with
    | [a, b, c, d], _ => rfl
  rw [DSt.set_set, e, laP (DSt.set_same _ _ _) ⟨by decide, by omega⟩, oD, List.drop_zero, List.take_of_length_le (by omega)]
  exact h (DSt.le_new hk)
theorem ref12_place_ok : Pure Try.prog E w0 f_ref12_place [] (.agg (parR fIx)) := fun x S => by
  refine V_ref12_place_ok ?_
  unfold V_ref12_place
  simp only [fillD, clI, setManyD, List.length_cons, List.length_nil, List.set, agS, oD, Nat.reduceAdd, Nat.reduceLeDiff, and_self, if_true]
  exact par_box rfl fun h => FinD.less h FinD.pure
theorem ref12_leap_ok : Pure Try.prog E w0 f_ref12_leap [] (.agg (parR fLeap)) := fun x S => by
  refine V_ref12_leap_ok ?_
  unfold V_ref12_leap
  simp only [fillD, clI, setManyD, List.length_cons, List.length_nil, List.set, agS, oD, Nat.reduceAdd, Nat.reduceLeDiff, and_self, if_true]
  exact par_box rfl fun h => FinD.less h FinD.pure
theorem ref12_width_ok {hi : Int} : Pure Try.prog E w0 f_ref12_width [.int .i64 hi] (.agg (parR ⟨1, 1, hi⟩)) := fun x S => by
  refine V_ref12_width_ok ?_
  unfold V_ref12_width
  simp only [fillD, clI, setManyD, List.length_cons, List.length_nil, List.set, agS, oD, Nat.reduceAdd, Nat.reduceLeDiff, and_self, if_true]
  exact par_box rfl fun h => FinD.less h FinD.pure
theorem ref12_within_ok {f : Fld} {n : Int} : Pure Try.prog E w0 f_ref12_within [.agg (parR f), .int .i64 n] (.bool (f.may n)) := fun x S => by
  refine V_ref12_within_ok ?_
  unfold V_ref12_within
  rw [clA, oD]
  intro k acs hk
  have l : ∀ i, loadSc (S.set k ⟨(parR f).length, [parR f], acs⟩) (.ptr k i) = (parR f)[i]? := fun i => ldP (DSt.set_same _ _ _)
  rw [ofP, oD, l, show (parR f)[0 + 1]? = some (.int .i64 f.lo) from rfl, oD]
  by_cases h : f.lo ≤ n
  · by_cases h2 : n ≤ f.hi
    · simp [h, h2, l, show (parR f)[2]? = some (.int .i64 f.hi) from rfl]
      refine FinD.drop hk ?_
      rw [show f.may n = true by unfold Fld.may; simp [h, h2]]; exact FinD.pure
    · simp [h, h2, l, show (parR f)[2]? = some (.int .i64 f.hi) from rfl]
      refine FinD.drop hk ?_
      rw [show f.may n = false by unfold Fld.may; simp [h, h2]]; exact FinD.pure
  · simp [h]
    refine FinD.drop hk ?_
    rw [show f.may n = false by unfold Fld.may; simp [h]]; exact FinD.pure
theorem lit4 {ds : List D} (hl : ds.length = 4) {K : D → DSt → Prop} (h : K (.lst [ds] 4) S) : litD S 4 (fillR 4 (List.replicate 1 [(.int .i64 0), (.int .i64 0), (.int .i64 0), (.bool false)]) [(0, .agg ds)]) 1 K := by
  simp only [fillR, clA, List.length_cons, List.length_nil, List.replicate, List.set]
  rw [if_pos ⟨hl, by decide⟩]
  exact lit_lst rfl h
theorem lit44 {ds : List D} (hl : ds.length = 4) {K : D → DSt → Prop} (h : K (.lst [ds, ds] 4) S) : litD S 4 (fillR 4 (List.replicate 2 [(.int .i64 0), (.int .i64 0), (.int .i64 0), (.bool false)]) [(0, .agg ds), (1, .agg ds)]) 2 K := by
  simp only [fillR, clA, List.length_cons, List.length_nil, List.replicate, List.set]
  rw [if_pos ⟨hl, by decide⟩, if_pos ⟨hl, by decide⟩]
  exact lit_lst rfl h
theorem ref12_parts_ok : Pure Try.prog E w0 f_ref12_parts [.int .u8 op] (.tup [.lst (((lay op).getD []).map parR) 4, .bool (lay op).isSome]) := fun x S => by
  refine V_ref12_parts_ok ?_
  unfold V_ref12_parts
  rw [← layR_is]
  unfold layR
  have e0 : ∀ d : D, d = .tup [.lst (((layR op).getD []).map parR) 4, .bool (layR op).isSome] → FinD E (fun d' S' => d' = .tup [.lst (((layR op).getD []).map parR) 4, .bool (layR op).isSome] ∧ S' = S) d S := fun d h => h ▸ FinD.pure
  unfold layR at e0
  simp only [biEq, oD, orD, andD, orandD, cdB]
  simp only [fillD, clI, clB, setManyD, List.length_cons, List.length_nil, List.set, agS, oD, Nat.reduceAdd, Nat.reduceLeDiff, and_self, if_true]
  refine ⟨fun h => ?_, fun h1 => ⟨fun h => ?_, fun h2 => ⟨fun h => ?_, fun h3 => ⟨fun h => ?_, fun h4 => ⟨fun h => ?_, fun h5 => ⟨fun h => ?_, fun h6 => ⟨fun h => ?_, fun h7 => ⟨fun h => ?_, fun h8 => ⟨fun h => ?_, fun h9 => ⟨fun h => ?_, fun h10 => ⟨fun h => ?_, fun h11 => ?_⟩⟩⟩⟩⟩⟩⟩⟩⟩⟩⟩
  all_goals
    try replace h1 : ¬ op = 1 := by simpa using h1
    try replace h2 : ¬ op = 2 := by simpa using h2
    try replace h3 : ¬ op = 3 := by simpa using h3
    try replace h8 : ¬ op = 29 := by simpa using h8
    try replace h10 : ¬ op = 52 := by simpa using h10
    try replace h11 : ¬ op = 49 := by simpa using h11
    try simp only [if_neg h1] at e0 ⊢
    try simp only [if_neg h2] at e0 ⊢
    try simp only [if_neg h3] at e0 ⊢
    try simp only [h4, Bool.false_eq_true, if_false] at e0 ⊢
    try simp only [h5, Bool.false_eq_true, if_false] at e0 ⊢
    try simp only [h6, Bool.false_eq_true, if_false] at e0 ⊢
    try simp only [h7, Bool.false_eq_true, if_false] at e0 ⊢
    try simp only [if_neg h8] at e0 ⊢
    try simp only [h9, Bool.false_eq_true, if_false] at e0 ⊢
    try simp only [if_neg h10] at e0 ⊢
    try simp only [if_neg h11] at e0 ⊢
  · replace h : op = 1 := by simpa using h
    simp only [if_pos h] at e0 ⊢; exact lit4 rfl (e0 _ rfl)
  · replace h : op = 2 := by simpa using h
    simp only [if_pos h] at e0 ⊢; exact lit4 rfl (e0 _ rfl)
  · replace h : op = 3 := by simpa using h
    simp only [if_pos h] at e0 ⊢; exact lit4 rfl (e0 _ rfl)
  · simp only [h, if_true] at e0 ⊢; exact ref12_place_ok.use (lit4 rfl (e0 _ rfl))
  · simp only [h, if_true] at e0 ⊢; exact ref12_place_ok.use (ref12_place_ok.use (lit44 rfl (e0 _ rfl)))
  · simp only [h, if_true] at e0 ⊢; exact ref12_width_ok.use (lit4 rfl (e0 _ rfl))
  · simp only [h, if_true] at e0 ⊢; exact ref12_width_ok.use (lit4 rfl (e0 _ rfl))
  · replace h : op = 29 := by simpa using h
    simp only [if_pos h] at e0 ⊢; exact ref12_width_ok.use (ref12_width_ok.use (lit44 rfl (e0 _ rfl)))
  · simp only [h, if_true] at e0 ⊢; exact ref12_leap_ok.use (lit4 rfl (e0 _ rfl))
  · replace h : op = 52 := by simpa using h
    simp only [if_pos h] at e0 ⊢; exact lit4 rfl (e0 _ rfl)
  · replace h : op = 49 := by simpa using h
    simp only [if_pos h] at e0 ⊢; exact ref12_width_ok.use (lit4 rfl (e0 _ rfl))
  · by_cases h12 : decide (1 ≤ op ∧ op ≤ 52) = true
    · simp only [h12, if_true] at e0 ⊢; exact FinD.nilT (lp := []) (sz := 4) (e0 _ rfl)
    · have h12 : decide (1 ≤ op ∧ op ≤ 52) = false := by simpa using h12
      simp only [h12, Bool.false_eq_true, if_false] at e0 ⊢; exact FinD.nilT (lp := []) (sz := 4) (e0 _ rfl)
end
end Go.Proofs.Ytcboaonbfgjmgaa.d
end

section
open Go.Proofs Go Go.Am Go.Op
namespace Go.Proofs.Ytcboaonbfgjmgaa.d
set_option linter.unusedVariables false
set_option linter.unusedSimpArgs false
set_option maxRecDepth 100000
theorem bits_nat (w : Int) : ∃ b : Nat, bitsS w = (b : Int) ∧ (b = 0 ∨ b = 8 ∨ b = 32 ∨ b = 64) := by
  unfold bitsS
  split
  · exact ⟨8, rfl, by omega⟩
  split
  · exact ⟨32, rfl, by omega⟩
  split
  · exact ⟨64, rfl, by omega⟩
  · exact ⟨0, rfl, by omega⟩
section
variable {E : Env} {w0 : World} {x : Bool} {S : DSt}
theorem ref02_Bits_ok {w : Int} : Pure Try.prog E w0 f_ref02_Bits [.int .u8 w] (.int .i64 (bitsS w)) := fun x S => by
  refine V_ref02_Bits_ok ?_
  unfold V_ref02_Bits bitsS
  simp only [biEq, oD, cdB, beq_iff_eq, beq_eq_false_iff_ne, ne_eq]
  refine ⟨fun h => ?_, fun h1 => ⟨fun h => ?_, fun h2 => ⟨fun h => ?_, fun h3 => ?_⟩⟩⟩ <;> simp only [*, if_true, if_false] <;> exact FinD.pure
end
end Go.Proofs.Ytcboaonbfgjmgaa.d
end

section
open Go.Proofs Go Go.Am Go.Op
namespace Go.Proofs.Ytcboaonbfgjmgaa.d
set_option linter.unusedVariables false
set_option linter.unusedSimpArgs false
set_option maxRecDepth 100000
@[simp] theorem idx0 (row : List D) (rows : List (List D)) (sz : Nat) : idxSl sz (.lst (row :: rows) sz) (.int .i64 0) = some (.elt row 0) := idxL (i := 0) rfl
@[simp] theorem idx1 (a row : List D) (rows : List (List D)) (sz : Nat) : idxSl sz (.lst (a :: row :: rows) sz) (.int .i64 1) = some (.elt row 0) := idxL (i := 1) rfl
@[simp] theorem ldPar (S : DSt) (f : Fld) : loadAg S 4 (.elt (parR f) 0) = some (.agg (parR f)) := (rfl)
theorem beqD (a b : Int) : (a == b) = decide (a = b) := by by_cases h : a = b <;> simp [h]
section
variable {E : Env} {w0 : World} {x : Bool} {S : DSt} {y : In}
end
end Go.Proofs.Ytcboaonbfgjmgaa.d
end
