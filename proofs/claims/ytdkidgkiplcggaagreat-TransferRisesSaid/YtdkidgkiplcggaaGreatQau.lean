/-
  TransferRisesSaid: part Qau of its proof.
-/
import Derived.Test.YtdkidgkiplcggaaGreatRows
import Derived.Test.YtdkidgkiplcggaaGreatQar
import Derived.KernelRfl
import Derived.Test.YtdkidgkiplcggaaGreatQat
set_option linter.unusedVariables false
set_option linter.unusedSimpArgs false
set_option maxRecDepth 100000
section
open Go.Proofs Go Go.Am
namespace Go.Proofs.YtdkidgkiplcggaaGreat.d
def J5:List (Nat×List Nat):=[]
def J6:List (Nat×List Nat):=[(89,[0,4,5,6,13,29]),(101,[0,4,5,6,13,44]),(113,[0,5,6,13,50]),(137,[0,5,6,13,61])]
def J7:List (Nat×O6):=[]
noncomputable def b9s:Code:=(j7 [1,1,1,0,1,0,1,1,1,1,1,1,1,1,1,1,1,1,1,1,1] (Tryz.f79.body.getD .skip))
def b6e(E:j2)(w0:j9)(Q:D→b8→Prop):o8→List D→b8→Prop:=
 (q8 0 (H4 Tryz.prog E w0 J5 J6 J7 (j7 [1,1,1,1] (Tryz.f79.body.getD .skip)) (F5 Tryz.prog Tryz.f79 Q)))
def a9i(E:j2)(w0:j9)(Q:D→b8→Prop)(x0 x5 x6 x13 x61:D)(S:b8):Prop:=
 i6 x61
 (b7 (i5 S 2 x5) fun v56=>
 r9 S 2 (m8 2 (List.replicate 1 [(.int .i64 0), .nilFn]) [(0,v56)]) 1 fun v57 S58=>
 Q (.tup [v57,(.bool true)]) S58)
 (b7 (i4 .eql x13 (.int .u8 52)) fun v59=>
 i6 v59
 (j8 Tryz.prog E w0 s5 [(.int .i64 0),(.int .i64 255)] S fun v60 S61=>
 b7 (E1 (r6 [(.int .i64 0), .nilFn] [(0,1,(.int .i64 1)),(1,1,v60)])) fun v62=>
 r9 S61 2 (m8 2 (List.replicate 1 [(.int .i64 0), .nilFn]) [(0,v62)]) 1 fun v63 S64=>
 Q (.tup [v63,(.bool true)]) S64)
 (b7 (i4 .eql x13 (.int .u8 49)) fun v65=>
 i6 v65
 (b7 (i5 S 2 x6) fun v66=>
 r9 S 2 (m8 2 (List.replicate 1 [(.int .i64 0), .nilFn]) [(0,v66)]) 1 fun v67 S68=>
 Q (.tup [v67,(.bool true)]) S68)
 (b7 (i4 .geq x0 (.int .u8 11)) fun v69=>
 b7 (f9 (d6 v69 true) (some x0)) fun v70=>
 b7 (f9 (d6 v69 true) (i4 .leq v70 (.int .u8 28))) fun v71=>
 b7 (q9 v69 v71 (.bool false)) fun v72=>
 i6 v72
 (b7 (i5 S 2 x6) fun v73=>
 r9 S 2 (m8 2 (List.replicate 1 [(.int .i64 0), .nilFn]) [(0,v73)]) 1 fun v74 S75=>
 Q (.tup [v74,(.bool true)]) S75)
 (b7 (i4 .geq x0 (.int .u8 1)) fun v76=>
 b7 (f9 (d6 v76 true) (some x0)) fun v77=>
 b7 (f9 (d6 v76 true) (i4 .leq v77 (.int .u8 52))) fun v78=>
 b7 (q9 v76 v78 (.bool false)) fun v79=>
 Q (.tup [.nilSlc,v79]) S))))
def X9(E:j2)(w0:j9)(Q:D→b8→Prop)(x0 x5 x6 x13 x61:D)(S:b8):Prop:=j1 Tryz.prog E w0 b9s (m6 90 [0,5,6,13,61] [x0,x5,x6,x13,x61]) S (b6e E w0 Q)
theorem b4q{E:j2}{w0:j9}{Q:D→b8→Prop}{x0 x5 x6 x13 x61:D}{S:b8}(h:a9i E w0 Q x0 x5 x6 x13 x61 S):X9 E w0 Q x0 x5 x6 x13 x61 S:=j3 J5 J6 J7 mixed (by kernel_rfl) h
noncomputable def b8h:Code:=(j7 [1,1,1,0,1,0,1,1,1,1,1,1,1,1,1,1,1] (Tryz.f79.body.getD .skip))
def b6t(E:j2)(w0:j9)(Q:D→b8→Prop):o8→List D→b8→Prop:=
 (q8 0 (H4 Tryz.prog E w0 J5 J6 J7 (j7 [1,1,1,1] (Tryz.f79.body.getD .skip)) (F5 Tryz.prog Tryz.f79 Q)))
def a8M(E:j2)(w0:j9)(Q:D→b8→Prop)(x0 x5 x6 x13 x50:D)(S:b8):Prop:=
 i6 x50
 (j8 Tryz.prog E w0 s5 [(.int .i64 1),(.int .i64 5)] S fun v46 S47=>
 b7 (E1 (r6 [(.int .i64 0), .nilFn] [(0,1,(.int .i64 1)),(1,1,v46)])) fun v48=>
 r9 S47 2 (m8 2 (List.replicate 1 [(.int .i64 0), .nilFn]) [(0,v48)]) 1 fun v49 S50=>
 Q (.tup [v49,(.bool true)]) S50)
 (b7 (i4 .eql x13 (.int .u8 29)) fun v51=>
 i6 v51
 (b7 (i5 S 2 x6) fun v52=>
 b7 (i5 S 2 x6) fun v53=>
 r9 S 2 (m8 2 (List.replicate 2 [(.int .i64 0), .nilFn]) [(0,v52),(1,v53)]) 2 fun v54 S55=>
 Q (.tup [v54,(.bool true)]) S55)
 (b7 (i4 .eql x13 (.int .u8 46)) fun v80=>
 i6 v80
 (X9 E w0 Q x0 x5 x6 x13 v80 S)
 (b7 (i4 .eql x13 (.int .u8 47)) fun v81=>
 i6 v81
 (X9 E w0 Q x0 x5 x6 x13 v81 S)
 (b7 (i4 .eql x13 (.int .u8 48)) fun v82=>
 X9 E w0 Q x0 x5 x6 x13 v82 S))))
def a1P(E:j2)(w0:j9)(Q:D→b8→Prop)(x0 x5 x6 x13 x50:D)(S:b8):Prop:=j1 Tryz.prog E w0 b8h (m6 90 [0,5,6,13,50] [x0,x5,x6,x13,x50]) S (b6t E w0 Q)
theorem b4i{E:j2}{w0:j9}{Q:D→b8→Prop}{x0 x5 x6 x13 x50:D}{S:b8}(h:a8M E w0 Q x0 x5 x6 x13 x50 S):a1P E w0 Q x0 x5 x6 x13 x50 S:=j3 J5 J6 J7 mixed (by kernel_rfl) h
noncomputable def b9t:Code:=(j7 [1,1,1,0,1,0,1,1,1,1,1,1,1,1,1] (Tryz.f79.body.getD .skip))
def b7t(E:j2)(w0:j9)(Q:D→b8→Prop):o8→List D→b8→Prop:=
 (q8 0 (H4 Tryz.prog E w0 J5 J6 J7 (j7 [1,1,1,1] (Tryz.f79.body.getD .skip)) (F5 Tryz.prog Tryz.f79 Q)))
def a8H(E:j2)(w0:j9)(Q:D→b8→Prop)(x0 x4 x5 x6 x13 x44:D)(S:b8):Prop:=
 i6 x44
 (b7 (i5 S 2 x4) fun v42=>
 b7 (i5 S 2 x4) fun v43=>
 r9 S 2 (m8 2 (List.replicate 2 [(.int .i64 0), .nilFn]) [(0,v42),(1,v43)]) 2 fun v44 S45=>
 Q (.tup [v44,(.bool true)]) S45)
 (b7 (i4 .eql x13 (.int .u8 23)) fun v83=>
 i6 v83
 (a1P E w0 Q x0 x5 x6 x13 v83 S)
 (b7 (i4 .eql x13 (.int .u8 24)) fun v84=>
 a1P E w0 Q x0 x5 x6 x13 v84 S))
def a1S(E:j2)(w0:j9)(Q:D→b8→Prop)(x0 x4 x5 x6 x13 x44:D)(S:b8):Prop:=j1 Tryz.prog E w0 b9t (m6 90 [0,4,5,6,13,44] [x0,x4,x5,x6,x13,x44]) S (b7t E w0 Q)
theorem b3X{E:j2}{w0:j9}{Q:D→b8→Prop}{x0 x4 x5 x6 x13 x44:D}{S:b8}(h:a8H E w0 Q x0 x4 x5 x6 x13 x44 S):a1S E w0 Q x0 x4 x5 x6 x13 x44 S:=j3 J5 J6 J7 mixed (by kernel_rfl) h
noncomputable def c0Q:Code:=(j7 [1,1,1,0,1,0,1,1,1,1,1,1,1] (Tryz.f79.body.getD .skip))
def b9l(E:j2)(w0:j9)(Q:D→b8→Prop):o8→List D→b8→Prop:=
 (q8 0 (H4 Tryz.prog E w0 J5 J6 J7 (j7 [1,1,1,1] (Tryz.f79.body.getD .skip)) (F5 Tryz.prog Tryz.f79 Q)))
def b0Q(E:j2)(w0:j9)(Q:D→b8→Prop)(x0 x4 x5 x6 x13 x29:D)(S:b8):Prop:=
 i6 x29
 (b7 (i5 S 2 x4) fun v39=>
 r9 S 2 (m8 2 (List.replicate 1 [(.int .i64 0), .nilFn]) [(0,v39)]) 1 fun v40 S41=>
 Q (.tup [v40,(.bool true)]) S41)
 (b7 (i4 .eql x13 (.int .u8 37)) fun v85=>
 i6 v85
 (a1S E w0 Q x0 x4 x5 x6 x13 v85 S)
 (b7 (i4 .eql x13 (.int .u8 38)) fun v86=>
 a1S E w0 Q x0 x4 x5 x6 x13 v86 S))
def y9(E:j2)(w0:j9)(Q:D→b8→Prop)(x0 x4 x5 x6 x13 x29:D)(S:b8):Prop:=j1 Tryz.prog E w0 c0Q (m6 90 [0,4,5,6,13,29] [x0,x4,x5,x6,x13,x29]) S (b9l E w0 Q)
theorem b5A{E:j2}{w0:j9}{Q:D→b8→Prop}{x0 x4 x5 x6 x13 x29:D}{S:b8}(h:b0Q E w0 Q x0 x4 x5 x6 x13 x29 S):y9 E w0 Q x0 x4 x5 x6 x13 x29 S:=j3 J5 J6 J7 mixed (by kernel_rfl) h
def b6T(E:j2)(w0:j9)(Q:D→b8→Prop)(a0:D)(S:b8):Prop:=
 j8 Tryz.prog E w0 s5 [(.int .i64 0),(.int .i64 65535)] S fun v0 S1=>
 b7 (E1 (r6 [(.int .i64 0), .nilFn] [(0,1,(.int .i64 2)),(1,1,v0)])) fun v2=>
 j8 Tryz.prog E w0 s5 [(.int .i64 0),(.int .i64 4294967295)] S1 fun v3 S4=>
 b7 (E1 (r6 [(.int .i64 0), .nilFn] [(0,1,(.int .i64 4)),(1,1,v3)])) fun v5=>
 j6 S4 [(.int .i64 0), .nilFn] fun v6 S7=>
 j6 S7 [(.int .i64 0), .nilFn] fun v8 S9=>
 i7 S9 2 v6 v2 fun v10 S11=>
 i7 S11 2 v8 v5 fun v12 S13=>
 j8 Tryz.prog E w0 s5 [(.int .i64 1),(.int .i64 3)] S13 fun v14 S15=>
 b7 (E1 (r6 [(.int .i64 0), .nilFn] [(0,1,(.int .i64 1)),(1,1,v14)])) fun v16=>
 j6 S15 [(.int .i64 0), .nilFn] fun v17 S18=>
 i7 S18 2 v17 v16 fun v19 S20=>
 b7 (i4 .eql a0 (.int .u8 1)) fun v21=>
 i6 v21
 (j8 Tryz.prog E w0 D3 [(.int .u8 1)] S20 fun v22 S23=>
 b7 (E1 (r6 [(.int .i64 0), .nilFn] [(0,1,(.int .i64 1)),(1,1,v22)])) fun v24=>
 r9 S23 2 (m8 2 (List.replicate 1 [(.int .i64 0), .nilFn]) [(0,v24)]) 1 fun v25 S26=>
 Q (.tup [v25,(.bool true)]) S26)
 (b7 (i4 .eql a0 (.int .u8 2)) fun v27=>
 i6 v27
 (j8 Tryz.prog E w0 D3 [(.int .u8 2)] S20 fun v28 S29=>
 b7 (E1 (r6 [(.int .i64 0), .nilFn] [(0,1,(.int .i64 4)),(1,1,v28)])) fun v30=>
 r9 S29 2 (m8 2 (List.replicate 1 [(.int .i64 0), .nilFn]) [(0,v30)]) 1 fun v31 S32=>
 Q (.tup [v31,(.bool true)]) S32)
 (b7 (i4 .eql a0 (.int .u8 3)) fun v33=>
 i6 v33
 (j8 Tryz.prog E w0 D3 [(.int .u8 3)] S20 fun v34 S35=>
 b7 (E1 (r6 [(.int .i64 0), .nilFn] [(0,1,(.int .i64 8)),(1,1,v34)])) fun v36=>
 r9 S35 2 (m8 2 (List.replicate 1 [(.int .i64 0), .nilFn]) [(0,v36)]) 1 fun v37 S38=>
 Q (.tup [v37,(.bool true)]) S38)
 (b7 (i4 .eql a0 (.int .u8 6)) fun v87=>
 i6 v87
 (y9 E w0 Q a0 v6 v8 v17 a0 v87 S20)
 (b7 (i4 .eql a0 (.int .u8 7)) fun v88=>
 i6 v88
 (y9 E w0 Q a0 v6 v8 v17 a0 v88 S20)
 (b7 (i4 .eql a0 (.int .u8 8)) fun v89=>
 i6 v89
 (y9 E w0 Q a0 v6 v8 v17 a0 v89 S20)
 (b7 (i4 .eql a0 (.int .u8 50)) fun v90=>
 i6 v90
 (y9 E w0 Q a0 v6 v8 v17 a0 v90 S20)
 (b7 (i4 .eql a0 (.int .u8 36)) fun v91=>
 i6 v91
 (y9 E w0 Q a0 v6 v8 v17 a0 v91 S20)
 (b7 (i4 .eql a0 (.int .u8 39)) fun v92=>
 i6 v92
 (y9 E w0 Q a0 v6 v8 v17 a0 v92 S20)
 (b7 (i4 .eql a0 (.int .u8 40)) fun v93=>
 i6 v93
 (y9 E w0 Q a0 v6 v8 v17 a0 v93 S20)
 (b7 (i4 .eql a0 (.int .u8 41)) fun v94=>
 i6 v94
 (y9 E w0 Q a0 v6 v8 v17 a0 v94 S20)
 (b7 (i4 .eql a0 (.int .u8 42)) fun v95=>
 i6 v95
 (y9 E w0 Q a0 v6 v8 v17 a0 v95 S20)
 (b7 (i4 .eql a0 (.int .u8 43)) fun v96=>
 i6 v96
 (y9 E w0 Q a0 v6 v8 v17 a0 v96 S20)
 (b7 (i4 .eql a0 (.int .u8 44)) fun v97=>
 i6 v97
 (y9 E w0 Q a0 v6 v8 v17 a0 v97 S20)
 (b7 (i4 .eql a0 (.int .u8 45)) fun v98=>
 y9 E w0 Q a0 v6 v8 v17 a0 v98 S20))))))))))))))
theorem c0M{E:j2}{w0:j9}{Q:D→b8→Prop}{a0:D}{S:b8}(h:b6T E w0 (d9 E Q) a0 S):j8 Tryz.prog E w0 a5U [a0] S Q:=
 j0 J5 J6 J7 (fn:=Tryz.f79) (c:=Tryz.f79.body.getD .skip) mixed Tryz.func79 (by kernel_rfl) (by kernel_rfl) h
def d0B:List (Nat×List Nat):=[]
def d0M:List (Nat×List Nat):=[]
def d0R:List (Nat×O6):=[]
def c5a(E:j2)(w0:j9)(Q:D→b8→Prop)(a0 a1:D)(S:b8):Prop:=
 w9 S 1 1 a0 a1 fun v0 S1=>
 Q v0 S1
theorem c6l{E:j2}{w0:j9}{Q:D→b8→Prop}{a0 a1:D}{S:b8}(h:c5a E w0 (d9 E Q) a0 a1 S):j8 Tryz.prog E w0 a8E [a0,a1] S Q:=
 j0 d0B d0M d0R (fn:=Tryz.f141) (c:=Tryz.f141.body.getD .skip) mixed Tryz.func141 (by kernel_rfl) (by kernel_rfl) h
def c4B:List (Nat×List Nat):=[]
def c4F:List (Nat×List Nat):=[]
def c4X:List (Nat×O6):=[(1,(.leaf [0,1,2,3,4,7,8,9,5,6,10,11,12]))]
def b7w(E:j2)(w0:j9)(Q:D→b8→Prop)(a0 a1 a2:D)(S:b8):Prop:=
 b7 (o3 a1) fun cs=>j6 S cs fun v0 S1=>
 b7 (J9 .u64 a2) fun v2=>
 b7 (j4 0 v0) fun v3=>
 b7 (c9 S1 v3) fun v4=>
 b7 (j4 1 v0) fun v5=>
 b7 (c9 S1 v5) fun v6=>
 j8 Tryz.prog E w0 a1R [v2,v4] S1 fun v7 S8=>
 r7 v5 S1 S8∧j8 Tryz.prog E w0 a8E [a0,v7] S8 fun v9 S10=>
 r7 v5 S1 S10∧a0f Tryz.prog (j8 Tryz.prog E w0) S10 v6 [a2] fun v11 S12=>
 Q (.tup [v9,v11]) S12
theorem c0N{E:j2}{w0:j9}{Q:D→b8→Prop}{a0 a1 a2:D}{S:b8}(h:b7w E w0 (d9 E Q) a0 a1 a2 S):j8 Tryz.prog E w0 a1K [a0,a1,a2] S Q:=
 j0 c4B c4F c4X (fn:=Tryz.f142) (c:=Tryz.f142.body.getD .skip) mixed Tryz.func142 (by kernel_rfl) (by kernel_rfl) h
def b3q:List (Nat×List Nat):=[(16,[0,3,6,7,8,33,34,35])]
def b2C:List (Nat×List Nat):=[]
def b1J:List (Nat×O6):=[]
noncomputable def a9O:Code:=(j7 [1,1,1,1,1,1,0,1,0,0] (Tryz.f143.body.getD .skip))
def a9Q(E:j2)(w0:j9)(Q:D→b8→Prop):o8→List D→b8→Prop:=
 (q8 0 (H4 Tryz.prog E w0 b3q b2C b1J (j7 [1,1,1,1,1,1,1] (Tryz.f143.body.getD .skip)) (F5 Tryz.prog Tryz.f143 Q)))
def b0j(E:j2)(w0:j9)(N0:D→D→D→D→D→D→D→D→b8→Prop)(Q:D→b8→Prop)(x0 x3 x6 x7 x8 x33 x34 x35:D)(S:b8):Prop:=
 b7 (i4 .lss x35 x34) fun v34=>
 i6 v34
 (b7 (o6 2 x33 x35) fun v35=>
 b7 (i5 S 2 v35) fun v36=>
 j6 S [(.int .i64 0),(.int .i64 0)] fun v37 S38=>
 i7 S38 2 v37 v36 fun v39 S40=>
 b7 (i5 S40 2 x7) fun v41=>
 b7 (j4 0 v37) fun v42=>
 b7 (c9 S40 v42) fun v43=>
 j8 Tryz.prog E w0 a1K [x0,v41,v43] S40 fun v44 S45=>
 b7 (j5 v44 0) fun v46=>
 b7 (j5 v44 1) fun v47=>
 b7 (i5 S45 2 x6) fun v48=>
 b7 (j4 1 v37) fun v49=>
 b7 (c9 S45 v49) fun v50=>
 j8 Tryz.prog E w0 a1K [v46,v48,v50] S45 fun v51 S52=>
 b7 (j5 v51 0) fun v53=>
 b7 (j5 v51 1) fun v54=>
 b7 (f9 (d6 x8 true) (some v47)) fun v55=>
 b7 (q9 x8 v55 (.bool false)) fun v56=>
 b7 (f9 (d6 v56 true) (some v54)) fun v57=>
 b7 (q9 v56 v57 (.bool false)) fun v58=>
 b7 (i4 .add x35 (.int .i64 1)) fun v59=>
 N0 v53 x3 x6 x7 v58 x33 x34 v59 S52)
 (b7 (i5 S 2 x6) fun v60=>
 b7 (j4 2 x3) fun v61=>
 b7 (c9 S v61) fun v62=>
 j8 Tryz.prog E w0 a1K [x0,v60,v62] S fun v63 S64=>
 b7 (j5 v63 0) fun v65=>
 b7 (j5 v63 1) fun v66=>
 b7 (f9 (d6 x8 true) (some v66)) fun v67=>
 b7 (q9 x8 v67 (.bool false)) fun v68=>
 Q (.tup [v65,v68]) S64)
theorem c0R{E:j2}{w0:j9}{N0:D→D→D→D→D→D→D→D→b8→Prop}{Q:D→b8→Prop}{x0 x3 x6 x7 x8 x33 x34 x35:D}{S:b8}(h:b0j E w0 N0 Q x0 x3 x6 x7 x8 x33 x34 x35 S):
  j1 Tryz.prog E w0 a9O (m6 76 [0,3,6,7,8,33,34,35] [x0,x3,x6,x7,x8,x33,x34,x35]) S (B0 (fun T S=>N0 (T.getD 0 b9) (T.getD 3 b9) (T.getD 6 b9) (T.getD 7 b9) (T.getD 8 b9) (T.getD 33 b9) (T.getD 34 b9) (T.getD 35 b9) S) (a9Q E w0 Q)):=j3 b3q b2C b1J mixed (by kernel_rfl) h
theorem c0D{E:j2}{w0:j9}{Q:D→b8→Prop}(I:Nat→D→D→D→D→D→D→D→D→b8→Prop)
  (step:∀n x0 x3 x6 x7 x8 x33 x34 x35 S,I n x0 x3 x6 x7 x8 x33 x34 x35 S→b0j E w0 (fun x0 x3 x6 x7 x8 x33 x34 x35 S=>∃m,m<n∧I m x0 x3 x6 x7 x8 x33 x34 x35 S) Q x0 x3 x6 x7 x8 x33 x34 x35 S)
  {n:Nat} {x0 x3 x6 x7 x8 x33 x34 x35:D} {S:b8} (h:I n x0 x3 x6 x7 x8 x33 x34 x35 S):j1 Tryz.prog E w0 (.loop a9O) (m6 76 [0,3,6,7,8,33,34,35] [x0,x3,x6,x7,x8,x33,x34,x35]) S (a9Q E w0 Q):=
 o7 (k:=76) (n:=n) (I:=fun n T S=>I n (T.getD 0 b9) (T.getD 3 b9) (T.getD 6 b9) (T.getD 7 b9) (T.getD 8 b9) (T.getD 33 b9) (T.getD 34 b9) (T.getD 35 b9) S) (fun n T S hl hI=>p8 [0,3,6,7,8,33,34,35] hl (j1.mono (c0R (step n _ _ _ _ _ _ _ _ S hI)) fun ex T' S' _ hq=>by cases ex<;>exact hq)) (m7 ..) (Eq.mp (by kernel_rfl) h)
def c2X(E:j2)(w0:j9)(Q:D→b8→Prop)(a0 a1:D)(S:b8):Prop:=
 b7 (o3 a1) fun cs=>j6 S cs fun v0 S1=>
 j8 Tryz.prog E w0 s5 [(.int .i64 0),(.int .i64 4294967295)] S1 fun v2 S3=>
 b7 (E1 (r6 [(.int .i64 0), .nilFn] [(0,1,(.int .i64 4)),(1,1,v2)])) fun v4=>
 j6 S3 [(.int .i64 0), .nilFn] fun v5 S6=>
 i7 S6 2 v5 v4 fun v7 S8=>
 b7 (j4 1 v0) fun v9=>
 b7 (c9 S8 v9) fun v10=>
 b7 (J9 .u8 v10) fun v11=>
 j8 Tryz.prog E w0 D3 [v11] S8 fun v12 S13=>
 b7 (E1 (r6 [(.int .i64 0), .nilFn] [(0,1,(.int .i64 8)),(1,1,v12)])) fun v14=>
 j6 S13 [(.int .i64 0), .nilFn] fun v15 S16=>
 i7 S16 2 v15 v14 fun v17 S18=>
 b7 (j4 3 v0) fun v19=>
 b7 (c9 S18 v19) fun v20=>
 b7 (m9 v20) fun v21=>
 b7 (i4 .gtr v21 (.int .i64 65535)) fun v22=>
 i6 v22
 (Q (.tup [.nilSlc,(.bool false)]) S18)
 (b7 (j4 3 v0) fun v23=>
 b7 (c9 S18 v23) fun v24=>
 b7 (m9 v24) fun v25=>
 b7 (J9 .u64 v25) fun v26=>
 j8 Tryz.prog E w0 a1R [v26,(.int .i64 2)] S18 fun v27 S28=>
 j8 Tryz.prog E w0 a8E [a0,v27] S28 fun v29 S30=>
 b7 (j4 3 v0) fun v31=>
 b7 (c9 S30 v31) fun v32=>
 b7 (m9 v32) fun v33=>
 j1 Tryz.prog E w0 (.loop a9O) (m6 76 [0,3,6,7,8,33,34,35] [v29,v0,v5,v15,(.bool true),v32,v33,(.int .i64 0)]) S30 (a9Q E w0 Q))
theorem c4f{E:j2}{w0:j9}{Q:D→b8→Prop}{a0 a1:D}{S:b8}(h:c2X E w0 (d9 E Q) a0 a1 S):j8 Tryz.prog E w0 b0v [a0,a1] S Q:=
 j0 b3q b2C b1J (fn:=Tryz.f143) (c:=Tryz.f143.body.getD .skip) mixed Tryz.func143 (by kernel_rfl) (by kernel_rfl) h
def a8y:List (Nat×List Nat):=[(8,[1,4,5,6,21,22,23])]
def a8a:List (Nat×List Nat):=[]
def a7Z:List (Nat×O6):=[]
def a3j(E:j2)(w0:j9)(N0:D→D→D→D→D→D→D→b8→Prop)(Q:D→b8→Prop)(x1 x4 x5 x6 x8 x9 x21 x22 x23:D)(S:b8):Prop:=
 b7 (i5 S 2 x8) fun v24=>
 j8 Tryz.prog E w0 a1K [x6,v24,x9] S fun v25 S26=>
 b7 (j5 v25 0) fun v27=>
 b7 (j5 v25 1) fun v28=>
 b7 (f9 (d6 x5 true) (some v28)) fun v29=>
 b7 (q9 x5 v29 (.bool false)) fun v30=>
 b7 (i4 .add x23 (.int .i64 1)) fun v31=>
 N0 x1 x4 v30 v27 x21 x22 v31 S26
def E8(E:j2)(w0:j9)(Q:D→b8→Prop)(x5 x6:D)(S:b8):Prop:=
 b7 (unD .not x5) fun v35=>
 i6 v35
 (Q (.tup [.nilSlc,(.int .i64 120)]) S)
 (Q (.tup [x6,(.int .i64 0)]) S)
noncomputable def a7l:Code:=(j7 [1,1,1,0,1,0,0] (Tryz.f111.body.getD .skip))
def a7e(E:j2)(w0:j9)(Q:D→b8→Prop):o8→List D→b8→Prop:=
 (q8 0 (H4 Tryz.prog E w0 a8y a8a a7Z (j7 [1,1,1,1] (Tryz.f111.body.getD .skip)) (F5 Tryz.prog Tryz.f111 Q)))
def a6h(E:j2)(w0:j9)(N0:D→D→D→D→D→D→D→b8→Prop)(Q:D→b8→Prop)(x1 x4 x5 x6 x21 x22 x23:D)(S:b8):Prop:=
 b7 (i4 .lss x23 x22) fun v15=>
 i6 v15
 (b7 (o6 2 x21 x23) fun v16=>
 b7 (i5 S 2 v16) fun v17=>
 j6 S [(.int .i64 0), .nilFn] fun v18 S19=>
 i7 S19 2 v18 v17 fun v20 S21=>
 b7 (j4 1 x1) fun v22=>
 b7 (c9 S21 v22) fun v23=>
 b7 (i4 .eql x23 (.int .i64 1)) fun v32=>
 i6 v32
 (b7 (j4 2 x1) fun v33=>
 b7 (c9 S21 v33) fun v34=>
 a3j E w0 N0 Q x1 x4 x5 x6 v18 v34 x21 x22 x23 S21)
 (a3j E w0 N0 Q x1 x4 x5 x6 v18 v23 x21 x22 x23 S21))
 (b7 (j4 0 x1) fun v36=>
 b7 (c9 S v36) fun v37=>
 b7 (i4 .eql v37 (.int .u8 49)) fun v38=>
 b7 (f9 (d6 v38 true) (some x5)) fun v39=>
 b7 (q9 v38 v39 (.bool false)) fun v40=>
 i6 v40
 (b7 (i5 S 4 x1) fun v41=>
 j8 Tryz.prog E w0 b0v [x6,v41] S fun v42 S43=>
 b7 (j5 v42 0) fun v44=>
 b7 (j5 v42 1) fun v45=>
 E8 E w0 Q v45 v44 S43)
 (b7 (j4 3 x1) fun v46=>
 b7 (c9 S v46) fun v47=>
 b7 (m9 v47) fun v48=>
 b7 (i4 .gtr v48 (.int .i64 0)) fun v49=>
 i6 v49
 (i6 v49
 (E8 E w0 Q (.bool false) x6 S)
 (E8 E w0 Q x5 x6 S))
 (b7 (m9 x4) fun v50=>
 b7 (i4 .lss v50 (.int .i64 2)) fun v51=>
 b7 (f9 (d6 v51 true) (j4 2 x1)) fun v52=>
 b7 (f9 (d6 v51 true) (c9 S v52)) fun v53=>
 b7 (f9 (d6 v51 true) (i4 .neq v53 (.int .i64 0))) fun v54=>
 b7 (q9 v51 v54 (.bool false)) fun v55=>
 i6 v55
 (i6 v55
 (E8 E w0 Q (.bool false) x6 S)
 (E8 E w0 Q x5 x6 S))
 (b7 (m9 x4) fun v56=>
 b7 (i4 .lss v56 (.int .i64 1)) fun v57=>
 b7 (f9 (d6 v57 true) (j4 1 x1)) fun v58=>
 b7 (f9 (d6 v57 true) (c9 S v58)) fun v59=>
 b7 (f9 (d6 v57 true) (i4 .neq v59 (.int .i64 0))) fun v60=>
 b7 (q9 v57 v60 (.bool false)) fun v61=>
 i6 v61
 (E8 E w0 Q (.bool false) x6 S)
 (E8 E w0 Q x5 x6 S)))))
theorem b6k{E:j2}{w0:j9}{N0:D→D→D→D→D→D→D→b8→Prop}{Q:D→b8→Prop}{x1 x4 x5 x6 x21 x22 x23:D}{S:b8}(h:a6h E w0 N0 Q x1 x4 x5 x6 x21 x22 x23 S):
  j1 Tryz.prog E w0 a7l (m6 83 [1,4,5,6,21,22,23] [x1,x4,x5,x6,x21,x22,x23]) S (B0 (fun T S=>N0 (T.getD 1 b9) (T.getD 4 b9) (T.getD 5 b9) (T.getD 6 b9) (T.getD 21 b9) (T.getD 22 b9) (T.getD 23 b9) S) (a7e E w0 Q)):=j3 a8y a8a a7Z mixed (by kernel_rfl) h
theorem b6y{E:j2}{w0:j9}{Q:D→b8→Prop}(I:Nat→D→D→D→D→D→D→D→b8→Prop)
  (step:∀n x1 x4 x5 x6 x21 x22 x23 S,I n x1 x4 x5 x6 x21 x22 x23 S→a6h E w0 (fun x1 x4 x5 x6 x21 x22 x23 S=>∃m,m<n∧I m x1 x4 x5 x6 x21 x22 x23 S) Q x1 x4 x5 x6 x21 x22 x23 S)
  {n:Nat} {x1 x4 x5 x6 x21 x22 x23:D} {S:b8} (h:I n x1 x4 x5 x6 x21 x22 x23 S):j1 Tryz.prog E w0 (.loop a7l) (m6 83 [1,4,5,6,21,22,23] [x1,x4,x5,x6,x21,x22,x23]) S (a7e E w0 Q):=
 o7 (k:=83) (n:=n) (I:=fun n T S=>I n (T.getD 1 b9) (T.getD 4 b9) (T.getD 5 b9) (T.getD 6 b9) (T.getD 21 b9) (T.getD 22 b9) (T.getD 23 b9) S) (fun n T S hl hI=>p8 [1,4,5,6,21,22,23] hl (j1.mono (b6k (step n _ _ _ _ _ _ _ S hI)) fun ex T' S' _ hq=>by cases ex<;>exact hq)) (m7 ..) (Eq.mp (by kernel_rfl) h)
def b7E(E:j2)(w0:j9)(Q:D→b8→Prop)(a0:D)(S:b8):Prop:=
 b7 (o3 a0) fun cs=>j6 S cs fun v0 S1=>
 b7 (j4 0 v0) fun v2=>
 b7 (c9 S1 v2) fun v3=>
 j8 Tryz.prog E w0 a5U [v3] S1 fun v4 S5=>
 b7 (j5 v4 0) fun v6=>
 b7 (j5 v4 1) fun v7=>
 b7 (j4 0 v0) fun v8=>
 b7 (c9 S5 v8) fun v9=>
 r9 S5 1 (m8 1 (List.replicate 1 [(.int .u8 0)]) [(0,v9)]) 1 fun v10 S11=>
 j8 Tryz.prog E w0 a8E [.nilSlc,v10] S11 fun v12 S13=>
 b7 (m9 v6) fun v14=>
 j1 Tryz.prog E w0 (.loop a7l) (m6 83 [1,4,5,6,21,22,23] [v0,v6,v7,v12,v6,v14,(.int .i64 0)]) S13 (a7e E w0 Q)
theorem c0q{E:j2}{w0:j9}{Q:D→b8→Prop}{a0:D}{S:b8}(h:b7E E w0 (d9 E Q) a0 S):j8 Tryz.prog E w0 a9W [a0] S Q:=
 j0 a8y a8a a7Z (fn:=Tryz.f111) (c:=Tryz.f111.body.getD .skip) mixed Tryz.func111 (by kernel_rfl) (by kernel_rfl) h
def c8L:List (Nat×List Nat):=[]
def c9k:List (Nat×List Nat):=[]
def c9c:List (Nat×O6):=[]
def c3a(E:j2)(w0:j9)(Q:D→b8→Prop)(a0:D)(S:b8):Prop:=
 b7 (o3 a0) fun cs=>j6 S cs fun v0 S1=>
 b7 (i5 S1 4 v0) fun v2=>
 j8 Tryz.prog E w0 a9W [v2] S1 fun v3 S4=>
 b7 (j5 v3 0) fun v5=>
 b7 (j5 v3 1) fun v6=>
 b7 (m9 v5) fun v7=>
 Q v7 S4
theorem c4t{E:j2}{w0:j9}{Q:D→b8→Prop}{a0:D}{S:b8}(h:c3a E w0 (d9 E Q) a0 S):j8 Tryz.prog E w0 b5O [a0] S Q:=
 j0 c8L c9k c9c (fn:=Tryz.f84) (c:=Tryz.f84.body.getD .skip) mixed Tryz.func84 (by kernel_rfl) (by kernel_rfl) h
end Go.Proofs.YtdkidgkiplcggaaGreat.d
end
section
open Go.Proofs Go Go.Am Go.Op
namespace Go.Proofs.YtdkidgkiplcggaaGreat.d
section
def fR(l:List Fld):List (List D):=l.map fun f=>[.int .i64 (f.size:Int),a0y f.lo f.hi]
def a5c(op:Int):List (List D):=if op=1 then[[.int .i64 1,a7r 1]]else if op=2 then[[.int .i64 4,a7r 2]]else if op=3 then[[.int .i64 8,a7r 3]]else fR ((lay op).getD [])
section
variable{E:j2}{w0:j9}{S:b8}{Q:D→b8→Prop}{k4 k5 k6:Nat}{a4 a5 a6:List AV}{op:Int}{b:Bool}
theorem a4E{n:Int}{v:D}(h:o3 v=some [v]):E1 (r6 [(.int .i64 0), .nilFn] [(0,1,(.int .i64 n)),(1,1,v)])=some (.agg [.int .i64 n,v]):=by
 simp[r6,h,l7]
@[simp] theorem b4s(lo hi:Int):o3 (a0y lo hi)=some [a0y lo hi]:=(rfl)
@[simp] theorem c2M(w:Int):o3 (a7r w)=some [a7r w]:=(rfl)
theorem a5R{n:Int}{v:D}{K:D→b8→Prop}(h:K (.lst [[.int .i64 n,v]] 2) S):r9 S 2 (m8 2 (List.replicate 1 [(.int .i64 0), .nilFn]) [(0, .agg [.int .i64 n,v])]) 1 K:=by
 simp only[m8,U9,List.length_cons,List.length_nil,List.replicate,List.set]
 rw[if_pos (by decide)]
 exact G6 rfl h
theorem d1y{n:Int}{v:D}{K:D→b8→Prop}(h:K (.lst [[.int .i64 n,v],[.int .i64 n,v]] 2) S):r9 S 2 (m8 2 (List.replicate 2 [(.int .i64 0), .nilFn]) [(0, .agg [.int .i64 n,v]),(1, .agg [.int .i64 n,v])]) 2 K:=by
 simp only[m8,U9,List.length_cons,List.length_nil,List.replicate,List.set]
 rw[if_pos (by decide),if_pos (by decide)]
 exact G6 rfl h
theorem bx{k:Nat}{n:Int}{v:D}{acs:List AV}(h:S k=some ⟨2,[[.int .i64 n,v]],acs⟩):i5 S 2 (.ptr k 0)=some (.agg [.int .i64 n,v]):=laP h ⟨by decide,by simp⟩
theorem c9V(h5:S k5=some ⟨2,[[.int .i64 4,a0y 0 4294967295]],a5⟩)(h6:S k6=some ⟨2,[[.int .i64 1,a0y 1 3]],a6⟩)(hQ:d9 E Q (.tup [.lst (fR ((d0f b op).getD [])) 2, .bool (d0f b op).isSome]) S):
  X9 E w0 (d9 E Q) (.int .u8 op) (.ptr k5 0) (.ptr k6 0) (.int .u8 op) (.bool b) S:=by
 refine b4q ?_
 unfold a9i
 unfold d0f at hQ
 have nilq:d9 E Q (.tup [.lst [] 2, .bool true]) S→d9 E Q (.tup [.nilSlc, .bool true]) S:=fun h=>d9.nilT (lp:=[]) (sz:=2) h
 have nilf:d9 E Q (.tup [.lst [] 2, .bool false]) S→d9 E Q (.tup [.nilSlc, .bool false]) S:=fun h=>d9.nilT (lp:=[]) (sz:=2) h
 cases b with
 |true=>rw[cdT,bx h5,oD];exact a5R hQ
 |false=>
  rw[cdF,a8b,oD,cdB]
  simp only[Bool.false_eq_true,if_false]at hQ
  refine⟨fun h=> ?_,fun h=> ?_⟩
  ·rw[if_pos (by simpa using h)]at hQ
   refine F0.use ?_
   rw[a4E (b4s _ _),oD]
   exact a5R hQ
  rw[if_neg (by simpa using h)]at hQ
  rw[a8b,oD,cdB]
  refine⟨fun h=> ?_,fun h=> ?_⟩
  ·rw[if_pos (by simpa using h)]at hQ;rw[bx h6,oD];exact a5R hQ
  rw[if_neg (by simpa using h)]at hQ
  by_cases h1:11≤op
  ·by_cases h2:op≤28
   ·rw[if_pos ⟨h1,h2⟩]at hQ
    simp[h1,h2,bx h6]
    exact a5R hQ
   ·rw[if_neg (by omega)]at hQ
    simp[h1,h2]
    by_cases h3:op≤52
    ·rw[if_pos (by omega)]at hQ
     simp[show(1:Int)≤op by omega,h3]
     exact nilq hQ
    ·rw[if_neg (by omega)]at hQ
     simp[show(1:Int)≤op by omega,h3]
     exact nilf hQ
  ·rw[if_neg (by omega)]at hQ
   simp[h1]
   by_cases h3:1≤op
   ·rw[if_pos (by omega)]at hQ
    simp[h3,show op≤52 by omega]
    exact nilq hQ
   ·rw[if_neg (by omega)]at hQ
    simp[h3]
    exact nilf hQ
theorem d4N(h5:S k5=some ⟨2,[[.int .i64 4,a0y 0 4294967295]],a5⟩)(h6:S k6=some ⟨2,[[.int .i64 1,a0y 1 3]],a6⟩)(hQ:d9 E Q (.tup [.lst (fR ((c9X b op).getD [])) 2, .bool (c9X b op).isSome]) S):
  a1P E w0 (d9 E Q) (.int .u8 op) (.ptr k5 0) (.ptr k6 0) (.int .u8 op) (.bool b) S:=by
 refine b4i ?_
 unfold a8M
 unfold c9X at hQ
 cases b with
 |true=>
  rw[cdT]
  refine F0.use ?_
  rw[a4E (b4s _ _),oD]
  exact a5R hQ
 |false=>
  rw[cdF,a8b,oD,cdB]
  simp only[Bool.false_eq_true,if_false]at hQ
  refine⟨fun h=> ?_,fun h=> ?_⟩
  ·rw[if_pos (by simpa using h)]at hQ;rw[bx h6,oD,oD];exact d1y hQ
  rw[if_neg (by simpa using h)]at hQ
  simp only[a8b,oD,cdB]
  refine⟨fun h=> ?_,fun h=>⟨fun h'=> ?_,fun h'=> ?_⟩⟩
  ·rw[h];refine c9V h5 h6 ?_;simpa [h]using hQ
  ·rw[h'];refine c9V h5 h6 ?_;simpa [h,h']using hQ
  ·refine c9V h5 h6 ?_;simpa [h,h']using hQ
theorem d4p(h4:S k4=some ⟨2,[[.int .i64 2,a0y 0 65535]],a4⟩)(h5:S k5=some ⟨2,[[.int .i64 4,a0y 0 4294967295]],a5⟩)(h6:S k6=some ⟨2,[[.int .i64 1,a0y 1 3]],a6⟩)(hQ:d9 E Q (.tup [.lst (fR ((d0u b op).getD [])) 2, .bool (d0u b op).isSome]) S):
  a1S E w0 (d9 E Q) (.int .u8 op) (.ptr k4 0) (.ptr k5 0) (.ptr k6 0) (.int .u8 op) (.bool b) S:=by
 refine b3X ?_
 unfold a8H
 unfold d0u at hQ
 cases b with
 |true=>rw[cdT,bx h4,oD,oD];exact d1y hQ
 |false=>
  rw[cdF]
  simp only[Bool.false_eq_true,if_false]at hQ
  simp only[a8b,oD,cdB]
  refine⟨fun h=> ?_,fun h=> ?_⟩
  ·rw[h];refine d4N h5 h6 ?_;simpa [h]using hQ
  ·refine d4N h5 h6 ?_;simpa [h]using hQ
theorem d7B(h4:S k4=some ⟨2,[[.int .i64 2,a0y 0 65535]],a4⟩)(h5:S k5=some ⟨2,[[.int .i64 4,a0y 0 4294967295]],a5⟩)(h6:S k6=some ⟨2,[[.int .i64 1,a0y 1 3]],a6⟩)(hQ:d9 E Q (.tup [.lst (fR ((c8n b op).getD [])) 2, .bool (c8n b op).isSome]) S):
  y9 E w0 (d9 E Q) (.int .u8 op) (.ptr k4 0) (.ptr k5 0) (.ptr k6 0) (.int .u8 op) (.bool b) S:=by
 refine b5A ?_
 unfold b0Q
 unfold c8n at hQ
 cases b with
 |true=>rw[cdT,bx h4,oD];exact a5R hQ
 |false=>
  rw[cdF]
  simp only[Bool.false_eq_true,if_false]at hQ
  simp only[a8b,oD,cdB]
  refine⟨fun h=> ?_,fun h=> ?_⟩
  ·rw[h];refine d4p h4 h5 h6 ?_;simpa [h]using hQ
  ·refine d4p h4 h5 h6 ?_;simpa [h]using hQ
theorem b4B:K9 Tryz.prog E w0 a5U [.int .u8 op] (.tup [.lst (a5c op) 2, .bool (lay op).isSome]):=fun S0=>by
 refine c0M ?_
 unfold b6T
 refine F0.use ?_
 rw[a4E (b4s _ _),oD]
 refine F0.use ?_
 rw[a4E (b4s _ _),oD]
 intro k4 a4 n4 k5 a5 n5
 obtain⟨ne5,n5'⟩:=b8.fresh n5
 refine stP (ds:=[.int .i64 2,a0y 0 65535]) (by rw[b8.set_ne _ _ _ (Ne.symm ne5)];exact b8.set_same _ _ _) (U9 _) ⟨rfl,by decide,by simp⟩ fun a4=> ?_
 rw[b8.set_in _ (Ne.symm ne5)]
 refine stP (ds:=[.int .i64 4,a0y 0 4294967295]) (b8.set_same _ _ _) (U9 _) ⟨rfl,by decide,by simp⟩ fun a5=> ?_
 rw[b8.set_set]
 refine F0.use ?_
 rw[a4E (b4s _ _),oD]
 intro k6 a6 n6
 refine stP (ds:=[.int .i64 1,a0y 1 3]) (b8.set_same _ _ _) (U9 _) ⟨rfl,by decide,by simp⟩ fun a6=> ?_
 rw[b8.set_set]
 obtain⟨ne6,n6'⟩:=b8.fresh n6
 obtain⟨ne6',n6''⟩:=b8.fresh n6'
 generalize hS:((S0.set k4 _).set k5 _).set k6 _=S
 have hle:S0.le S:=by rw[←hS];exact b8.le_set (b8.le_set (b8.le_new n4) n5') n6''
 have h6:S k6=some ⟨2,[[.int .i64 1,a0y 1 3]],a6⟩:=by rw[←hS];exact b8.set_same _ _ _
 have h5:S k5=some ⟨2,[[.int .i64 4,a0y 0 4294967295]],a5⟩:=by rw[←hS,b8.set_ne _ _ _ (Ne.symm ne6)];exact b8.set_same _ _ _
 have h4:S k4=some ⟨2,[[.int .i64 2,a0y 0 65535]],a4⟩:=by rw[←hS,b8.set_ne _ _ _ (Ne.symm ne6'),b8.set_ne _ _ _ (Ne.symm ne5)];exact b8.set_same _ _ _
 have hQ:d9 E (fun d' S'=>d'= .tup [.lst (a5c op) 2, .bool (lay op).isSome]∧S'=S0) (.tup [.lst (a5c op) 2, .bool (lay op).isSome]) S:=d9.less hle d9.pure
 clear hS
 generalize hQ0:(fun d' S'=>d'=D.tup [.lst (a5c op) 2, .bool (lay op).isSome]∧S'=S0)=Q0 at hQ ⊢
 clear hQ0
 simp only[a8b,oD,cdB,beq_iff_eq,beq_eq_false_iff_ne,ne_eq]
 refine⟨fun h=> ?_,fun g1=>⟨fun h=> ?_,fun g2=>⟨fun h=> ?_,fun g3=> ?_⟩⟩⟩
 ·refine a1w.use ?_
  rw[a4E (c2M _),oD]
  refine a5R ?_
  rw[h]at hQ;exact hQ
 ·refine a1w.use ?_
  rw[a4E (c2M _),oD]
  refine a5R ?_
  rw[h]at hQ;exact hQ
 ·refine a1w.use ?_
  rw[a4E (c2M _),oD]
  refine a5R ?_
  rw[h]at hQ;exact hQ
 have e:lay op=c8n (op==6||op==7||op==8||op==50||op==36||op==39||op==40||op==41||op==42||op==43||op==44||op==45) op:=by unfold lay;rw[if_neg g1,if_neg g2,if_neg g3]
 rw[show a5c op=fR ((lay op).getD []) by unfold a5c;rw[if_neg g1,if_neg g2,if_neg g3],e]at hQ
 generalize hb:(op==6||op==7||op==8||op==50||op==36||op==39||op==40||op==41||op==42||op==43||op==44||op==45)=b at hQ
 have fin:∀c:Bool,c=b→y9 E w0 (d9 E Q0) (.int .u8 op) (.ptr k4 0) (.ptr k5 0) (.ptr k6 0) (.int .u8 op) (.bool c) S:=by
  rintro c rfl
  exact d7B h4 h5 h6 hQ
 refine⟨fun h=>fin _ (by rw[←hb];simp[h]),fun h1=>⟨fun h=>fin _ (by rw[←hb];simp[h]),fun h2=>⟨fun h=>fin _ (by rw[←hb];simp[h]),fun h3=>⟨fun h=>fin _ (by rw[←hb];simp[h]),fun h4=>⟨fun h=>fin _ (by rw[←hb];simp[h]),fun h5=>⟨fun h=>fin _ (by rw[←hb];simp[h]),fun h6=>
  ⟨fun h=>fin _ (by rw[←hb];simp[h]),fun h7=>⟨fun h=>fin _ (by rw[←hb];simp[h]),fun h8=>⟨fun h=>fin _ (by rw[←hb];simp[h]),fun h9=>⟨fun h=>fin _ (by rw[←hb];simp[h]),fun h10=>⟨fun h=>fin _ (by rw[←hb];simp[h]),fun h11=>fin _ (by rw[←hb];simp[h1,h2,h3,h4,h5,h6,h7,h8,h9,h10,h11])⟩⟩⟩⟩⟩⟩⟩⟩⟩⟩⟩
end
end
section
theorem c8i(n:Int){i:Nat}(hi:i<8):a4f (n % 18446744073709551616) i=a4f n i:=by
 have h:i=0∨i=1∨i=2∨i=3∨i=4∨i=5∨i=6∨i=7:=by omega
 rcases h with rfl|rfl|rfl|rfl|rfl|rfl|rfl|rfl<;>simp[a4f]<;>omega
theorem b8e(n:Int){s:Nat}(hs:s≤8):H8 (n % 18446744073709551616) s=H8 n s:=by
 unfold H8
 refine List.map_congr_left fun i hi=>c8i n ?_
 have:=List.mem_range.1 hi
 omega
abbrev b6A(S0:b8)(t:D)(bs:List Int)(S:b8):Prop:=Grw S0 t (B4 (bs.map (D.int .u8))) 1 S
def c0v(fv:D)(lo hi:Int):Prop:=fv=a0y lo hi∨∃w,fv=a7r w∧lo=a3R w∧hi=a3T w
theorem c0v.bet(lo hi:Int):c0v (a0y lo hi) lo hi:= .inl rfl
theorem c0v.fit(w:Int):c0v (a7r w) (a3R w) (a3T w):= .inr ⟨w,rfl,rfl,rfl⟩
theorem c0v.cells{fv:D}{lo hi:Int}(h:c0v fv lo hi):o3 fv=some [fv]:=by
 rcases h with rfl|⟨w,rfl,_⟩<;>rfl
theorem d9a:a8p Tryz.prog a0B=true:=by kernel_rfl
theorem d9k:a8p Tryz.prog a3w=true:=by kernel_rfl
def c2k(row:List D)(f:Fld):Prop:=∃fv,row=[.int .i64 (f.size:Int),fv]∧c0v fv f.lo f.hi
theorem c8b{op:Int}{i:Nat}{f:Fld}(h:((lay op).getD [])[i]? =some f):∃row,(a5c op)[i]? =some row∧c2k row f:=by
 unfold a5c
 by_cases h1:op=1
 ·have e:lay op=some [⟨1,a3R 1,a3T 1⟩]:=by unfold lay;rw[if_pos h1]
  rw[e]at h
  rw[if_pos h1]
  cases i with
  |zero=>cases h;exact⟨_,rfl,_,rfl, .fit 1⟩
  |succ i=>cases h
 rw[if_neg h1]
 by_cases h2:op=2
 ·have e:lay op=some [⟨4,a3R 2,a3T 2⟩]:=by unfold lay;rw[if_neg h1,if_pos h2]
  rw[e]at h
  rw[if_pos h2]
  cases i with
  |zero=>cases h;exact⟨_,rfl,_,rfl, .fit 2⟩
  |succ i=>cases h
 rw[if_neg h2]
 by_cases h3:op=3
 ·have e:lay op=some [⟨8,a3R 3,a3T 3⟩]:=by unfold lay;rw[if_neg h1,if_neg h2,if_pos h3]
  rw[e]at h
  rw[if_pos h3]
  cases i with
  |zero=>cases h;exact⟨_,rfl,_,rfl, .fit 3⟩
  |succ i=>cases h
 rw[if_neg h3]
 exact⟨_,by unfold fR;rw[List.getElem?_map,h];rfl,_,rfl, .bet _ _⟩
theorem a5L{op:Int}:(a5c op).length=((lay op).getD []).length:=by
 unfold a5c
 by_cases h1:op=1
 ·rw[if_pos h1];unfold lay;rw[if_pos h1];rfl
 rw[if_neg h1]
 by_cases h2:op=2
 ·rw[if_pos h2];unfold lay;rw[if_neg h1,if_pos h2];rfl
 rw[if_neg h2]
 by_cases h3:op=3
 ·rw[if_pos h3];unfold lay;rw[if_neg h1,if_neg h2,if_pos h3];rfl
 rw[if_neg h3,fR,List.length_map]
section
variable{E:j2}{w0:j9}{S0 S:b8}{t:D}{bs ms:List Int}
theorem c3p{fv:D}{lo hi n:Int}(h:c0v fv lo hi)(hn:I64 n){K:D→b8→Prop}(hK:K (.bool (decide (lo≤n∧n≤hi))) S):a0f Tryz.prog (j8 Tryz.prog E w0) S fv [.int .i64 n] K:=by
 rcases h with rfl|⟨w,rfl,rfl,rfl⟩
 ·simp only[a0y,a0f,a9u,d9a,if_true]
  exact b8v.use hK
 ·simp only[a7r,a0f,a9u,d9k,if_true]
  exact(c4x hn).use hK
theorem b5r(h:b6A S0 t bs S)(hl:bs.length+ms.length<2^44):j8 Tryz.prog E w0 a8E [t,bD ms] S fun v S'=>b6A S0 v (bs++ms) S':=by
 refine c6l ?_
 unfold c5a
 refine h.push (c1u _ _) ⟨by decide,by simp only[b2d,List.length_map];omega⟩ fun t' S' h'=>d9.here ?_
 unfold b6A
 rw[List.map_append,a4S]
 exact h'
theorem a4B(h:b6A S0 t bs S){row:List D}{f:Fld}(hf:c2k row f){n:Int}(hn:I64 n)(h1:1≤f.size)(h8:f.size≤8)(hl:bs.length<2^40):j8 Tryz.prog E w0 a1K [t, .agg row, .int .i64 n] S fun v S'=>
  ∃t',v= .tup [t', .bool (f.may n)]∧b6A S0 t' (bs++H8 n f.size) S':=by
 obtain⟨fv,rfl,hm⟩:=hf
 refine c0N ?_
 unfold b7w
 rw[U9,oD]
 intro k acs hk
 rw[cvI,oD,E2,oD,ldP (b8.set_same _ _ _),List.getElem?_cons_zero,oD,E2,oD,ldP (b8.set_same _ _ _),show([D.int .i64 (f.size:Int),fv]:List D)[0+1]? =some fv from rfl,oD]
 refine(a4s h1 h8).use ⟨fwR _ _, ?_⟩
 rw[b2I,b8e n h8]
 have hg:=h.under (o:=⟨2,[[.int .i64 (f.size:Int),fv]],acs⟩) hk
 refine(b5r hg (by rw[u6];omega)).use fun v S' hg'=> ?_
 have hb:S' k=some ⟨2,[[.int .i64 (f.size:Int),fv]],acs⟩:=hg'.le _ _ (b8.set_same _ _ _)
 have hk0:S0 k=none:=by
  cases e:S0 k with
  |none=>rfl
  |some o=>rw[h.le _ _ e]at hk;cases hk
 refine⟨by rw[fwP,hb];exact(b8.set_same _ _ _).symm,c3p hm hn ?_⟩
 obtain⟨S2,hle,hg2⟩:=hg'.drop hk0
 exact d9.less hle (d9.here ⟨v,rfl,hg2⟩)
end
end
end Go.Proofs.YtdkidgkiplcggaaGreat.d
end
section
namespace Go.Am
section
def WkR:List (List D)→List (List D)→Prop
 | [],[]=>True
 |r::rs,q::qs=>(WkL r q∧r.length=q.length)∧WkR rs qs
 |_,_=>False
theorem WkR.length:∀ {rs qs:List (List D)},WkR rs qs→rs.length=qs.length
 | [],[],_=>rfl
 |r::rs,q::qs,h=>by rw[List.length_cons,List.length_cons,WkR.length h.2]
 | [],_::_,h=>h.elim
 |_::_,[],h=>h.elim
theorem WkR.row:∀ {rs qs:List (List D)} {sz:Nat},WkR rs qs→(∀r∈rs,r.length=sz)→∀q∈qs,q.length=sz
 | [],[],sz,_,_=>fun q hq=>by cases hq
 |r::rs,q::qs,sz,h,hr=>fun y hy=>by
  rcases List.mem_cons.1 hy with e|hy
  ·subst e;rw[←h.1.2];exact hr r List.mem_cons_self
  ·exact WkR.row h.2 (fun r hr'=>hr r (List.mem_cons_of_mem _ hr')) y hy
 | [],_::_,_,h,_=>h.elim
 |_::_,[],_,h,_=>h.elim
theorem WkR.ok{E:j2}{R:Fz}:∀ {rs qs:List (List D)} {vs:List AV},WkR rs qs→a2e E R rs vs→a2e E R qs vs
 | [],[],vs,_,h=>h
 |r::rs,q::qs,vs,w,h=>by
  simp only[a2e]at h ⊢
  obtain⟨a,b,e,h1,h2⟩:=h
  exact⟨a,b,e,w.1.1.ok h1,WkR.ok w.2 h2⟩
 | [],_::_,_,w,_=>w.elim
 |_::_,[],_,w,_=>w.elim
theorem Wk.lst{rs qs:List (List D)}(w:WkR rs qs)(sz:Nat):Wk (.lst rs sz) (.lst qs sz):=fun E R v h=>by
 simp only[Rp]at h ⊢
 rcases h with ⟨rfl,rfl⟩|⟨o,j,cap,ex,z,e1,e2,e3,e4,e5⟩
 ·cases qs with
  |nil=>exact .inl ⟨rfl,rfl⟩
  |cons=>exact w.elim
 ·refine .inr ⟨o,j,cap,ex,z,by rw[←w.length];exact e1,e2,by rw[←w.length];exact e3,w.row e4, ?_⟩
  rcases e5 with rfl|⟨all,f1,f2,f3⟩
  ·cases qs with
   |nil=>exact .inl rfl
   |cons=>exact w.elim
  ·exact .inr ⟨all,f1,by rw[←w.length];exact w.ok f2,by rw[←w.length];exact f3⟩
theorem Wk.trans{a b c:D}(h:Wk a b)(h':Wk b c):Wk a c:=fun E R v x=>h' E R v (h E R v x)
theorem WkR.map{α:Type}{f g:α→List D}(h:∀a,WkL (f a) (g a)∧(f a).length=(g a).length):∀(l:List α),WkR (l.map f) (l.map g)
 | []=>trivial
 |a::l=>⟨h a,WkR.map h l⟩
inductive Lst (rows:List (List D)) (sz:Nat):D→Prop where
 |lst:Lst rows sz (.lst rows sz)
 |ext (more:List (List D)):Lst rows sz (.ext rows more sz)
section
variable{rows:List (List D)}{sz:Nat}{d:D}
theorem Lst.len(h:Lst rows sz d):m9 d=some (.int .i64 rows.length):=by cases h<;>rfl
theorem Lst.at(h:Lst rows sz d){i:Nat}{row:List D}(hr:rows[i]? =some row):o6 sz d (.int .i64 (i:Int))=some (.elt row 0):=by
 cases h
 ·exact b1X hr
 ·exact d8R hr
theorem Lst.rowsS(h:Lst rows sz d)(S:b8):Am.rowsS S sz d=some rows:=by
 cases h<;>simp[Am.rowsS,L5]
theorem Lst.wk(h:Lst rows sz d):Wk d (.lst rows sz):=by
 cases h
 ·exact Wk.refl _
 ·exact Wk.ext _ _ _
theorem Lst.cells(h:Lst rows sz d):o3 d=some [d]:=by cases h<;>rfl
end
theorem d7k{n cap:Nat}(h:n≤cap):F4 (.int .i64 (n:Int)) cap=some n:=by
 simp only[F4]
 rw[if_pos (by omega),Int.toNat_natCast]
theorem Grw.upd{S0 S:b8}{t:D}{rows:List (List D)}{sz k:Nat}{o o':D5}(h:Grw S0 t rows sz S)(hk:S0 k=some o'):Grw (S0.set k o) t rows sz (S.set k o):=by
 rcases h with ⟨rfl,rfl,rfl⟩|⟨l,acs,h,rfl,rfl⟩
 ·exact .inl ⟨rfl,rfl,rfl⟩
 ·have hne:l≠k:=fun e=>by rw[e,hk]at h;cases h
  refine .inr ⟨l,acs, ?_,rfl,b8.set_comm _ hne _ _⟩
  rw[b8.set_ne _ _ _ hne];exact h
theorem Grw.last{S0 S:b8}{t:D}{rows:List (List D)}{sz bytes:Nat}(h:Grw S0 t rows sz S){v:D}{news:List (List D)}(hv:rowsS S sz v=some news)(hn:news≠[])(hb:0<bytes∧(2*(rows.length+news.length)+768)*bytes≤2^47){K:D→b8→Prop}
  (hK:K (.lst (rows++news) sz) S0):w9 S sz bytes t v K:=by
 simp only[w9,hv]
 rcases h with ⟨rfl,rfl,rfl⟩|⟨k,acs,h,rfl,rfl⟩
 ·simp only[a1d]
  rw[if_neg hn]
  refine⟨⟨hb.1,by simpa using hb.2⟩, .inl ?_⟩
  rw[List.take_of_length_le (Nat.le_refl _)]
  simpa using hK
 ·simp only[a1d]
  rw[if_neg hn,b8.set_same]
  simp only
  rw[if_pos ⟨by trivial,by trivial,by omega⟩]
  refine⟨hb, .inl ?_⟩
  rw[b8.erase_set _ _ _ h,List.take_of_length_le (by simp)]
  simpa using hK
end
section
theorem b8.set_self{S:b8}{k:Nat}{o:D5}(h:S k=some o):S.set k o=S:=by
 funext j;unfold b8.set
 by_cases e:j=k
 ·subst e;rw[if_pos rfl,h]
 ·rw[if_neg e]
theorem b8.ne_of{S:b8}{k l:Nat}{o:D5}(h:S k=some o)(n:S l=Option.none):k≠l:=fun e=>by rw[e,n]at h;cases h
theorem b8.none_of{S S':b8}(h:S.le S'){k:Nat}(hk:S' k=Option.none):S k=Option.none:=by
 cases e:S k with
 |none=>rfl
 |some o=>rw[h _ _ e]at hk;cases hk
def u9(S:b8)(k sz:Nat)(c:List D):Prop:=∃a,S k=some ⟨sz,[c],a⟩
section
variable{S S':b8}{k l sz sz':Nat}{c c':List D}
theorem u9.new{a:List AV}:u9 (S.set k ⟨sz,[c],a⟩) k sz c:=⟨a,b8.set_same _ _ _⟩
theorem u9.set_ne(h:u9 S k sz c){o:D5}(hn:k≠l):u9 (S.set l o) k sz c:=by
 obtain⟨a,h⟩:=h;exact⟨a,by rw[b8.set_ne _ _ _ hn];exact h⟩
theorem u9.none(h:u9 S k sz c)(hn:S l=Option.none):k≠l:=by
 obtain⟨a,h⟩:=h;exact b8.ne_of h hn
theorem u9.set(h:u9 S k sz c){o:D5}(hn:S l=Option.none):u9 (S.set l o) k sz c:=h.set_ne (h.none hn)
theorem u9.of(h:u9 S k sz c)(e:S' k=S k):u9 S' k sz c:=by
 obtain⟨a,h⟩:=h;exact⟨a,by rw[e];exact h⟩
theorem u9.le(h:u9 S k sz c)(hl:S.le S'):u9 S' k sz c:=by
 obtain⟨a,h⟩:=h;exact⟨a,hl _ _ h⟩
theorem u9.ne(h:u9 S k sz c)(h':u9 S l sz' c')(hs:sz≠sz'):k≠l:=fun e=>by
 obtain⟨a,h⟩:=h;obtain⟨b,h'⟩:=h';subst e;rw[h]at h';cases h';exact hs rfl
theorem u9.there(h:u9 S k sz c):S k≠Option.none:=by
 obtain⟨a,h⟩:=h;rw[h];simp
theorem u9.ld(h:u9 S k sz c)(i:Nat):c9 S (.ptr k i)=c[i]? :=by obtain⟨a,h⟩:=h;exact ldP h
theorem u9.la(h:u9 S k sz c){i n:Nat}(hn:0<n∧i+n≤c.length):i5 S n (.ptr k i)=some (.agg ((c.drop i).take n)):=by obtain⟨a,h⟩:=h;exact laP h hn
theorem u9.all(h:u9 S k sz c){n:Nat}(hn:0<n)(hl:n=c.length):i5 S n (.ptr k 0)=Option.some (.agg c):=by
 rw[h.la ⟨hn,by omega⟩,List.drop_zero,List.take_of_length_le (by omega)]
theorem u9.st(h:u9 S k sz c){i n:Nat}{v:D}{ds:List D}{K:D→b8→Prop}(hv:o3 v=Option.some ds)(hn:ds.length=n∧0<n∧i+n≤c.length)(hK:∀a,K b9 (S.set k ⟨sz,[l7 c i ds],a⟩)):i7 S n (.ptr k i) v K:=by
 obtain⟨a,h⟩:=h;exact stP h hv hn hK
end
def GrA(S0:b8)(av:List Nat)(t:D)(rows:List (List D))(sz:Nat)(S:b8):Prop:=
 (t= .nilSlc∧rows=[])∨∃k acs,S0 k=Option.none∧k ∉ av∧t= .raw k 0 rows.length rows.length false sz∧S k=some ⟨sz,rows,acs⟩
section
variable{S0 S:b8}{av:List Nat}{t:D}{rows:List (List D)}{sz:Nat}
theorem GrA.nil:GrA S0 av .nilSlc [] sz S:= .inl ⟨rfl,rfl⟩
theorem GrA.of(h:GrA S0 av t rows sz S){S':b8}(e:∀k o,k ∉ av→S k=some o→S' k=some o):GrA S0 av t rows sz S':=by
 rcases h with h|⟨k,acs,h0,h1,h2,h3⟩
 ·exact .inl h
 ·exact .inr ⟨k,acs,h0,h1,h2,e _ _ h1 h3⟩
theorem GrA.set(h:GrA S0 av t rows sz S){l:Nat}{o:D5}(hl:l∈av∨S l=Option.none):GrA S0 av t rows sz (S.set l o):=h.of fun k o' hk e=>by
 rw[b8.set_ne]
 ·exact e
 ·rintro rfl
  rcases hl with hl|hl
  ·exact hk hl
  ·rw[hl]at e;cases e
theorem GrA.le(h:GrA S0 av t rows sz S){S':b8}(hl:S.le S'):GrA S0 av t rows sz S':=h.of fun k o _ e=>hl _ _ e
theorem GrA.push(h:GrA S0 av t rows sz S)(hle:S0.le S)(hav:∀j∈av,S j≠Option.none){bytes:Nat}{v:D}{news:List (List D)}(hv:rowsS S sz v=some news)(hn:news≠[])(hb:0<bytes∧(2*(rows.length+news.length)+768)*bytes≤2^47){K:D→b8→Prop}
  (hK:∀t' S',S0.le S'→(∀j∈av,S' j=S j)→GrA S0 av t' (rows++news) sz S'→K t' S'):w9 S sz bytes t v K:=by
 simp only[w9,hv]
 rcases h with ⟨rfl,rfl⟩|⟨k,acs,h0,h1,rfl,h3⟩
 ·simp only[a1d]
  rw[if_neg hn]
  refine⟨⟨hb.1,by simpa using hb.2⟩, .inr fun k acs hk=>hK _ _ (b8.le_set hle (b8.none_of hle hk)) (fun j hj=>b8.set_ne _ _ _ fun e=>hav j hj (by rw[e];exact hk)) (.inr ⟨k,acs,b8.none_of hle hk,fun hm=>hav k hm hk,by simp,by simpa using b8.set_same _ _ _⟩)⟩
 ·simp only[a1d]
  rw[if_neg hn,h3]
  simp only
  rw[if_pos ⟨by trivial,by trivial,by omega⟩]
  have hke:∀j∈av,(S.erase k) j=S j:=fun j hj=>b8.erase_ne _ _ fun e=>h1 (e▸hj)
  refine⟨hb, .inr fun k' acs' hk'=> ?_⟩
  have hle':=b8.le_erase hle h0
  refine hK _ _ (b8.le_set hle' (b8.none_of hle' hk')) (fun j hj=> ?_) (.inr ⟨k',acs',b8.none_of hle' hk',fun hm=>hav k' hm (by rw[←hke k' hm];exact hk'),by simp, ?_⟩)
  ·rw[b8.set_ne,hke j hj]
   rintro rfl
   exact hav j hj (by rw[←hke j hj];exact hk')
  ·rw[b8.set_same];simp
theorem GrA.grw(h:GrA S0 av t rows sz S)(hle:S0.le S):∃S',S'.le S∧Grw S0 t rows sz S':=by
 rcases h with ⟨rfl,rfl⟩|⟨k,acs,h0,h1,rfl,h3⟩
 ·exact⟨S0,hle, .inl ⟨rfl,rfl,rfl⟩⟩
 ·refine⟨S0.set k ⟨sz,rows,acs⟩,fun j o e=> ?_, .inr ⟨k,acs,h0,rfl,rfl⟩⟩
  unfold b8.set at e
  split at e
  ·rename_i hj;subst hj;cases e;exact h3
  ·exact hle _ _ e
theorem GrA.len(h:GrA S0 av t rows sz S):m9 t=some (.int .i64 rows.length):=by
 rcases h with ⟨rfl,rfl⟩|⟨k,acs,_,_,rfl,_⟩<;>rfl
theorem GrA.cells(h:GrA S0 av t rows sz S):o3 t=some [t]:=by
 rcases h with ⟨rfl,rfl⟩|⟨k,acs,_,_,rfl,_⟩<;>rfl
end
theorem j8.fin{P:Program}{E:j2}{w0:j9}{f:FuncId}{ds:List D}{S:b8}{Q Q':D→b8→Prop}(h:j8 P E w0 f ds S Q)(hq:∀d S',Q d S'→d9 E Q' d S'):j8 P E w0 f ds S Q':=fun R H avs hF hC ha=>by
 refine c2a _ _ _ _ _ (h R H avs hF hC ha) fun v H' ⟨F',R',S',d,a,b,c,e⟩=> ?_
 obtain⟨R2,S2,d2,a2,b2,c2,e2⟩:=hq _ _ e R' H' v b c
 exact⟨F',R2,S2,d2,Fz.le_trans a a2,b2,c2,e2⟩
theorem d9.grwT{E:j2}{Q:D→b8→Prop}{S0 S:b8}{t:D}{rows:List (List D)}{sz:Nat}(h:Grw S0 t rows sz S){pre post:List D}(hQ:d9 E Q (.tup (pre++ .lst rows sz::post)) S0):d9 E Q (.tup (pre++t::post)) S:=by
 rcases h with ⟨rfl,rfl,rfl⟩|⟨k,acs,h0,rfl,rfl⟩
 ·exact d9.nilT hQ
 ·refine d9.freezeT (b8.set_same _ _ _) rfl (by simp) (Nat.le_refl _) ?_
  rw[b8.erase_set _ _ _ h0]
  simpa using hQ
end
end Go.Am
end
