/-
  TransferHeightsSaid: part Hau of its proof.
-/
import Derived.Test.YtdkidgkiplcggaaRows
import Derived.Test.YtdkidgkiplcggaaHar
import Derived.KernelRfl
import Derived.Test.YtdkidgkiplcggaaHat
set_option linter.unusedVariables false
set_option linter.unusedSimpArgs false
set_option maxRecDepth 100000
section
open Go.Proofs Go Go.Am
namespace Go.Proofs.Ytdkidgkiplcggaa.d
def I8:List (Nat×List Nat):=[]
def I6:List (Nat×List Nat):=[(89,[0,4,5,6,13,29]),(101,[0,4,5,6,13,44]),(113,[0,5,6,13,50]),(137,[0,5,6,13,61])]
def I9:List (Nat×V1):=[]
noncomputable def b7r:Code:=(j7 [1,1,1,0,1,0,1,1,1,1,1,1,1,1,1,1,1,1,1,1,1] (Try.f60.body.getD .skip))
def b4G(E:j3)(w0:j8)(Q:D→b8→Prop):o9→List D→b8→Prop:=
 (q8 0 (G5 Try.prog E w0 I8 I6 I9 (j7 [1,1,1,1] (Try.f60.body.getD .skip)) (E7 Try.prog Try.f60 Q)))
def a8e(E:j3)(w0:j8)(Q:D→b8→Prop)(x0 x5 x6 x13 x61:D)(S:b8):Prop:=
 i9 x61
 (b7 (i6 S 2 x5) fun v56=>
 r7 S 2 (m9 2 (List.replicate 1 [(.int .i64 0), .nilFn]) [(0,v56)]) 1 fun v57 S58=>
 Q (.tup [v57,(.bool true)]) S58)
 (b7 (i5 .eql x13 (.int .u8 52)) fun v59=>
 i9 v59
 (l8 Try.prog E w0 r9 [(.int .i64 0),(.int .i64 255)] S fun v60 S61=>
 b7 (D3 (s0 [(.int .i64 0), .nilFn] [(0,1,(.int .i64 1)),(1,1,v60)])) fun v62=>
 r7 S61 2 (m9 2 (List.replicate 1 [(.int .i64 0), .nilFn]) [(0,v62)]) 1 fun v63 S64=>
 Q (.tup [v63,(.bool true)]) S64)
 (b7 (i5 .eql x13 (.int .u8 49)) fun v65=>
 i9 v65
 (b7 (i6 S 2 x6) fun v66=>
 r7 S 2 (m9 2 (List.replicate 1 [(.int .i64 0), .nilFn]) [(0,v66)]) 1 fun v67 S68=>
 Q (.tup [v67,(.bool true)]) S68)
 (b7 (i5 .geq x0 (.int .u8 11)) fun v69=>
 b7 (d9 (d6 v69 true) (some x0)) fun v70=>
 b7 (d9 (d6 v69 true) (i5 .leq v70 (.int .u8 28))) fun v71=>
 b7 (q7 v69 v71 (.bool false)) fun v72=>
 i9 v72
 (b7 (i6 S 2 x6) fun v73=>
 r7 S 2 (m9 2 (List.replicate 1 [(.int .i64 0), .nilFn]) [(0,v73)]) 1 fun v74 S75=>
 Q (.tup [v74,(.bool true)]) S75)
 (b7 (i5 .geq x0 (.int .u8 1)) fun v76=>
 b7 (d9 (d6 v76 true) (some x0)) fun v77=>
 b7 (d9 (d6 v76 true) (i5 .leq v77 (.int .u8 52))) fun v78=>
 b7 (q7 v76 v78 (.bool false)) fun v79=>
 Q (.tup [.nilSlc,v79]) S))))
def W5(E:j3)(w0:j8)(Q:D→b8→Prop)(x0 x5 x6 x13 x61:D)(S:b8):Prop:=j2 Try.prog E w0 b7r (m6 90 [0,5,6,13,61] [x0,x5,x6,x13,x61]) S (b4G E w0 Q)
theorem b2u{E:j3}{w0:j8}{Q:D→b8→Prop}{x0 x5 x6 x13 x61:D}{S:b8}(h:a8e E w0 Q x0 x5 x6 x13 x61 S):W5 E w0 Q x0 x5 x6 x13 x61 S:=j4 I8 I6 I9 mixed (by kernel_rfl) h
noncomputable def b7o:Code:=(j7 [1,1,1,0,1,0,1,1,1,1,1,1,1,1,1,1,1] (Try.f60.body.getD .skip))
def b4M(E:j3)(w0:j8)(Q:D→b8→Prop):o9→List D→b8→Prop:=
 (q8 0 (G5 Try.prog E w0 I8 I6 I9 (j7 [1,1,1,1] (Try.f60.body.getD .skip)) (E7 Try.prog Try.f60 Q)))
def a7N(E:j3)(w0:j8)(Q:D→b8→Prop)(x0 x5 x6 x13 x50:D)(S:b8):Prop:=
 i9 x50
 (l8 Try.prog E w0 r9 [(.int .i64 1),(.int .i64 5)] S fun v46 S47=>
 b7 (D3 (s0 [(.int .i64 0), .nilFn] [(0,1,(.int .i64 1)),(1,1,v46)])) fun v48=>
 r7 S47 2 (m9 2 (List.replicate 1 [(.int .i64 0), .nilFn]) [(0,v48)]) 1 fun v49 S50=>
 Q (.tup [v49,(.bool true)]) S50)
 (b7 (i5 .eql x13 (.int .u8 29)) fun v51=>
 i9 v51
 (b7 (i6 S 2 x6) fun v52=>
 b7 (i6 S 2 x6) fun v53=>
 r7 S 2 (m9 2 (List.replicate 2 [(.int .i64 0), .nilFn]) [(0,v52),(1,v53)]) 2 fun v54 S55=>
 Q (.tup [v54,(.bool true)]) S55)
 (b7 (i5 .eql x13 (.int .u8 46)) fun v80=>
 i9 v80
 (W5 E w0 Q x0 x5 x6 x13 v80 S)
 (b7 (i5 .eql x13 (.int .u8 47)) fun v81=>
 i9 v81
 (W5 E w0 Q x0 x5 x6 x13 v81 S)
 (b7 (i5 .eql x13 (.int .u8 48)) fun v82=>
 W5 E w0 Q x0 x5 x6 x13 v82 S))))
def a1g(E:j3)(w0:j8)(Q:D→b8→Prop)(x0 x5 x6 x13 x50:D)(S:b8):Prop:=j2 Try.prog E w0 b7o (m6 90 [0,5,6,13,50] [x0,x5,x6,x13,x50]) S (b4M E w0 Q)
theorem b2Q{E:j3}{w0:j8}{Q:D→b8→Prop}{x0 x5 x6 x13 x50:D}{S:b8}(h:a7N E w0 Q x0 x5 x6 x13 x50 S):a1g E w0 Q x0 x5 x6 x13 x50 S:=j4 I8 I6 I9 mixed (by kernel_rfl) h
noncomputable def b6B:Code:=(j7 [1,1,1,0,1,0,1,1,1,1,1,1,1,1,1] (Try.f60.body.getD .skip))
def b6g(E:j3)(w0:j8)(Q:D→b8→Prop):o9→List D→b8→Prop:=
 (q8 0 (G5 Try.prog E w0 I8 I6 I9 (j7 [1,1,1,1] (Try.f60.body.getD .skip)) (E7 Try.prog Try.f60 Q)))
def a8h(E:j3)(w0:j8)(Q:D→b8→Prop)(x0 x4 x5 x6 x13 x44:D)(S:b8):Prop:=
 i9 x44
 (b7 (i6 S 2 x4) fun v42=>
 b7 (i6 S 2 x4) fun v43=>
 r7 S 2 (m9 2 (List.replicate 2 [(.int .i64 0), .nilFn]) [(0,v42),(1,v43)]) 2 fun v44 S45=>
 Q (.tup [v44,(.bool true)]) S45)
 (b7 (i5 .eql x13 (.int .u8 23)) fun v83=>
 i9 v83
 (a1g E w0 Q x0 x5 x6 x13 v83 S)
 (b7 (i5 .eql x13 (.int .u8 24)) fun v84=>
 a1g E w0 Q x0 x5 x6 x13 v84 S))
def a1e(E:j3)(w0:j8)(Q:D→b8→Prop)(x0 x4 x5 x6 x13 x44:D)(S:b8):Prop:=j2 Try.prog E w0 b6B (m6 90 [0,4,5,6,13,44] [x0,x4,x5,x6,x13,x44]) S (b6g E w0 Q)
theorem b2I{E:j3}{w0:j8}{Q:D→b8→Prop}{x0 x4 x5 x6 x13 x44:D}{S:b8}(h:a8h E w0 Q x0 x4 x5 x6 x13 x44 S):a1e E w0 Q x0 x4 x5 x6 x13 x44 S:=j4 I8 I6 I9 mixed (by kernel_rfl) h
noncomputable def b8t:Code:=(j7 [1,1,1,0,1,0,1,1,1,1,1,1,1] (Try.f60.body.getD .skip))
def b7B(E:j3)(w0:j8)(Q:D→b8→Prop):o9→List D→b8→Prop:=
 (q8 0 (G5 Try.prog E w0 I8 I6 I9 (j7 [1,1,1,1] (Try.f60.body.getD .skip)) (E7 Try.prog Try.f60 Q)))
def a9P(E:j3)(w0:j8)(Q:D→b8→Prop)(x0 x4 x5 x6 x13 x29:D)(S:b8):Prop:=
 i9 x29
 (b7 (i6 S 2 x4) fun v39=>
 r7 S 2 (m9 2 (List.replicate 1 [(.int .i64 0), .nilFn]) [(0,v39)]) 1 fun v40 S41=>
 Q (.tup [v40,(.bool true)]) S41)
 (b7 (i5 .eql x13 (.int .u8 37)) fun v85=>
 i9 v85
 (a1e E w0 Q x0 x4 x5 x6 x13 v85 S)
 (b7 (i5 .eql x13 (.int .u8 38)) fun v86=>
 a1e E w0 Q x0 x4 x5 x6 x13 v86 S))
def w4(E:j3)(w0:j8)(Q:D→b8→Prop)(x0 x4 x5 x6 x13 x29:D)(S:b8):Prop:=j2 Try.prog E w0 b8t (m6 90 [0,4,5,6,13,29] [x0,x4,x5,x6,x13,x29]) S (b7B E w0 Q)
theorem b3A{E:j3}{w0:j8}{Q:D→b8→Prop}{x0 x4 x5 x6 x13 x29:D}{S:b8}(h:a9P E w0 Q x0 x4 x5 x6 x13 x29 S):w4 E w0 Q x0 x4 x5 x6 x13 x29 S:=j4 I8 I6 I9 mixed (by kernel_rfl) h
def b4N(E:j3)(w0:j8)(Q:D→b8→Prop)(a0:D)(S:b8):Prop:=
 l8 Try.prog E w0 r9 [(.int .i64 0),(.int .i64 65535)] S fun v0 S1=>
 b7 (D3 (s0 [(.int .i64 0), .nilFn] [(0,1,(.int .i64 2)),(1,1,v0)])) fun v2=>
 l8 Try.prog E w0 r9 [(.int .i64 0),(.int .i64 4294967295)] S1 fun v3 S4=>
 b7 (D3 (s0 [(.int .i64 0), .nilFn] [(0,1,(.int .i64 4)),(1,1,v3)])) fun v5=>
 j6 S4 [(.int .i64 0), .nilFn] fun v6 S7=>
 j6 S7 [(.int .i64 0), .nilFn] fun v8 S9=>
 i7 S9 2 v6 v2 fun v10 S11=>
 i7 S11 2 v8 v5 fun v12 S13=>
 l8 Try.prog E w0 r9 [(.int .i64 1),(.int .i64 3)] S13 fun v14 S15=>
 b7 (D3 (s0 [(.int .i64 0), .nilFn] [(0,1,(.int .i64 1)),(1,1,v14)])) fun v16=>
 j6 S15 [(.int .i64 0), .nilFn] fun v17 S18=>
 i7 S18 2 v17 v16 fun v19 S20=>
 b7 (i5 .eql a0 (.int .u8 1)) fun v21=>
 i9 v21
 (l8 Try.prog E w0 C5 [(.int .u8 1)] S20 fun v22 S23=>
 b7 (D3 (s0 [(.int .i64 0), .nilFn] [(0,1,(.int .i64 1)),(1,1,v22)])) fun v24=>
 r7 S23 2 (m9 2 (List.replicate 1 [(.int .i64 0), .nilFn]) [(0,v24)]) 1 fun v25 S26=>
 Q (.tup [v25,(.bool true)]) S26)
 (b7 (i5 .eql a0 (.int .u8 2)) fun v27=>
 i9 v27
 (l8 Try.prog E w0 C5 [(.int .u8 2)] S20 fun v28 S29=>
 b7 (D3 (s0 [(.int .i64 0), .nilFn] [(0,1,(.int .i64 4)),(1,1,v28)])) fun v30=>
 r7 S29 2 (m9 2 (List.replicate 1 [(.int .i64 0), .nilFn]) [(0,v30)]) 1 fun v31 S32=>
 Q (.tup [v31,(.bool true)]) S32)
 (b7 (i5 .eql a0 (.int .u8 3)) fun v33=>
 i9 v33
 (l8 Try.prog E w0 C5 [(.int .u8 3)] S20 fun v34 S35=>
 b7 (D3 (s0 [(.int .i64 0), .nilFn] [(0,1,(.int .i64 8)),(1,1,v34)])) fun v36=>
 r7 S35 2 (m9 2 (List.replicate 1 [(.int .i64 0), .nilFn]) [(0,v36)]) 1 fun v37 S38=>
 Q (.tup [v37,(.bool true)]) S38)
 (b7 (i5 .eql a0 (.int .u8 6)) fun v87=>
 i9 v87
 (w4 E w0 Q a0 v6 v8 v17 a0 v87 S20)
 (b7 (i5 .eql a0 (.int .u8 7)) fun v88=>
 i9 v88
 (w4 E w0 Q a0 v6 v8 v17 a0 v88 S20)
 (b7 (i5 .eql a0 (.int .u8 8)) fun v89=>
 i9 v89
 (w4 E w0 Q a0 v6 v8 v17 a0 v89 S20)
 (b7 (i5 .eql a0 (.int .u8 50)) fun v90=>
 i9 v90
 (w4 E w0 Q a0 v6 v8 v17 a0 v90 S20)
 (b7 (i5 .eql a0 (.int .u8 36)) fun v91=>
 i9 v91
 (w4 E w0 Q a0 v6 v8 v17 a0 v91 S20)
 (b7 (i5 .eql a0 (.int .u8 39)) fun v92=>
 i9 v92
 (w4 E w0 Q a0 v6 v8 v17 a0 v92 S20)
 (b7 (i5 .eql a0 (.int .u8 40)) fun v93=>
 i9 v93
 (w4 E w0 Q a0 v6 v8 v17 a0 v93 S20)
 (b7 (i5 .eql a0 (.int .u8 41)) fun v94=>
 i9 v94
 (w4 E w0 Q a0 v6 v8 v17 a0 v94 S20)
 (b7 (i5 .eql a0 (.int .u8 42)) fun v95=>
 i9 v95
 (w4 E w0 Q a0 v6 v8 v17 a0 v95 S20)
 (b7 (i5 .eql a0 (.int .u8 43)) fun v96=>
 i9 v96
 (w4 E w0 Q a0 v6 v8 v17 a0 v96 S20)
 (b7 (i5 .eql a0 (.int .u8 44)) fun v97=>
 i9 v97
 (w4 E w0 Q a0 v6 v8 v17 a0 v97 S20)
 (b7 (i5 .eql a0 (.int .u8 45)) fun v98=>
 w4 E w0 Q a0 v6 v8 v17 a0 v98 S20))))))))))))))
theorem b8R{E:j3}{w0:j8}{Q:D→b8→Prop}{a0:D}{S:b8}(h:b4N E w0 (i4 E Q) a0 S):l8 Try.prog E w0 a5a [a0] S Q:=
 j5 I8 I6 I9 (fn:=Try.f60) (c:=Try.f60.body.getD .skip) mixed Try.func60 (by kernel_rfl) (by kernel_rfl) h
def c8v:List (Nat×List Nat):=[]
def c8C:List (Nat×List Nat):=[]
def c7C:List (Nat×V1):=[]
def c3p(E:j3)(w0:j8)(Q:D→b8→Prop)(a0 a1:D)(S:b8):Prop:=
 u9 S 1 1 a0 a1 fun v0 S1=>
 Q v0 S1
theorem c4Y{E:j3}{w0:j8}{Q:D→b8→Prop}{a0 a1:D}{S:b8}(h:c3p E w0 (i4 E Q) a0 a1 S):l8 Try.prog E w0 a7V [a0,a1] S Q:=
 j5 c8v c8C c7C (fn:=Try.f129) (c:=Try.f129.body.getD .skip) mixed Try.func129 (by kernel_rfl) (by kernel_rfl) h
def c2Z:List (Nat×List Nat):=[]
def c2R:List (Nat×List Nat):=[]
def c2A:List (Nat×V1):=[(1,(.leaf [0,1,2,3,4,7,8,9,5,6,10,11,12]))]
def b6r(E:j3)(w0:j8)(Q:D→b8→Prop)(a0 a1 a2:D)(S:b8):Prop:=
 b7 (o5 a1) fun cs=>j6 S cs fun v0 S1=>
 b7 (J1 .u64 a2) fun v2=>
 b7 (j1 0 v0) fun v3=>
 b7 (c9 S1 v3) fun v4=>
 b7 (j1 1 v0) fun v5=>
 b7 (c9 S1 v5) fun v6=>
 l8 Try.prog E w0 a1i [v2,v4] S1 fun v7 S8=>
 o4 v5 S1 S8∧l8 Try.prog E w0 a7V [a0,v7] S8 fun v9 S10=>
 o4 v5 S1 S10∧a1S Try.prog (l8 Try.prog E w0) S10 v6 [a2] fun v11 S12=>
 Q (.tup [v9,v11]) S12
theorem b8E{E:j3}{w0:j8}{Q:D→b8→Prop}{a0 a1 a2:D}{S:b8}(h:b6r E w0 (i4 E Q) a0 a1 a2 S):l8 Try.prog E w0 a1h [a0,a1,a2] S Q:=
 j5 c2Z c2R c2A (fn:=Try.f130) (c:=Try.f130.body.getD .skip) mixed Try.func130 (by kernel_rfl) (by kernel_rfl) h
def b0L:List (Nat×List Nat):=[(16,[0,3,6,7,8,33,34,35])]
def b1a:List (Nat×List Nat):=[]
def b1B:List (Nat×V1):=[]
noncomputable def a9q:Code:=(j7 [1,1,1,1,1,1,0,1,0,0] (Try.f131.body.getD .skip))
def a9w(E:j3)(w0:j8)(Q:D→b8→Prop):o9→List D→b8→Prop:=
 (q8 0 (G5 Try.prog E w0 b0L b1a b1B (j7 [1,1,1,1,1,1,1] (Try.f131.body.getD .skip)) (E7 Try.prog Try.f131 Q)))
def a9t(E:j3)(w0:j8)(N0:D→D→D→D→D→D→D→D→b8→Prop)(Q:D→b8→Prop)(x0 x3 x6 x7 x8 x33 x34 x35:D)(S:b8):Prop:=
 b7 (i5 .lss x35 x34) fun v34=>
 i9 v34
 (b7 (o7 2 x33 x35) fun v35=>
 b7 (i6 S 2 v35) fun v36=>
 j6 S [(.int .i64 0),(.int .i64 0)] fun v37 S38=>
 i7 S38 2 v37 v36 fun v39 S40=>
 b7 (i6 S40 2 x7) fun v41=>
 b7 (j1 0 v37) fun v42=>
 b7 (c9 S40 v42) fun v43=>
 l8 Try.prog E w0 a1h [x0,v41,v43] S40 fun v44 S45=>
 b7 (l9 v44 0) fun v46=>
 b7 (l9 v44 1) fun v47=>
 b7 (i6 S45 2 x6) fun v48=>
 b7 (j1 1 v37) fun v49=>
 b7 (c9 S45 v49) fun v50=>
 l8 Try.prog E w0 a1h [v46,v48,v50] S45 fun v51 S52=>
 b7 (l9 v51 0) fun v53=>
 b7 (l9 v51 1) fun v54=>
 b7 (d9 (d6 x8 true) (some v47)) fun v55=>
 b7 (q7 x8 v55 (.bool false)) fun v56=>
 b7 (d9 (d6 v56 true) (some v54)) fun v57=>
 b7 (q7 v56 v57 (.bool false)) fun v58=>
 b7 (i5 .add x35 (.int .i64 1)) fun v59=>
 N0 v53 x3 x6 x7 v58 x33 x34 v59 S52)
 (b7 (i6 S 2 x6) fun v60=>
 b7 (j1 2 x3) fun v61=>
 b7 (c9 S v61) fun v62=>
 l8 Try.prog E w0 a1h [x0,v60,v62] S fun v63 S64=>
 b7 (l9 v63 0) fun v65=>
 b7 (l9 v63 1) fun v66=>
 b7 (d9 (d6 x8 true) (some v66)) fun v67=>
 b7 (q7 x8 v67 (.bool false)) fun v68=>
 Q (.tup [v65,v68]) S64)
theorem b8P{E:j3}{w0:j8}{N0:D→D→D→D→D→D→D→D→b8→Prop}{Q:D→b8→Prop}{x0 x3 x6 x7 x8 x33 x34 x35:D}{S:b8}(h:a9t E w0 N0 Q x0 x3 x6 x7 x8 x33 x34 x35 S):
  j2 Try.prog E w0 a9q (m6 76 [0,3,6,7,8,33,34,35] [x0,x3,x6,x7,x8,x33,x34,x35]) S (B1 (fun T S=>N0 (T.getD 0 b9) (T.getD 3 b9) (T.getD 6 b9) (T.getD 7 b9) (T.getD 8 b9) (T.getD 33 b9) (T.getD 34 b9) (T.getD 35 b9) S) (a9w E w0 Q)):=j4 b0L b1a b1B mixed (by kernel_rfl) h
theorem b8u{E:j3}{w0:j8}{Q:D→b8→Prop}(I:Nat→D→D→D→D→D→D→D→D→b8→Prop)
  (step:∀n x0 x3 x6 x7 x8 x33 x34 x35 S,I n x0 x3 x6 x7 x8 x33 x34 x35 S→a9t E w0 (fun x0 x3 x6 x7 x8 x33 x34 x35 S=>∃m,m<n∧I m x0 x3 x6 x7 x8 x33 x34 x35 S) Q x0 x3 x6 x7 x8 x33 x34 x35 S)
  {n:Nat} {x0 x3 x6 x7 x8 x33 x34 x35:D} {S:b8} (h:I n x0 x3 x6 x7 x8 x33 x34 x35 S):j2 Try.prog E w0 (.loop a9q) (m6 76 [0,3,6,7,8,33,34,35] [x0,x3,x6,x7,x8,x33,x34,x35]) S (a9w E w0 Q):=
 p8 (k:=76) (n:=n) (I:=fun n T S=>I n (T.getD 0 b9) (T.getD 3 b9) (T.getD 6 b9) (T.getD 7 b9) (T.getD 8 b9) (T.getD 33 b9) (T.getD 34 b9) (T.getD 35 b9) S) (fun n T S hl hI=>q9 [0,3,6,7,8,33,34,35] hl (j2.mono (b8P (step n _ _ _ _ _ _ _ _ S hI)) fun ex T' S' _ hq=>by cases ex<;>exact hq)) (o0 ..) (Eq.mp (by kernel_rfl) h)
def c1f(E:j3)(w0:j8)(Q:D→b8→Prop)(a0 a1:D)(S:b8):Prop:=
 b7 (o5 a1) fun cs=>j6 S cs fun v0 S1=>
 l8 Try.prog E w0 r9 [(.int .i64 0),(.int .i64 4294967295)] S1 fun v2 S3=>
 b7 (D3 (s0 [(.int .i64 0), .nilFn] [(0,1,(.int .i64 4)),(1,1,v2)])) fun v4=>
 j6 S3 [(.int .i64 0), .nilFn] fun v5 S6=>
 i7 S6 2 v5 v4 fun v7 S8=>
 b7 (j1 1 v0) fun v9=>
 b7 (c9 S8 v9) fun v10=>
 b7 (J1 .u8 v10) fun v11=>
 l8 Try.prog E w0 C5 [v11] S8 fun v12 S13=>
 b7 (D3 (s0 [(.int .i64 0), .nilFn] [(0,1,(.int .i64 8)),(1,1,v12)])) fun v14=>
 j6 S13 [(.int .i64 0), .nilFn] fun v15 S16=>
 i7 S16 2 v15 v14 fun v17 S18=>
 b7 (j1 3 v0) fun v19=>
 b7 (c9 S18 v19) fun v20=>
 b7 (m8 v20) fun v21=>
 b7 (i5 .gtr v21 (.int .i64 65535)) fun v22=>
 i9 v22
 (Q (.tup [.nilSlc,(.bool false)]) S18)
 (b7 (j1 3 v0) fun v23=>
 b7 (c9 S18 v23) fun v24=>
 b7 (m8 v24) fun v25=>
 b7 (J1 .u64 v25) fun v26=>
 l8 Try.prog E w0 a1i [v26,(.int .i64 2)] S18 fun v27 S28=>
 l8 Try.prog E w0 a7V [a0,v27] S28 fun v29 S30=>
 b7 (j1 3 v0) fun v31=>
 b7 (c9 S30 v31) fun v32=>
 b7 (m8 v32) fun v33=>
 j2 Try.prog E w0 (.loop a9q) (m6 76 [0,3,6,7,8,33,34,35] [v29,v0,v5,v15,(.bool true),v32,v33,(.int .i64 0)]) S30 (a9w E w0 Q))
theorem c2M{E:j3}{w0:j8}{Q:D→b8→Prop}{a0 a1:D}{S:b8}(h:c1f E w0 (i4 E Q) a0 a1 S):l8 Try.prog E w0 a8t [a0,a1] S Q:=
 j5 b0L b1a b1B (fn:=Try.f131) (c:=Try.f131.body.getD .skip) mixed Try.func131 (by kernel_rfl) (by kernel_rfl) h
def a7v:List (Nat×List Nat):=[(8,[1,4,5,6,21,22,23])]
def a7u:List (Nat×List Nat):=[]
def a7B:List (Nat×V1):=[]
def a2E(E:j3)(w0:j8)(N0:D→D→D→D→D→D→D→b8→Prop)(Q:D→b8→Prop)(x1 x4 x5 x6 x8 x9 x21 x22 x23:D)(S:b8):Prop:=
 b7 (i6 S 2 x8) fun v24=>
 l8 Try.prog E w0 a1h [x6,v24,x9] S fun v25 S26=>
 b7 (l9 v25 0) fun v27=>
 b7 (l9 v25 1) fun v28=>
 b7 (d9 (d6 x5 true) (some v28)) fun v29=>
 b7 (q7 x5 v29 (.bool false)) fun v30=>
 b7 (i5 .add x23 (.int .i64 1)) fun v31=>
 N0 x1 x4 v30 v27 x21 x22 v31 S26
def E2(E:j3)(w0:j8)(Q:D→b8→Prop)(x5 x6:D)(S:b8):Prop:=
 b7 (unD .not x5) fun v35=>
 i9 v35
 (Q (.tup [.nilSlc,(.int .i64 120)]) S)
 (Q (.tup [x6,(.int .i64 0)]) S)
noncomputable def a5Q:Code:=(j7 [1,1,1,0,1,0,0] (Try.f115.body.getD .skip))
def a5r(E:j3)(w0:j8)(Q:D→b8→Prop):o9→List D→b8→Prop:=
 (q8 0 (G5 Try.prog E w0 a7v a7u a7B (j7 [1,1,1,1] (Try.f115.body.getD .skip)) (E7 Try.prog Try.f115 Q)))
def a5I(E:j3)(w0:j8)(N0:D→D→D→D→D→D→D→b8→Prop)(Q:D→b8→Prop)(x1 x4 x5 x6 x21 x22 x23:D)(S:b8):Prop:=
 b7 (i5 .lss x23 x22) fun v15=>
 i9 v15
 (b7 (o7 2 x21 x23) fun v16=>
 b7 (i6 S 2 v16) fun v17=>
 j6 S [(.int .i64 0), .nilFn] fun v18 S19=>
 i7 S19 2 v18 v17 fun v20 S21=>
 b7 (j1 1 x1) fun v22=>
 b7 (c9 S21 v22) fun v23=>
 b7 (i5 .eql x23 (.int .i64 1)) fun v32=>
 i9 v32
 (b7 (j1 2 x1) fun v33=>
 b7 (c9 S21 v33) fun v34=>
 a2E E w0 N0 Q x1 x4 x5 x6 v18 v34 x21 x22 x23 S21)
 (a2E E w0 N0 Q x1 x4 x5 x6 v18 v23 x21 x22 x23 S21))
 (b7 (j1 0 x1) fun v36=>
 b7 (c9 S v36) fun v37=>
 b7 (i5 .eql v37 (.int .u8 49)) fun v38=>
 b7 (d9 (d6 v38 true) (some x5)) fun v39=>
 b7 (q7 v38 v39 (.bool false)) fun v40=>
 i9 v40
 (b7 (i6 S 4 x1) fun v41=>
 l8 Try.prog E w0 a8t [x6,v41] S fun v42 S43=>
 b7 (l9 v42 0) fun v44=>
 b7 (l9 v42 1) fun v45=>
 E2 E w0 Q v45 v44 S43)
 (b7 (j1 3 x1) fun v46=>
 b7 (c9 S v46) fun v47=>
 b7 (m8 v47) fun v48=>
 b7 (i5 .gtr v48 (.int .i64 0)) fun v49=>
 i9 v49
 (i9 v49
 (E2 E w0 Q (.bool false) x6 S)
 (E2 E w0 Q x5 x6 S))
 (b7 (m8 x4) fun v50=>
 b7 (i5 .lss v50 (.int .i64 2)) fun v51=>
 b7 (d9 (d6 v51 true) (j1 2 x1)) fun v52=>
 b7 (d9 (d6 v51 true) (c9 S v52)) fun v53=>
 b7 (d9 (d6 v51 true) (i5 .neq v53 (.int .i64 0))) fun v54=>
 b7 (q7 v51 v54 (.bool false)) fun v55=>
 i9 v55
 (i9 v55
 (E2 E w0 Q (.bool false) x6 S)
 (E2 E w0 Q x5 x6 S))
 (b7 (m8 x4) fun v56=>
 b7 (i5 .lss v56 (.int .i64 1)) fun v57=>
 b7 (d9 (d6 v57 true) (j1 1 x1)) fun v58=>
 b7 (d9 (d6 v57 true) (c9 S v58)) fun v59=>
 b7 (d9 (d6 v57 true) (i5 .neq v59 (.int .i64 0))) fun v60=>
 b7 (q7 v57 v60 (.bool false)) fun v61=>
 i9 v61
 (E2 E w0 Q (.bool false) x6 S)
 (E2 E w0 Q x5 x6 S)))))
theorem b5S{E:j3}{w0:j8}{N0:D→D→D→D→D→D→D→b8→Prop}{Q:D→b8→Prop}{x1 x4 x5 x6 x21 x22 x23:D}{S:b8}(h:a5I E w0 N0 Q x1 x4 x5 x6 x21 x22 x23 S):
  j2 Try.prog E w0 a5Q (m6 83 [1,4,5,6,21,22,23] [x1,x4,x5,x6,x21,x22,x23]) S (B1 (fun T S=>N0 (T.getD 1 b9) (T.getD 4 b9) (T.getD 5 b9) (T.getD 6 b9) (T.getD 21 b9) (T.getD 22 b9) (T.getD 23 b9) S) (a5r E w0 Q)):=j4 a7v a7u a7B mixed (by kernel_rfl) h
theorem b5t{E:j3}{w0:j8}{Q:D→b8→Prop}(I:Nat→D→D→D→D→D→D→D→b8→Prop)
  (step:∀n x1 x4 x5 x6 x21 x22 x23 S,I n x1 x4 x5 x6 x21 x22 x23 S→a5I E w0 (fun x1 x4 x5 x6 x21 x22 x23 S=>∃m,m<n∧I m x1 x4 x5 x6 x21 x22 x23 S) Q x1 x4 x5 x6 x21 x22 x23 S)
  {n:Nat} {x1 x4 x5 x6 x21 x22 x23:D} {S:b8} (h:I n x1 x4 x5 x6 x21 x22 x23 S):j2 Try.prog E w0 (.loop a5Q) (m6 83 [1,4,5,6,21,22,23] [x1,x4,x5,x6,x21,x22,x23]) S (a5r E w0 Q):=
 p8 (k:=83) (n:=n) (I:=fun n T S=>I n (T.getD 1 b9) (T.getD 4 b9) (T.getD 5 b9) (T.getD 6 b9) (T.getD 21 b9) (T.getD 22 b9) (T.getD 23 b9) S) (fun n T S hl hI=>q9 [1,4,5,6,21,22,23] hl (j2.mono (b5S (step n _ _ _ _ _ _ _ S hI)) fun ex T' S' _ hq=>by cases ex<;>exact hq)) (o0 ..) (Eq.mp (by kernel_rfl) h)
def b5V(E:j3)(w0:j8)(Q:D→b8→Prop)(a0:D)(S:b8):Prop:=
 b7 (o5 a0) fun cs=>j6 S cs fun v0 S1=>
 b7 (j1 0 v0) fun v2=>
 b7 (c9 S1 v2) fun v3=>
 l8 Try.prog E w0 a5a [v3] S1 fun v4 S5=>
 b7 (l9 v4 0) fun v6=>
 b7 (l9 v4 1) fun v7=>
 b7 (j1 0 v0) fun v8=>
 b7 (c9 S5 v8) fun v9=>
 r7 S5 1 (m9 1 (List.replicate 1 [(.int .u8 0)]) [(0,v9)]) 1 fun v10 S11=>
 l8 Try.prog E w0 a7V [.nilSlc,v10] S11 fun v12 S13=>
 b7 (m8 v6) fun v14=>
 j2 Try.prog E w0 (.loop a5Q) (m6 83 [1,4,5,6,21,22,23] [v0,v6,v7,v12,v6,v14,(.int .i64 0)]) S13 (a5r E w0 Q)
theorem b9a{E:j3}{w0:j8}{Q:D→b8→Prop}{a0:D}{S:b8}(h:b5V E w0 (i4 E Q) a0 S):l8 Try.prog E w0 a9x [a0] S Q:=
 j5 a7v a7u a7B (fn:=Try.f115) (c:=Try.f115.body.getD .skip) mixed Try.func115 (by kernel_rfl) (by kernel_rfl) h
def c7q:List (Nat×List Nat):=[]
def c6l:List (Nat×List Nat):=[]
def c7m:List (Nat×V1):=[]
def c2j(E:j3)(w0:j8)(Q:D→b8→Prop)(a0:D)(S:b8):Prop:=
 b7 (o5 a0) fun cs=>j6 S cs fun v0 S1=>
 b7 (i6 S1 4 v0) fun v2=>
 l8 Try.prog E w0 a9x [v2] S1 fun v3 S4=>
 b7 (l9 v3 0) fun v5=>
 b7 (l9 v3 1) fun v6=>
 b7 (m8 v5) fun v7=>
 Q v7 S4
theorem c2y{E:j3}{w0:j8}{Q:D→b8→Prop}{a0:D}{S:b8}(h:c2j E w0 (i4 E Q) a0 S):l8 Try.prog E w0 b4p [a0] S Q:=
 j5 c7q c6l c7m (fn:=Try.f93) (c:=Try.f93.body.getD .skip) mixed Try.func93 (by kernel_rfl) (by kernel_rfl) h
end Go.Proofs.Ytdkidgkiplcggaa.d
end
section
open Go.Proofs Go Go.Am Go.Op
namespace Go.Proofs.Ytdkidgkiplcggaa.d
section
def fR(l:List Fld):List (List D):=l.map fun f=>[.int .i64 (f.size:Int),Z7 f.lo f.hi]
def a4i(op:Int):List (List D):=if op=1 then[[.int .i64 1,a6F 1]]else if op=2 then[[.int .i64 4,a6F 2]]else if op=3 then[[.int .i64 8,a6F 3]]else fR ((lay op).getD [])
section
variable{E:j3}{w0:j8}{S:b8}{Q:D→b8→Prop}{k4 k5 k6:Nat}{a4 a5 a6:List AV}{op:Int}{b:Bool}
theorem a4a{n:Int}{v:D}(h:o5 v=some [v]):D3 (s0 [(.int .i64 0), .nilFn] [(0,1,(.int .i64 n)),(1,1,v)])=some (.agg [.int .i64 n,v]):=by
 simp[s0,h,j9]
@[simp] theorem b3s(lo hi:Int):o5 (Z7 lo hi)=some [Z7 lo hi]:=(rfl)
@[simp] theorem c0I(w:Int):o5 (a6F w)=some [a6F w]:=(rfl)
theorem a5g{n:Int}{v:D}{K:D→b8→Prop}(h:K (.lst [[.int .i64 n,v]] 2) S):r7 S 2 (m9 2 (List.replicate 1 [(.int .i64 0), .nilFn]) [(0, .agg [.int .i64 n,v])]) 1 K:=by
 simp only[m9,Q8,List.length_cons,List.length_nil,List.replicate,List.set]
 rw[if_pos (by decide)]
 exact F3 rfl h
theorem c9O{n:Int}{v:D}{K:D→b8→Prop}(h:K (.lst [[.int .i64 n,v],[.int .i64 n,v]] 2) S):r7 S 2 (m9 2 (List.replicate 2 [(.int .i64 0), .nilFn]) [(0, .agg [.int .i64 n,v]),(1, .agg [.int .i64 n,v])]) 2 K:=by
 simp only[m9,Q8,List.length_cons,List.length_nil,List.replicate,List.set]
 rw[if_pos (by decide),if_pos (by decide)]
 exact F3 rfl h
theorem bx{k:Nat}{n:Int}{v:D}{acs:List AV}(h:S k=some ⟨2,[[.int .i64 n,v]],acs⟩):i6 S 2 (.ptr k 0)=some (.agg [.int .i64 n,v]):=laP h ⟨by decide,by simp⟩
theorem c7R(h5:S k5=some ⟨2,[[.int .i64 4,Z7 0 4294967295]],a5⟩)(h6:S k6=some ⟨2,[[.int .i64 1,Z7 1 3]],a6⟩)(hQ:i4 E Q (.tup [.lst (fR ((c8F b op).getD [])) 2, .bool (c8F b op).isSome]) S):
  W5 E w0 (i4 E Q) (.int .u8 op) (.ptr k5 0) (.ptr k6 0) (.int .u8 op) (.bool b) S:=by
 refine b2u ?_
 unfold a8e
 unfold c8F at hQ
 have nilq:i4 E Q (.tup [.lst [] 2, .bool true]) S→i4 E Q (.tup [.nilSlc, .bool true]) S:=fun h=>i4.nilT (lp:=[]) (sz:=2) h
 have nilf:i4 E Q (.tup [.lst [] 2, .bool false]) S→i4 E Q (.tup [.nilSlc, .bool false]) S:=fun h=>i4.nilT (lp:=[]) (sz:=2) h
 cases b with
 |true=>rw[cdT,bx h5,oD];exact a5g hQ
 |false=>
  rw[cdF,a7k,oD,cdB]
  simp only[Bool.false_eq_true,if_false]at hQ
  refine⟨fun h=> ?_,fun h=> ?_⟩
  ·rw[if_pos (by simpa using h)]at hQ
   refine D9.use ?_
   rw[a4a (b3s _ _),oD]
   exact a5g hQ
  rw[if_neg (by simpa using h)]at hQ
  rw[a7k,oD,cdB]
  refine⟨fun h=> ?_,fun h=> ?_⟩
  ·rw[if_pos (by simpa using h)]at hQ;rw[bx h6,oD];exact a5g hQ
  rw[if_neg (by simpa using h)]at hQ
  by_cases h1:11≤op
  ·by_cases h2:op≤28
   ·rw[if_pos ⟨h1,h2⟩]at hQ
    simp[h1,h2,bx h6]
    exact a5g hQ
   ·rw[if_neg (by omega)]at hQ
    simp[h1,h2]
    by_cases h3:op≤52
    ·rw[if_pos (by omega)]at hQ
     simp[show(1:Int)≤op by omega,h3]
     exact nilq hQ
    ·rw[if_neg (by omega)]at hQ
     simp[show(1:Int)≤op by omega,h3]
     exact nilf hQ
  ·rw[if_neg (by omega)]at hQ
   simp[h1]
   by_cases h3:1≤op
   ·rw[if_pos (by omega)]at hQ
    simp[h3,show op≤52 by omega]
    exact nilq hQ
   ·rw[if_neg (by omega)]at hQ
    simp[h3]
    exact nilf hQ
theorem d1s(h5:S k5=some ⟨2,[[.int .i64 4,Z7 0 4294967295]],a5⟩)(h6:S k6=some ⟨2,[[.int .i64 1,Z7 1 3]],a6⟩)(hQ:i4 E Q (.tup [.lst (fR ((c8R b op).getD [])) 2, .bool (c8R b op).isSome]) S):
  a1g E w0 (i4 E Q) (.int .u8 op) (.ptr k5 0) (.ptr k6 0) (.int .u8 op) (.bool b) S:=by
 refine b2Q ?_
 unfold a7N
 unfold c8R at hQ
 cases b with
 |true=>
  rw[cdT]
  refine D9.use ?_
  rw[a4a (b3s _ _),oD]
  exact a5g hQ
 |false=>
  rw[cdF,a7k,oD,cdB]
  simp only[Bool.false_eq_true,if_false]at hQ
  refine⟨fun h=> ?_,fun h=> ?_⟩
  ·rw[if_pos (by simpa using h)]at hQ;rw[bx h6,oD,oD];exact c9O hQ
  rw[if_neg (by simpa using h)]at hQ
  simp only[a7k,oD,cdB]
  refine⟨fun h=> ?_,fun h=>⟨fun h'=> ?_,fun h'=> ?_⟩⟩
  ·rw[h];refine c7R h5 h6 ?_;simpa [h]using hQ
  ·rw[h'];refine c7R h5 h6 ?_;simpa [h,h']using hQ
  ·refine c7R h5 h6 ?_;simpa [h,h']using hQ
theorem d2h(h4:S k4=some ⟨2,[[.int .i64 2,Z7 0 65535]],a4⟩)(h5:S k5=some ⟨2,[[.int .i64 4,Z7 0 4294967295]],a5⟩)(h6:S k6=some ⟨2,[[.int .i64 1,Z7 1 3]],a6⟩)(hQ:i4 E Q (.tup [.lst (fR ((c7O b op).getD [])) 2, .bool (c7O b op).isSome]) S):
  a1e E w0 (i4 E Q) (.int .u8 op) (.ptr k4 0) (.ptr k5 0) (.ptr k6 0) (.int .u8 op) (.bool b) S:=by
 refine b2I ?_
 unfold a8h
 unfold c7O at hQ
 cases b with
 |true=>rw[cdT,bx h4,oD,oD];exact c9O hQ
 |false=>
  rw[cdF]
  simp only[Bool.false_eq_true,if_false]at hQ
  simp only[a7k,oD,cdB]
  refine⟨fun h=> ?_,fun h=> ?_⟩
  ·rw[h];refine d1s h5 h6 ?_;simpa [h]using hQ
  ·refine d1s h5 h6 ?_;simpa [h]using hQ
theorem d5f(h4:S k4=some ⟨2,[[.int .i64 2,Z7 0 65535]],a4⟩)(h5:S k5=some ⟨2,[[.int .i64 4,Z7 0 4294967295]],a5⟩)(h6:S k6=some ⟨2,[[.int .i64 1,Z7 1 3]],a6⟩)(hQ:i4 E Q (.tup [.lst (fR ((c6e b op).getD [])) 2, .bool (c6e b op).isSome]) S):
  w4 E w0 (i4 E Q) (.int .u8 op) (.ptr k4 0) (.ptr k5 0) (.ptr k6 0) (.int .u8 op) (.bool b) S:=by
 refine b3A ?_
 unfold a9P
 unfold c6e at hQ
 cases b with
 |true=>rw[cdT,bx h4,oD];exact a5g hQ
 |false=>
  rw[cdF]
  simp only[Bool.false_eq_true,if_false]at hQ
  simp only[a7k,oD,cdB]
  refine⟨fun h=> ?_,fun h=> ?_⟩
  ·rw[h];refine d2h h4 h5 h6 ?_;simpa [h]using hQ
  ·refine d2h h4 h5 h6 ?_;simpa [h]using hQ
theorem b3j:U1 Try.prog E w0 a5a [.int .u8 op] (.tup [.lst (a4i op) 2, .bool (lay op).isSome]):=fun S0=>by
 refine b8R ?_
 unfold b4N
 refine D9.use ?_
 rw[a4a (b3s _ _),oD]
 refine D9.use ?_
 rw[a4a (b3s _ _),oD]
 intro k4 a4 n4 k5 a5 n5
 obtain⟨ne5,n5'⟩:=b8.fresh n5
 refine stP (ds:=[.int .i64 2,Z7 0 65535]) (by rw[b8.set_ne _ _ _ (Ne.symm ne5)];exact b8.set_same _ _ _) (Q8 _) ⟨rfl,by decide,by simp⟩ fun a4=> ?_
 rw[b8.set_in _ (Ne.symm ne5)]
 refine stP (ds:=[.int .i64 4,Z7 0 4294967295]) (b8.set_same _ _ _) (Q8 _) ⟨rfl,by decide,by simp⟩ fun a5=> ?_
 rw[b8.set_set]
 refine D9.use ?_
 rw[a4a (b3s _ _),oD]
 intro k6 a6 n6
 refine stP (ds:=[.int .i64 1,Z7 1 3]) (b8.set_same _ _ _) (Q8 _) ⟨rfl,by decide,by simp⟩ fun a6=> ?_
 rw[b8.set_set]
 obtain⟨ne6,n6'⟩:=b8.fresh n6
 obtain⟨ne6',n6''⟩:=b8.fresh n6'
 generalize hS:((S0.set k4 _).set k5 _).set k6 _=S
 have hle:S0.le S:=by rw[←hS];exact b8.le_set (b8.le_set (b8.le_new n4) n5') n6''
 have h6:S k6=some ⟨2,[[.int .i64 1,Z7 1 3]],a6⟩:=by rw[←hS];exact b8.set_same _ _ _
 have h5:S k5=some ⟨2,[[.int .i64 4,Z7 0 4294967295]],a5⟩:=by rw[←hS,b8.set_ne _ _ _ (Ne.symm ne6)];exact b8.set_same _ _ _
 have h4:S k4=some ⟨2,[[.int .i64 2,Z7 0 65535]],a4⟩:=by rw[←hS,b8.set_ne _ _ _ (Ne.symm ne6'),b8.set_ne _ _ _ (Ne.symm ne5)];exact b8.set_same _ _ _
 have hQ:i4 E (fun d' S'=>d'= .tup [.lst (a4i op) 2, .bool (lay op).isSome]∧S'=S0) (.tup [.lst (a4i op) 2, .bool (lay op).isSome]) S:=i4.less hle i4.pure
 clear hS
 generalize hQ0:(fun d' S'=>d'=D.tup [.lst (a4i op) 2, .bool (lay op).isSome]∧S'=S0)=Q0 at hQ ⊢
 clear hQ0
 simp only[a7k,oD,cdB,beq_iff_eq,beq_eq_false_iff_ne,ne_eq]
 refine⟨fun h=> ?_,fun g1=>⟨fun h=> ?_,fun g2=>⟨fun h=> ?_,fun g3=> ?_⟩⟩⟩
 ·refine a0E.use ?_
  rw[a4a (c0I _),oD]
  refine a5g ?_
  rw[h]at hQ;exact hQ
 ·refine a0E.use ?_
  rw[a4a (c0I _),oD]
  refine a5g ?_
  rw[h]at hQ;exact hQ
 ·refine a0E.use ?_
  rw[a4a (c0I _),oD]
  refine a5g ?_
  rw[h]at hQ;exact hQ
 have e:lay op=c6e (op==6||op==7||op==8||op==50||op==36||op==39||op==40||op==41||op==42||op==43||op==44||op==45) op:=by unfold lay;rw[if_neg g1,if_neg g2,if_neg g3]
 rw[show a4i op=fR ((lay op).getD []) by unfold a4i;rw[if_neg g1,if_neg g2,if_neg g3],e]at hQ
 generalize hb:(op==6||op==7||op==8||op==50||op==36||op==39||op==40||op==41||op==42||op==43||op==44||op==45)=b at hQ
 have fin:∀c:Bool,c=b→w4 E w0 (i4 E Q0) (.int .u8 op) (.ptr k4 0) (.ptr k5 0) (.ptr k6 0) (.int .u8 op) (.bool c) S:=by
  rintro c rfl
  exact d5f h4 h5 h6 hQ
 refine⟨fun h=>fin _ (by rw[←hb];simp[h]),fun h1=>⟨fun h=>fin _ (by rw[←hb];simp[h]),fun h2=>⟨fun h=>fin _ (by rw[←hb];simp[h]),fun h3=>⟨fun h=>fin _ (by rw[←hb];simp[h]),fun h4=>⟨fun h=>fin _ (by rw[←hb];simp[h]),fun h5=>⟨fun h=>fin _ (by rw[←hb];simp[h]),fun h6=>
  ⟨fun h=>fin _ (by rw[←hb];simp[h]),fun h7=>⟨fun h=>fin _ (by rw[←hb];simp[h]),fun h8=>⟨fun h=>fin _ (by rw[←hb];simp[h]),fun h9=>⟨fun h=>fin _ (by rw[←hb];simp[h]),fun h10=>⟨fun h=>fin _ (by rw[←hb];simp[h]),fun h11=>fin _ (by rw[←hb];simp[h1,h2,h3,h4,h5,h6,h7,h8,h9,h10,h11])⟩⟩⟩⟩⟩⟩⟩⟩⟩⟩⟩
end
end
section
theorem c6U(n:Int){i:Nat}(hi:i<8):a3v (n % 18446744073709551616) i=a3v n i:=by
 have h:i=0∨i=1∨i=2∨i=3∨i=4∨i=5∨i=6∨i=7:=by omega
 rcases h with rfl|rfl|rfl|rfl|rfl|rfl|rfl|rfl<;>simp[a3v]<;>omega
theorem b6K(n:Int){s:Nat}(hs:s≤8):G4 (n % 18446744073709551616) s=G4 n s:=by
 unfold G4
 refine List.map_congr_left fun i hi=>c6U n ?_
 have:=List.mem_range.1 hi
 omega
abbrev b5x(S0:b8)(t:D)(bs:List Int)(S:b8):Prop:=Grw S0 t (C6 (bs.map (D.int .u8))) 1 S
def b9e(fv:D)(lo hi:Int):Prop:=fv=Z7 lo hi∨∃w,fv=a6F w∧lo=a3h w∧hi=a3c w
theorem b9e.bet(lo hi:Int):b9e (Z7 lo hi) lo hi:= .inl rfl
theorem b9e.fit(w:Int):b9e (a6F w) (a3h w) (a3c w):= .inr ⟨w,rfl,rfl,rfl⟩
theorem b9e.cells{fv:D}{lo hi:Int}(h:b9e fv lo hi):o5 fv=some [fv]:=by
 rcases h with rfl|⟨w,rfl,_⟩<;>rfl
theorem d6x:a8p Try.prog a0e=true:=by kernel_rfl
theorem d6E:a8p Try.prog a2s=true:=by kernel_rfl
def c2g(row:List D)(f:Fld):Prop:=∃fv,row=[.int .i64 (f.size:Int),fv]∧b9e fv f.lo f.hi
theorem c6v{op:Int}{i:Nat}{f:Fld}(h:((lay op).getD [])[i]? =some f):∃row,(a4i op)[i]? =some row∧c2g row f:=by
 unfold a4i
 by_cases h1:op=1
 ·have e:lay op=some [⟨1,a3h 1,a3c 1⟩]:=by unfold lay;rw[if_pos h1]
  rw[e]at h
  rw[if_pos h1]
  cases i with
  |zero=>cases h;exact⟨_,rfl,_,rfl, .fit 1⟩
  |succ i=>cases h
 rw[if_neg h1]
 by_cases h2:op=2
 ·have e:lay op=some [⟨4,a3h 2,a3c 2⟩]:=by unfold lay;rw[if_neg h1,if_pos h2]
  rw[e]at h
  rw[if_pos h2]
  cases i with
  |zero=>cases h;exact⟨_,rfl,_,rfl, .fit 2⟩
  |succ i=>cases h
 rw[if_neg h2]
 by_cases h3:op=3
 ·have e:lay op=some [⟨8,a3h 3,a3c 3⟩]:=by unfold lay;rw[if_neg h1,if_neg h2,if_pos h3]
  rw[e]at h
  rw[if_pos h3]
  cases i with
  |zero=>cases h;exact⟨_,rfl,_,rfl, .fit 3⟩
  |succ i=>cases h
 rw[if_neg h3]
 exact⟨_,by unfold fR;rw[List.getElem?_map,h];rfl,_,rfl, .bet _ _⟩
theorem a5b{op:Int}:(a4i op).length=((lay op).getD []).length:=by
 unfold a4i
 by_cases h1:op=1
 ·rw[if_pos h1];unfold lay;rw[if_pos h1];rfl
 rw[if_neg h1]
 by_cases h2:op=2
 ·rw[if_pos h2];unfold lay;rw[if_neg h1,if_pos h2];rfl
 rw[if_neg h2]
 by_cases h3:op=3
 ·rw[if_pos h3];unfold lay;rw[if_neg h1,if_neg h2,if_pos h3];rfl
 rw[if_neg h3,fR,List.length_map]
section
variable{E:j3}{w0:j8}{S0 S:b8}{t:D}{bs ms:List Int}
theorem c1a{fv:D}{lo hi n:Int}(h:b9e fv lo hi)(hn:I64 n){K:D→b8→Prop}(hK:K (.bool (decide (lo≤n∧n≤hi))) S):a1S Try.prog (l8 Try.prog E w0) S fv [.int .i64 n] K:=by
 rcases h with rfl|⟨w,rfl,rfl,rfl⟩
 ·simp only[Z7,a1S,b1V,d6x,if_true]
  exact b6J.use hK
 ·simp only[a6F,a1S,b1V,d6E,if_true]
  exact(c2r hn).use hK
theorem b3N(h:b5x S0 t bs S)(hl:bs.length+ms.length<2^44):l8 Try.prog E w0 a7V [t,bD ms] S fun v S'=>b5x S0 v (bs++ms) S':=by
 refine c4Y ?_
 unfold c3p
 refine h.push (b9z _ _) ⟨by decide,by simp only[b0v,List.length_map];omega⟩ fun t' S' h'=>i4.here ?_
 unfold b5x
 rw[List.map_append,a4r]
 exact h'
theorem a3M(h:b5x S0 t bs S){row:List D}{f:Fld}(hf:c2g row f){n:Int}(hn:I64 n)(h1:1≤f.size)(h8:f.size≤8)(hl:bs.length<2^40):l8 Try.prog E w0 a1h [t, .agg row, .int .i64 n] S fun v S'=>
  ∃t',v= .tup [t', .bool (f.may n)]∧b5x S0 t' (bs++G4 n f.size) S':=by
 obtain⟨fv,rfl,hm⟩:=hf
 refine b8E ?_
 unfold b6r
 rw[Q8,oD]
 intro k acs hk
 rw[cvI,oD,D8,oD,ldP (b8.set_same _ _ _),List.getElem?_cons_zero,oD,D8,oD,ldP (b8.set_same _ _ _),show([D.int .i64 (f.size:Int),fv]:List D)[0+1]? =some fv from rfl,oD]
 refine(a3K h1 h8).use ⟨fwR _ _, ?_⟩
 rw[b0M,b6K n h8]
 have hg:=h.under (o:=⟨2,[[.int .i64 (f.size:Int),fv]],acs⟩) hk
 refine(b3N hg (by rw[u4];omega)).use fun v S' hg'=> ?_
 have hb:S' k=some ⟨2,[[.int .i64 (f.size:Int),fv]],acs⟩:=hg'.le _ _ (b8.set_same _ _ _)
 have hk0:S0 k=none:=by
  cases e:S0 k with
  |none=>rfl
  |some o=>rw[h.le _ _ e]at hk;cases hk
 refine⟨by rw[fwP,hb];exact(b8.set_same _ _ _).symm,c1a hm hn ?_⟩
 obtain⟨S2,hle,hg2⟩:=hg'.drop hk0
 exact i4.less hle (i4.here ⟨v,rfl,hg2⟩)
end
end
end Go.Proofs.Ytdkidgkiplcggaa.d
end
section
namespace Go.Am
section
def WkR:List (List D)→List (List D)→Prop
 | [],[]=>True
 |r::rs,q::qs=>(WkL r q∧r.length=q.length)∧WkR rs qs
 |_,_=>False
theorem WkR.length:∀ {rs qs:List (List D)},WkR rs qs→rs.length=qs.length
 | [],[],_=>rfl
 |r::rs,q::qs,h=>by rw[List.length_cons,List.length_cons,WkR.length h.2]
 | [],_::_,h=>h.elim
 |_::_,[],h=>h.elim
theorem WkR.row:∀ {rs qs:List (List D)} {sz:Nat},WkR rs qs→(∀r∈rs,r.length=sz)→∀q∈qs,q.length=sz
 | [],[],sz,_,_=>fun q hq=>by cases hq
 |r::rs,q::qs,sz,h,hr=>fun y hy=>by
  rcases List.mem_cons.1 hy with e|hy
  ·subst e;rw[←h.1.2];exact hr r List.mem_cons_self
  ·exact WkR.row h.2 (fun r hr'=>hr r (List.mem_cons_of_mem _ hr')) y hy
 | [],_::_,_,h,_=>h.elim
 |_::_,[],_,h,_=>h.elim
theorem WkR.ok{E:j3}{R:Fz}:∀ {rs qs:List (List D)} {vs:List AV},WkR rs qs→a1y E R rs vs→a1y E R qs vs
 | [],[],vs,_,h=>h
 |r::rs,q::qs,vs,w,h=>by
  simp only[a1y]at h ⊢
  obtain⟨a,b,e,h1,h2⟩:=h
  exact⟨a,b,e,w.1.1.ok h1,WkR.ok w.2 h2⟩
 | [],_::_,_,w,_=>w.elim
 |_::_,[],_,w,_=>w.elim
theorem Wk.lst{rs qs:List (List D)}(w:WkR rs qs)(sz:Nat):Wk (.lst rs sz) (.lst qs sz):=fun E R v h=>by
 simp only[Rp]at h ⊢
 rcases h with ⟨rfl,rfl⟩|⟨o,j,cap,ex,z,e1,e2,e3,e4,e5⟩
 ·cases qs with
  |nil=>exact .inl ⟨rfl,rfl⟩
  |cons=>exact w.elim
 ·refine .inr ⟨o,j,cap,ex,z,by rw[←w.length];exact e1,e2,by rw[←w.length];exact e3,w.row e4, ?_⟩
  rcases e5 with rfl|⟨all,f1,f2,f3⟩
  ·cases qs with
   |nil=>exact .inl rfl
   |cons=>exact w.elim
  ·exact .inr ⟨all,f1,by rw[←w.length];exact w.ok f2,by rw[←w.length];exact f3⟩
theorem Wk.trans{a b c:D}(h:Wk a b)(h':Wk b c):Wk a c:=fun E R v x=>h' E R v (h E R v x)
theorem WkR.map{α:Type}{f g:α→List D}(h:∀a,WkL (f a) (g a)∧(f a).length=(g a).length):∀(l:List α),WkR (l.map f) (l.map g)
 | []=>trivial
 |a::l=>⟨h a,WkR.map h l⟩
inductive Lst (rows:List (List D)) (sz:Nat):D→Prop where
 |lst:Lst rows sz (.lst rows sz)
 |ext (more:List (List D)):Lst rows sz (.ext rows more sz)
section
variable{rows:List (List D)}{sz:Nat}{d:D}
theorem Lst.len(h:Lst rows sz d):m8 d=some (.int .i64 rows.length):=by cases h<;>rfl
theorem Lst.at(h:Lst rows sz d){i:Nat}{row:List D}(hr:rows[i]? =some row):o7 sz d (.int .i64 (i:Int))=some (.elt row 0):=by
 cases h
 ·exact b3J hr
 ·exact d6A hr
theorem Lst.rowsS(h:Lst rows sz d)(S:b8):Am.rowsS S sz d=some rows:=by
 cases h<;>simp[Am.rowsS,K3]
theorem Lst.wk(h:Lst rows sz d):Wk d (.lst rows sz):=by
 cases h
 ·exact Wk.refl _
 ·exact Wk.ext _ _ _
theorem Lst.cells(h:Lst rows sz d):o5 d=some [d]:=by cases h<;>rfl
end
theorem d4Q{n cap:Nat}(h:n≤cap):E1 (.int .i64 (n:Int)) cap=some n:=by
 simp only[E1]
 rw[if_pos (by omega),Int.toNat_natCast]
theorem Grw.upd{S0 S:b8}{t:D}{rows:List (List D)}{sz k:Nat}{o o':D2}(h:Grw S0 t rows sz S)(hk:S0 k=some o'):Grw (S0.set k o) t rows sz (S.set k o):=by
 rcases h with ⟨rfl,rfl,rfl⟩|⟨l,acs,h,rfl,rfl⟩
 ·exact .inl ⟨rfl,rfl,rfl⟩
 ·have hne:l≠k:=fun e=>by rw[e,hk]at h;cases h
  refine .inr ⟨l,acs, ?_,rfl,b8.set_comm _ hne _ _⟩
  rw[b8.set_ne _ _ _ hne];exact h
theorem Grw.last{S0 S:b8}{t:D}{rows:List (List D)}{sz bytes:Nat}(h:Grw S0 t rows sz S){v:D}{news:List (List D)}(hv:rowsS S sz v=some news)(hn:news≠[])(hb:0<bytes∧(2*(rows.length+news.length)+768)*bytes≤2^47){K:D→b8→Prop}
  (hK:K (.lst (rows++news) sz) S0):u9 S sz bytes t v K:=by
 simp only[u9,hv]
 rcases h with ⟨rfl,rfl,rfl⟩|⟨k,acs,h,rfl,rfl⟩
 ·simp only[a0w]
  rw[if_neg hn]
  refine⟨⟨hb.1,by simpa using hb.2⟩, .inl ?_⟩
  rw[List.take_of_length_le (Nat.le_refl _)]
  simpa using hK
 ·simp only[a0w]
  rw[if_neg hn,b8.set_same]
  simp only
  rw[if_pos ⟨by trivial,by trivial,by omega⟩]
  refine⟨hb, .inl ?_⟩
  rw[b8.erase_set _ _ _ h,List.take_of_length_le (by simp)]
  simpa using hK
end
section
theorem b8.set_self{S:b8}{k:Nat}{o:D2}(h:S k=some o):S.set k o=S:=by
 funext j;unfold b8.set
 by_cases e:j=k
 ·subst e;rw[if_pos rfl,h]
 ·rw[if_neg e]
theorem b8.ne_of{S:b8}{k l:Nat}{o:D2}(h:S k=some o)(n:S l=Option.none):k≠l:=fun e=>by rw[e,n]at h;cases h
theorem b8.none_of{S S':b8}(h:S.le S'){k:Nat}(hk:S' k=Option.none):S k=Option.none:=by
 cases e:S k with
 |none=>rfl
 |some o=>rw[h _ _ e]at hk;cases hk
def u7(S:b8)(k sz:Nat)(c:List D):Prop:=∃a,S k=some ⟨sz,[c],a⟩
section
variable{S S':b8}{k l sz sz':Nat}{c c':List D}
theorem u7.new{a:List AV}:u7 (S.set k ⟨sz,[c],a⟩) k sz c:=⟨a,b8.set_same _ _ _⟩
theorem u7.set_ne(h:u7 S k sz c){o:D2}(hn:k≠l):u7 (S.set l o) k sz c:=by
 obtain⟨a,h⟩:=h;exact⟨a,by rw[b8.set_ne _ _ _ hn];exact h⟩
theorem u7.none(h:u7 S k sz c)(hn:S l=Option.none):k≠l:=by
 obtain⟨a,h⟩:=h;exact b8.ne_of h hn
theorem u7.set(h:u7 S k sz c){o:D2}(hn:S l=Option.none):u7 (S.set l o) k sz c:=h.set_ne (h.none hn)
theorem u7.of(h:u7 S k sz c)(e:S' k=S k):u7 S' k sz c:=by
 obtain⟨a,h⟩:=h;exact⟨a,by rw[e];exact h⟩
theorem u7.le(h:u7 S k sz c)(hl:S.le S'):u7 S' k sz c:=by
 obtain⟨a,h⟩:=h;exact⟨a,hl _ _ h⟩
theorem u7.ne(h:u7 S k sz c)(h':u7 S l sz' c')(hs:sz≠sz'):k≠l:=fun e=>by
 obtain⟨a,h⟩:=h;obtain⟨b,h'⟩:=h';subst e;rw[h]at h';cases h';exact hs rfl
theorem u7.there(h:u7 S k sz c):S k≠Option.none:=by
 obtain⟨a,h⟩:=h;rw[h];simp
theorem u7.ld(h:u7 S k sz c)(i:Nat):c9 S (.ptr k i)=c[i]? :=by obtain⟨a,h⟩:=h;exact ldP h
theorem u7.la(h:u7 S k sz c){i n:Nat}(hn:0<n∧i+n≤c.length):i6 S n (.ptr k i)=some (.agg ((c.drop i).take n)):=by obtain⟨a,h⟩:=h;exact laP h hn
theorem u7.all(h:u7 S k sz c){n:Nat}(hn:0<n)(hl:n=c.length):i6 S n (.ptr k 0)=Option.some (.agg c):=by
 rw[h.la ⟨hn,by omega⟩,List.drop_zero,List.take_of_length_le (by omega)]
theorem u7.st(h:u7 S k sz c){i n:Nat}{v:D}{ds:List D}{K:D→b8→Prop}(hv:o5 v=Option.some ds)(hn:ds.length=n∧0<n∧i+n≤c.length)(hK:∀a,K b9 (S.set k ⟨sz,[j9 c i ds],a⟩)):i7 S n (.ptr k i) v K:=by
 obtain⟨a,h⟩:=h;exact stP h hv hn hK
end
def GrA(S0:b8)(av:List Nat)(t:D)(rows:List (List D))(sz:Nat)(S:b8):Prop:=
 (t= .nilSlc∧rows=[])∨∃k acs,S0 k=Option.none∧k ∉ av∧t= .raw k 0 rows.length rows.length false sz∧S k=some ⟨sz,rows,acs⟩
section
variable{S0 S:b8}{av:List Nat}{t:D}{rows:List (List D)}{sz:Nat}
theorem GrA.nil:GrA S0 av .nilSlc [] sz S:= .inl ⟨rfl,rfl⟩
theorem GrA.of(h:GrA S0 av t rows sz S){S':b8}(e:∀k o,k ∉ av→S k=some o→S' k=some o):GrA S0 av t rows sz S':=by
 rcases h with h|⟨k,acs,h0,h1,h2,h3⟩
 ·exact .inl h
 ·exact .inr ⟨k,acs,h0,h1,h2,e _ _ h1 h3⟩
theorem GrA.set(h:GrA S0 av t rows sz S){l:Nat}{o:D2}(hl:l∈av∨S l=Option.none):GrA S0 av t rows sz (S.set l o):=h.of fun k o' hk e=>by
 rw[b8.set_ne]
 ·exact e
 ·rintro rfl
  rcases hl with hl|hl
  ·exact hk hl
  ·rw[hl]at e;cases e
theorem GrA.le(h:GrA S0 av t rows sz S){S':b8}(hl:S.le S'):GrA S0 av t rows sz S':=h.of fun k o _ e=>hl _ _ e
theorem GrA.push(h:GrA S0 av t rows sz S)(hle:S0.le S)(hav:∀j∈av,S j≠Option.none){bytes:Nat}{v:D}{news:List (List D)}(hv:rowsS S sz v=some news)(hn:news≠[])(hb:0<bytes∧(2*(rows.length+news.length)+768)*bytes≤2^47){K:D→b8→Prop}
  (hK:∀t' S',S0.le S'→(∀j∈av,S' j=S j)→GrA S0 av t' (rows++news) sz S'→K t' S'):u9 S sz bytes t v K:=by
 simp only[u9,hv]
 rcases h with ⟨rfl,rfl⟩|⟨k,acs,h0,h1,rfl,h3⟩
 ·simp only[a0w]
  rw[if_neg hn]
  refine⟨⟨hb.1,by simpa using hb.2⟩, .inr fun k acs hk=>hK _ _ (b8.le_set hle (b8.none_of hle hk)) (fun j hj=>b8.set_ne _ _ _ fun e=>hav j hj (by rw[e];exact hk)) (.inr ⟨k,acs,b8.none_of hle hk,fun hm=>hav k hm hk,by simp,by simpa using b8.set_same _ _ _⟩)⟩
 ·simp only[a0w]
  rw[if_neg hn,h3]
  simp only
  rw[if_pos ⟨by trivial,by trivial,by omega⟩]
  have hke:∀j∈av,(S.erase k) j=S j:=fun j hj=>b8.erase_ne _ _ fun e=>h1 (e▸hj)
  refine⟨hb, .inr fun k' acs' hk'=> ?_⟩
  have hle':=b8.le_erase hle h0
  refine hK _ _ (b8.le_set hle' (b8.none_of hle' hk')) (fun j hj=> ?_) (.inr ⟨k',acs',b8.none_of hle' hk',fun hm=>hav k' hm (by rw[←hke k' hm];exact hk'),by simp, ?_⟩)
  ·rw[b8.set_ne,hke j hj]
   rintro rfl
   exact hav j hj (by rw[←hke j hj];exact hk')
  ·rw[b8.set_same];simp
theorem GrA.grw(h:GrA S0 av t rows sz S)(hle:S0.le S):∃S',S'.le S∧Grw S0 t rows sz S':=by
 rcases h with ⟨rfl,rfl⟩|⟨k,acs,h0,h1,rfl,h3⟩
 ·exact⟨S0,hle, .inl ⟨rfl,rfl,rfl⟩⟩
 ·refine⟨S0.set k ⟨sz,rows,acs⟩,fun j o e=> ?_, .inr ⟨k,acs,h0,rfl,rfl⟩⟩
  unfold b8.set at e
  split at e
  ·rename_i hj;subst hj;cases e;exact h3
  ·exact hle _ _ e
theorem GrA.len(h:GrA S0 av t rows sz S):m8 t=some (.int .i64 rows.length):=by
 rcases h with ⟨rfl,rfl⟩|⟨k,acs,_,_,rfl,_⟩<;>rfl
theorem GrA.cells(h:GrA S0 av t rows sz S):o5 t=some [t]:=by
 rcases h with ⟨rfl,rfl⟩|⟨k,acs,_,_,rfl,_⟩<;>rfl
end
theorem l8.fin{P:Program}{E:j3}{w0:j8}{f:FuncId}{ds:List D}{S:b8}{Q Q':D→b8→Prop}(h:l8 P E w0 f ds S Q)(hq:∀d S',Q d S'→i4 E Q' d S'):l8 P E w0 f ds S Q':=fun R H avs hF hC ha=>by
 refine c1P _ _ _ _ _ (h R H avs hF hC ha) fun v H' ⟨F',R',S',d,a,b,c,e⟩=> ?_
 obtain⟨R2,S2,d2,a2,b2,c2,e2⟩:=hq _ _ e R' H' v b c
 exact⟨F',R2,S2,d2,Fz.le_trans a a2,b2,c2,e2⟩
theorem i4.grwT{E:j3}{Q:D→b8→Prop}{S0 S:b8}{t:D}{rows:List (List D)}{sz:Nat}(h:Grw S0 t rows sz S){pre post:List D}(hQ:i4 E Q (.tup (pre++ .lst rows sz::post)) S0):i4 E Q (.tup (pre++t::post)) S:=by
 rcases h with ⟨rfl,rfl,rfl⟩|⟨k,acs,h0,rfl,rfl⟩
 ·exact i4.nilT hQ
 ·refine i4.freezeT (b8.set_same _ _ _) rfl (by simp) (Nat.le_refl _) ?_
  rw[b8.erase_set _ _ _ h0]
  simpa using hQ
end
end Go.Am
end
