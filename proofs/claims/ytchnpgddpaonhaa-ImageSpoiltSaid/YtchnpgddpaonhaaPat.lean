/-
  ImageSpoiltSaid: part Pat of its proof.
-/
import Derived.Test.YtchnpgddpaonhaaRows
import Derived.Test.YtchnpgddpaonhaaPaq
import Derived.KernelRfl
import Derived.Test.YtchnpgddpaonhaaPas
set_option linter.unusedVariables false
set_option linter.unusedSimpArgs false
set_option maxRecDepth 100000
section
open Go.Proofs Go Go.Am
namespace Go.Proofs.Ytchnpgddpaonhaa.d
def K2:List (Nat×List Nat):=[]
def K1:List (Nat×List Nat):=[(89,[0,4,5,6,13,29]),(101,[0,4,5,6,13,44]),(113,[0,5,6,13,50]),(137,[0,5,6,13,61])]
def K5:List (Nat×Arr):=[]
noncomputable def b6L:Code:=(l9 [1,1,1,0,1,0,1,1,1,1,1,1,1,1,1,1,1,1,1,1,1] (Try.f64.body.getD .skip))
def b6o(E:m6)(w0:o3)(Q:D→b7→Prop):r4→List D→b7→Prop:=
 (t7 0 (I5 Try.prog E w0 K2 K1 K5 (l9 [1,1,1,1] (Try.f64.body.getD .skip)) (I4 Try.prog Try.f64 Q)))
def a8e(E:m6)(w0:o3)(Q:D→b7→Prop)(x0 x5 x6 x13 x61:D)(S:b7):Prop:=
 i9 x61
 (a9 (j0 S 2 x5) fun v56=>
 u6 S 2 (p9 2 (List.replicate 1 [(.int .i64 0), .nilFn]) [(0,v56)]) 1 fun v57 S58=>
 Q (.tup [v57,(.bool true)]) S58)
 (a9 (d8 .eql x13 (.int .u8 52)) fun v59=>
 i9 v59
 (o4 Try.prog E w0 u5 [(.int .i64 0),(.int .i64 255)] S fun v60 S61=>
 a9 (E6 (w6 [(.int .i64 0), .nilFn] [(0,1,(.int .i64 1)),(1,1,v60)])) fun v62=>
 u6 S61 2 (p9 2 (List.replicate 1 [(.int .i64 0), .nilFn]) [(0,v62)]) 1 fun v63 S64=>
 Q (.tup [v63,(.bool true)]) S64)
 (a9 (d8 .eql x13 (.int .u8 49)) fun v65=>
 i9 v65
 (a9 (j0 S 2 x6) fun v66=>
 u6 S 2 (p9 2 (List.replicate 1 [(.int .i64 0), .nilFn]) [(0,v66)]) 1 fun v67 S68=>
 Q (.tup [v67,(.bool true)]) S68)
 (a9 (d8 .geq x0 (.int .u8 11)) fun v69=>
 a9 (j9 (d6 v69 true) (some x0)) fun v70=>
 a9 (j9 (d6 v69 true) (d8 .leq v70 (.int .u8 28))) fun v71=>
 a9 (z2 v69 v71 (.bool false)) fun v72=>
 i9 v72
 (a9 (j0 S 2 x6) fun v73=>
 u6 S 2 (p9 2 (List.replicate 1 [(.int .i64 0), .nilFn]) [(0,v73)]) 1 fun v74 S75=>
 Q (.tup [v74,(.bool true)]) S75)
 (a9 (d8 .geq x0 (.int .u8 1)) fun v76=>
 a9 (j9 (d6 v76 true) (some x0)) fun v77=>
 a9 (j9 (d6 v76 true) (d8 .leq v77 (.int .u8 52))) fun v78=>
 a9 (z2 v76 v78 (.bool false)) fun v79=>
 Q (.tup [.nilSlc,v79]) S))))
def X5(E:m6)(w0:o3)(Q:D→b7→Prop)(x0 x5 x6 x13 x61:D)(S:b7):Prop:=k9 Try.prog E w0 b6L (n9 90 [0,5,6,13,61] [x0,x5,x6,x13,x61]) S (b6o E w0 Q)
theorem b2P{E:m6}{w0:o3}{Q:D→b7→Prop}{x0 x5 x6 x13 x61:D}{S:b7}(h:a8e E w0 Q x0 x5 x6 x13 x61 S):X5 E w0 Q x0 x5 x6 x13 x61 S:=l8 K2 K1 K5 o9 (by kernel_rfl) h
noncomputable def b6H:Code:=(l9 [1,1,1,0,1,0,1,1,1,1,1,1,1,1,1,1,1] (Try.f64.body.getD .skip))
def b5m(E:m6)(w0:o3)(Q:D→b7→Prop):r4→List D→b7→Prop:=
 (t7 0 (I5 Try.prog E w0 K2 K1 K5 (l9 [1,1,1,1] (Try.f64.body.getD .skip)) (I4 Try.prog Try.f64 Q)))
def a8f(E:m6)(w0:o3)(Q:D→b7→Prop)(x0 x5 x6 x13 x50:D)(S:b7):Prop:=
 i9 x50
 (o4 Try.prog E w0 u5 [(.int .i64 1),(.int .i64 5)] S fun v46 S47=>
 a9 (E6 (w6 [(.int .i64 0), .nilFn] [(0,1,(.int .i64 1)),(1,1,v46)])) fun v48=>
 u6 S47 2 (p9 2 (List.replicate 1 [(.int .i64 0), .nilFn]) [(0,v48)]) 1 fun v49 S50=>
 Q (.tup [v49,(.bool true)]) S50)
 (a9 (d8 .eql x13 (.int .u8 29)) fun v51=>
 i9 v51
 (a9 (j0 S 2 x6) fun v52=>
 a9 (j0 S 2 x6) fun v53=>
 u6 S 2 (p9 2 (List.replicate 2 [(.int .i64 0), .nilFn]) [(0,v52),(1,v53)]) 2 fun v54 S55=>
 Q (.tup [v54,(.bool true)]) S55)
 (a9 (d8 .eql x13 (.int .u8 46)) fun v80=>
 i9 v80
 (X5 E w0 Q x0 x5 x6 x13 v80 S)
 (a9 (d8 .eql x13 (.int .u8 47)) fun v81=>
 i9 v81
 (X5 E w0 Q x0 x5 x6 x13 v81 S)
 (a9 (d8 .eql x13 (.int .u8 48)) fun v82=>
 X5 E w0 Q x0 x5 x6 x13 v82 S))))
def a1w(E:m6)(w0:o3)(Q:D→b7→Prop)(x0 x5 x6 x13 x50:D)(S:b7):Prop:=k9 Try.prog E w0 b6H (n9 90 [0,5,6,13,50] [x0,x5,x6,x13,x50]) S (b5m E w0 Q)
theorem b3b{E:m6}{w0:o3}{Q:D→b7→Prop}{x0 x5 x6 x13 x50:D}{S:b7}(h:a8f E w0 Q x0 x5 x6 x13 x50 S):a1w E w0 Q x0 x5 x6 x13 x50 S:=l8 K2 K1 K5 o9 (by kernel_rfl) h
noncomputable def b7u:Code:=(l9 [1,1,1,0,1,0,1,1,1,1,1,1,1,1,1] (Try.f64.body.getD .skip))
def b5Z(E:m6)(w0:o3)(Q:D→b7→Prop):r4→List D→b7→Prop:=
 (t7 0 (I5 Try.prog E w0 K2 K1 K5 (l9 [1,1,1,1] (Try.f64.body.getD .skip)) (I4 Try.prog Try.f64 Q)))
def a7L(E:m6)(w0:o3)(Q:D→b7→Prop)(x0 x4 x5 x6 x13 x44:D)(S:b7):Prop:=
 i9 x44
 (a9 (j0 S 2 x4) fun v42=>
 a9 (j0 S 2 x4) fun v43=>
 u6 S 2 (p9 2 (List.replicate 2 [(.int .i64 0), .nilFn]) [(0,v42),(1,v43)]) 2 fun v44 S45=>
 Q (.tup [v44,(.bool true)]) S45)
 (a9 (d8 .eql x13 (.int .u8 23)) fun v83=>
 i9 v83
 (a1w E w0 Q x0 x5 x6 x13 v83 S)
 (a9 (d8 .eql x13 (.int .u8 24)) fun v84=>
 a1w E w0 Q x0 x5 x6 x13 v84 S))
def a1x(E:m6)(w0:o3)(Q:D→b7→Prop)(x0 x4 x5 x6 x13 x44:D)(S:b7):Prop:=k9 Try.prog E w0 b7u (n9 90 [0,4,5,6,13,44] [x0,x4,x5,x6,x13,x44]) S (b5Z E w0 Q)
theorem b2Y{E:m6}{w0:o3}{Q:D→b7→Prop}{x0 x4 x5 x6 x13 x44:D}{S:b7}(h:a7L E w0 Q x0 x4 x5 x6 x13 x44 S):a1x E w0 Q x0 x4 x5 x6 x13 x44 S:=l8 K2 K1 K5 o9 (by kernel_rfl) h
noncomputable def b8L:Code:=(l9 [1,1,1,0,1,0,1,1,1,1,1,1,1] (Try.f64.body.getD .skip))
def b7j(E:m6)(w0:o3)(Q:D→b7→Prop):r4→List D→b7→Prop:=
 (t7 0 (I5 Try.prog E w0 K2 K1 K5 (l9 [1,1,1,1] (Try.f64.body.getD .skip)) (I4 Try.prog Try.f64 Q)))
def b0w(E:m6)(w0:o3)(Q:D→b7→Prop)(x0 x4 x5 x6 x13 x29:D)(S:b7):Prop:=
 i9 x29
 (a9 (j0 S 2 x4) fun v39=>
 u6 S 2 (p9 2 (List.replicate 1 [(.int .i64 0), .nilFn]) [(0,v39)]) 1 fun v40 S41=>
 Q (.tup [v40,(.bool true)]) S41)
 (a9 (d8 .eql x13 (.int .u8 37)) fun v85=>
 i9 v85
 (a1x E w0 Q x0 x4 x5 x6 x13 v85 S)
 (a9 (d8 .eql x13 (.int .u8 38)) fun v86=>
 a1x E w0 Q x0 x4 x5 x6 x13 v86 S))
def z7(E:m6)(w0:o3)(Q:D→b7→Prop)(x0 x4 x5 x6 x13 x29:D)(S:b7):Prop:=k9 Try.prog E w0 b8L (n9 90 [0,4,5,6,13,29] [x0,x4,x5,x6,x13,x29]) S (b7j E w0 Q)
theorem b4m{E:m6}{w0:o3}{Q:D→b7→Prop}{x0 x4 x5 x6 x13 x29:D}{S:b7}(h:b0w E w0 Q x0 x4 x5 x6 x13 x29 S):z7 E w0 Q x0 x4 x5 x6 x13 x29 S:=l8 K2 K1 K5 o9 (by kernel_rfl) h
def b5x(E:m6)(w0:o3)(Q:D→b7→Prop)(a0:D)(S:b7):Prop:=
 o4 Try.prog E w0 u5 [(.int .i64 0),(.int .i64 65535)] S fun v0 S1=>
 a9 (E6 (w6 [(.int .i64 0), .nilFn] [(0,1,(.int .i64 2)),(1,1,v0)])) fun v2=>
 o4 Try.prog E w0 u5 [(.int .i64 0),(.int .i64 4294967295)] S1 fun v3 S4=>
 a9 (E6 (w6 [(.int .i64 0), .nilFn] [(0,1,(.int .i64 4)),(1,1,v3)])) fun v5=>
 o6 S4 [(.int .i64 0), .nilFn] fun v6 S7=>
 o6 S7 [(.int .i64 0), .nilFn] fun v8 S9=>
 f0 S9 2 v6 v2 fun v10 S11=>
 f0 S11 2 v8 v5 fun v12 S13=>
 o4 Try.prog E w0 u5 [(.int .i64 1),(.int .i64 3)] S13 fun v14 S15=>
 a9 (E6 (w6 [(.int .i64 0), .nilFn] [(0,1,(.int .i64 1)),(1,1,v14)])) fun v16=>
 o6 S15 [(.int .i64 0), .nilFn] fun v17 S18=>
 f0 S18 2 v17 v16 fun v19 S20=>
 a9 (d8 .eql a0 (.int .u8 1)) fun v21=>
 i9 v21
 (o4 Try.prog E w0 E0 [(.int .u8 1)] S20 fun v22 S23=>
 a9 (E6 (w6 [(.int .i64 0), .nilFn] [(0,1,(.int .i64 1)),(1,1,v22)])) fun v24=>
 u6 S23 2 (p9 2 (List.replicate 1 [(.int .i64 0), .nilFn]) [(0,v24)]) 1 fun v25 S26=>
 Q (.tup [v25,(.bool true)]) S26)
 (a9 (d8 .eql a0 (.int .u8 2)) fun v27=>
 i9 v27
 (o4 Try.prog E w0 E0 [(.int .u8 2)] S20 fun v28 S29=>
 a9 (E6 (w6 [(.int .i64 0), .nilFn] [(0,1,(.int .i64 4)),(1,1,v28)])) fun v30=>
 u6 S29 2 (p9 2 (List.replicate 1 [(.int .i64 0), .nilFn]) [(0,v30)]) 1 fun v31 S32=>
 Q (.tup [v31,(.bool true)]) S32)
 (a9 (d8 .eql a0 (.int .u8 3)) fun v33=>
 i9 v33
 (o4 Try.prog E w0 E0 [(.int .u8 3)] S20 fun v34 S35=>
 a9 (E6 (w6 [(.int .i64 0), .nilFn] [(0,1,(.int .i64 8)),(1,1,v34)])) fun v36=>
 u6 S35 2 (p9 2 (List.replicate 1 [(.int .i64 0), .nilFn]) [(0,v36)]) 1 fun v37 S38=>
 Q (.tup [v37,(.bool true)]) S38)
 (a9 (d8 .eql a0 (.int .u8 6)) fun v87=>
 i9 v87
 (z7 E w0 Q a0 v6 v8 v17 a0 v87 S20)
 (a9 (d8 .eql a0 (.int .u8 7)) fun v88=>
 i9 v88
 (z7 E w0 Q a0 v6 v8 v17 a0 v88 S20)
 (a9 (d8 .eql a0 (.int .u8 8)) fun v89=>
 i9 v89
 (z7 E w0 Q a0 v6 v8 v17 a0 v89 S20)
 (a9 (d8 .eql a0 (.int .u8 50)) fun v90=>
 i9 v90
 (z7 E w0 Q a0 v6 v8 v17 a0 v90 S20)
 (a9 (d8 .eql a0 (.int .u8 36)) fun v91=>
 i9 v91
 (z7 E w0 Q a0 v6 v8 v17 a0 v91 S20)
 (a9 (d8 .eql a0 (.int .u8 39)) fun v92=>
 i9 v92
 (z7 E w0 Q a0 v6 v8 v17 a0 v92 S20)
 (a9 (d8 .eql a0 (.int .u8 40)) fun v93=>
 i9 v93
 (z7 E w0 Q a0 v6 v8 v17 a0 v93 S20)
 (a9 (d8 .eql a0 (.int .u8 41)) fun v94=>
 i9 v94
 (z7 E w0 Q a0 v6 v8 v17 a0 v94 S20)
 (a9 (d8 .eql a0 (.int .u8 42)) fun v95=>
 i9 v95
 (z7 E w0 Q a0 v6 v8 v17 a0 v95 S20)
 (a9 (d8 .eql a0 (.int .u8 43)) fun v96=>
 i9 v96
 (z7 E w0 Q a0 v6 v8 v17 a0 v96 S20)
 (a9 (d8 .eql a0 (.int .u8 44)) fun v97=>
 i9 v97
 (z7 E w0 Q a0 v6 v8 v17 a0 v97 S20)
 (a9 (d8 .eql a0 (.int .u8 45)) fun v98=>
 z7 E w0 Q a0 v6 v8 v17 a0 v98 S20))))))))))))))
theorem b8i{E:m6}{w0:o3}{Q:D→b7→Prop}{a0:D}{S:b7}(h:b5x E w0 (d9 E Q) a0 S):o4 Try.prog E w0 a5f [a0] S Q:=
 m9 K2 K1 K5 (fn:=Try.f64) (c:=Try.f64.body.getD .skip) o9 Try.func64 (by kernel_rfl) (by kernel_rfl) h
def c7B:List (Nat×List Nat):=[]
def c7y:List (Nat×List Nat):=[]
def c8w:List (Nat×Arr):=[]
def c2Y(E:m6)(w0:o3)(Q:D→b7→Prop)(a0 a1:D)(S:b7):Prop:=
 y9 S 1 1 a0 a1 fun v0 S1=>
 Q v0 S1
theorem c4m{E:m6}{w0:o3}{Q:D→b7→Prop}{a0 a1:D}{S:b7}(h:c2Y E w0 (d9 E Q) a0 a1 S):o4 Try.prog E w0 a8a [a0,a1] S Q:=
 m9 c7B c7y c8w (fn:=Try.f65) (c:=Try.f65.body.getD .skip) o9 Try.func65 (by kernel_rfl) (by kernel_rfl) h
def c2y:List (Nat×List Nat):=[]
def c1W:List (Nat×List Nat):=[]
def c2d:List (Nat×Arr):=[(1,(.leaf [0,1,2,3,4,7,8,9,5,6,10,11,12]))]
def b4N(E:m6)(w0:o3)(Q:D→b7→Prop)(a0 a1 a2:D)(S:b7):Prop:=
 a9 (r7 a1) fun cs=>o6 S cs fun v0 S1=>
 a9 (I6 .u64 a2) fun v2=>
 a9 (m8 0 v0) fun v3=>
 a9 (c9 S1 v3) fun v4=>
 a9 (m8 1 v0) fun v5=>
 a9 (c9 S1 v5) fun v6=>
 o4 Try.prog E w0 a1q [v2,v4] S1 fun v7 S8=>
 t6 v5 S1 S8∧o4 Try.prog E w0 a8a [a0,v7] S8 fun v9 S10=>
 t6 v5 S1 S10∧a2f Try.prog (o4 Try.prog E w0) S10 v6 [a2] fun v11 S12=>
 Q (.tup [v9,v11]) S12
theorem b8Y{E:m6}{w0:o3}{Q:D→b7→Prop}{a0 a1 a2:D}{S:b7}(h:b4N E w0 (d9 E Q) a0 a1 a2 S):o4 Try.prog E w0 a1p [a0,a1,a2] S Q:=
 m9 c2y c1W c2d (fn:=Try.f66) (c:=Try.f66.body.getD .skip) o9 Try.func66 (by kernel_rfl) (by kernel_rfl) h
def b1f:List (Nat×List Nat):=[(16,[0,3,6,7,8,33,34,35])]
def b0Q:List (Nat×List Nat):=[]
def b1h:List (Nat×Arr):=[]
noncomputable def a8P:Code:=(l9 [1,1,1,1,1,1,0,1,0,0] (Try.f67.body.getD .skip))
def a9Y(E:m6)(w0:o3)(Q:D→b7→Prop):r4→List D→b7→Prop:=
 (t7 0 (I5 Try.prog E w0 b1f b0Q b1h (l9 [1,1,1,1,1,1,1] (Try.f67.body.getD .skip)) (I4 Try.prog Try.f67 Q)))
def a9i(E:m6)(w0:o3)(N0:D→D→D→D→D→D→D→D→b7→Prop)(Q:D→b7→Prop)(x0 x3 x6 x7 x8 x33 x34 x35:D)(S:b7):Prop:=
 a9 (d8 .lss x35 x34) fun v34=>
 i9 v34
 (a9 (A7 2 x33 x35) fun v35=>
 a9 (j0 S 2 v35) fun v36=>
 o6 S [(.int .i64 0),(.int .i64 0)] fun v37 S38=>
 f0 S38 2 v37 v36 fun v39 S40=>
 a9 (j0 S40 2 x7) fun v41=>
 a9 (m8 0 v37) fun v42=>
 a9 (c9 S40 v42) fun v43=>
 o4 Try.prog E w0 a1p [x0,v41,v43] S40 fun v44 S45=>
 a9 (o5 v44 0) fun v46=>
 a9 (o5 v44 1) fun v47=>
 a9 (j0 S45 2 x6) fun v48=>
 a9 (m8 1 v37) fun v49=>
 a9 (c9 S45 v49) fun v50=>
 o4 Try.prog E w0 a1p [v46,v48,v50] S45 fun v51 S52=>
 a9 (o5 v51 0) fun v53=>
 a9 (o5 v51 1) fun v54=>
 a9 (j9 (d6 x8 true) (some v47)) fun v55=>
 a9 (z2 x8 v55 (.bool false)) fun v56=>
 a9 (j9 (d6 v56 true) (some v54)) fun v57=>
 a9 (z2 v56 v57 (.bool false)) fun v58=>
 a9 (d8 .add x35 (.int .i64 1)) fun v59=>
 N0 v53 x3 x6 x7 v58 x33 x34 v59 S52)
 (a9 (j0 S 2 x6) fun v60=>
 a9 (m8 2 x3) fun v61=>
 a9 (c9 S v61) fun v62=>
 o4 Try.prog E w0 a1p [x0,v60,v62] S fun v63 S64=>
 a9 (o5 v63 0) fun v65=>
 a9 (o5 v63 1) fun v66=>
 a9 (j9 (d6 x8 true) (some v66)) fun v67=>
 a9 (z2 x8 v67 (.bool false)) fun v68=>
 Q (.tup [v65,v68]) S64)
theorem b8z{E:m6}{w0:o3}{N0:D→D→D→D→D→D→D→D→b7→Prop}{Q:D→b7→Prop}{x0 x3 x6 x7 x8 x33 x34 x35:D}{S:b7}(h:a9i E w0 N0 Q x0 x3 x6 x7 x8 x33 x34 x35 S):
  k9 Try.prog E w0 a8P (n9 76 [0,3,6,7,8,33,34,35] [x0,x3,x6,x7,x8,x33,x34,x35]) S (C0 (fun T S=>N0 (T.getD 0 b8) (T.getD 3 b8) (T.getD 6 b8) (T.getD 7 b8) (T.getD 8 b8) (T.getD 33 b8) (T.getD 34 b8) (T.getD 35 b8) S) (a9Y E w0 Q)):=l8 b1f b0Q b1h o9 (by kernel_rfl) h
theorem b8H{E:m6}{w0:o3}{Q:D→b7→Prop}(I:Nat→D→D→D→D→D→D→D→D→b7→Prop)
  (step:∀n x0 x3 x6 x7 x8 x33 x34 x35 S,I n x0 x3 x6 x7 x8 x33 x34 x35 S→a9i E w0 (fun x0 x3 x6 x7 x8 x33 x34 x35 S=>∃m,m<n∧I m x0 x3 x6 x7 x8 x33 x34 x35 S) Q x0 x3 x6 x7 x8 x33 x34 x35 S)
  {n:Nat} {x0 x3 x6 x7 x8 x33 x34 x35:D} {S:b7} (h:I n x0 x3 x6 x7 x8 x33 x34 x35 S):k9 Try.prog E w0 (.loop a8P) (n9 76 [0,3,6,7,8,33,34,35] [x0,x3,x6,x7,x8,x33,x34,x35]) S (a9Y E w0 Q):=
 r8 (k:=76) (n:=n) (I:=fun n T S=>I n (T.getD 0 b8) (T.getD 3 b8) (T.getD 6 b8) (T.getD 7 b8) (T.getD 8 b8) (T.getD 33 b8) (T.getD 34 b8) (T.getD 35 b8) S) (fun n T S hl hI=>s6 [0,3,6,7,8,33,34,35] hl (k9.mono (b8z (step n _ _ _ _ _ _ _ _ S hI)) fun ex T' S' _ hq=>by cases ex<;>exact hq)) (o7 ..) (Eq.mp (by kernel_rfl) h)
def c0d(E:m6)(w0:o3)(Q:D→b7→Prop)(a0 a1:D)(S:b7):Prop:=
 a9 (r7 a1) fun cs=>o6 S cs fun v0 S1=>
 o4 Try.prog E w0 u5 [(.int .i64 0),(.int .i64 4294967295)] S1 fun v2 S3=>
 a9 (E6 (w6 [(.int .i64 0), .nilFn] [(0,1,(.int .i64 4)),(1,1,v2)])) fun v4=>
 o6 S3 [(.int .i64 0), .nilFn] fun v5 S6=>
 f0 S6 2 v5 v4 fun v7 S8=>
 a9 (m8 1 v0) fun v9=>
 a9 (c9 S8 v9) fun v10=>
 a9 (I6 .u8 v10) fun v11=>
 o4 Try.prog E w0 E0 [v11] S8 fun v12 S13=>
 a9 (E6 (w6 [(.int .i64 0), .nilFn] [(0,1,(.int .i64 8)),(1,1,v12)])) fun v14=>
 o6 S13 [(.int .i64 0), .nilFn] fun v15 S16=>
 f0 S16 2 v15 v14 fun v17 S18=>
 a9 (m8 3 v0) fun v19=>
 a9 (c9 S18 v19) fun v20=>
 a9 (r6 v20) fun v21=>
 a9 (d8 .gtr v21 (.int .i64 65535)) fun v22=>
 i9 v22
 (Q (.tup [.nilSlc,(.bool false)]) S18)
 (a9 (m8 3 v0) fun v23=>
 a9 (c9 S18 v23) fun v24=>
 a9 (r6 v24) fun v25=>
 a9 (I6 .u64 v25) fun v26=>
 o4 Try.prog E w0 a1q [v26,(.int .i64 2)] S18 fun v27 S28=>
 o4 Try.prog E w0 a8a [a0,v27] S28 fun v29 S30=>
 a9 (m8 3 v0) fun v31=>
 a9 (c9 S30 v31) fun v32=>
 a9 (r6 v32) fun v33=>
 k9 Try.prog E w0 (.loop a8P) (n9 76 [0,3,6,7,8,33,34,35] [v29,v0,v5,v15,(.bool true),v32,v33,(.int .i64 0)]) S30 (a9Y E w0 Q))
theorem c1R{E:m6}{w0:o3}{Q:D→b7→Prop}{a0 a1:D}{S:b7}(h:c0d E w0 (d9 E Q) a0 a1 S):o4 Try.prog E w0 a9K [a0,a1] S Q:=
 m9 b1f b0Q b1h (fn:=Try.f67) (c:=Try.f67.body.getD .skip) o9 Try.func67 (by kernel_rfl) (by kernel_rfl) h
def a7z:List (Nat×List Nat):=[(8,[1,4,5,6,21,22,23])]
def a7l:List (Nat×List Nat):=[]
def a7v:List (Nat×Arr):=[]
def a2D(E:m6)(w0:o3)(N0:D→D→D→D→D→D→D→b7→Prop)(Q:D→b7→Prop)(x1 x4 x5 x6 x8 x9 x21 x22 x23:D)(S:b7):Prop:=
 a9 (j0 S 2 x8) fun v24=>
 o4 Try.prog E w0 a1p [x6,v24,x9] S fun v25 S26=>
 a9 (o5 v25 0) fun v27=>
 a9 (o5 v25 1) fun v28=>
 a9 (j9 (d6 x5 true) (some v28)) fun v29=>
 a9 (z2 x5 v29 (.bool false)) fun v30=>
 a9 (d8 .add x23 (.int .i64 1)) fun v31=>
 N0 x1 x4 v30 v27 x21 x22 v31 S26
def F8(E:m6)(w0:o3)(Q:D→b7→Prop)(x5 x6:D)(S:b7):Prop:=
 a9 (unD .not x5) fun v35=>
 i9 v35
 (Q (.tup [.nilSlc,(.int .i64 120)]) S)
 (Q (.tup [x6,(.int .i64 0)]) S)
noncomputable def a6b:Code:=(l9 [1,1,1,0,1,0,0] (Try.f42.body.getD .skip))
def a6u(E:m6)(w0:o3)(Q:D→b7→Prop):r4→List D→b7→Prop:=
 (t7 0 (I5 Try.prog E w0 a7z a7l a7v (l9 [1,1,1,1] (Try.f42.body.getD .skip)) (I4 Try.prog Try.f42 Q)))
def a5y(E:m6)(w0:o3)(N0:D→D→D→D→D→D→D→b7→Prop)(Q:D→b7→Prop)(x1 x4 x5 x6 x21 x22 x23:D)(S:b7):Prop:=
 a9 (d8 .lss x23 x22) fun v15=>
 i9 v15
 (a9 (A7 2 x21 x23) fun v16=>
 a9 (j0 S 2 v16) fun v17=>
 o6 S [(.int .i64 0), .nilFn] fun v18 S19=>
 f0 S19 2 v18 v17 fun v20 S21=>
 a9 (m8 1 x1) fun v22=>
 a9 (c9 S21 v22) fun v23=>
 a9 (d8 .eql x23 (.int .i64 1)) fun v32=>
 i9 v32
 (a9 (m8 2 x1) fun v33=>
 a9 (c9 S21 v33) fun v34=>
 a2D E w0 N0 Q x1 x4 x5 x6 v18 v34 x21 x22 x23 S21)
 (a2D E w0 N0 Q x1 x4 x5 x6 v18 v23 x21 x22 x23 S21))
 (a9 (m8 0 x1) fun v36=>
 a9 (c9 S v36) fun v37=>
 a9 (d8 .eql v37 (.int .u8 49)) fun v38=>
 a9 (j9 (d6 v38 true) (some x5)) fun v39=>
 a9 (z2 v38 v39 (.bool false)) fun v40=>
 i9 v40
 (a9 (j0 S 4 x1) fun v41=>
 o4 Try.prog E w0 a9K [x6,v41] S fun v42 S43=>
 a9 (o5 v42 0) fun v44=>
 a9 (o5 v42 1) fun v45=>
 F8 E w0 Q v45 v44 S43)
 (a9 (m8 3 x1) fun v46=>
 a9 (c9 S v46) fun v47=>
 a9 (r6 v47) fun v48=>
 a9 (d8 .gtr v48 (.int .i64 0)) fun v49=>
 i9 v49
 (i9 v49
 (F8 E w0 Q (.bool false) x6 S)
 (F8 E w0 Q x5 x6 S))
 (a9 (r6 x4) fun v50=>
 a9 (d8 .lss v50 (.int .i64 2)) fun v51=>
 a9 (j9 (d6 v51 true) (m8 2 x1)) fun v52=>
 a9 (j9 (d6 v51 true) (c9 S v52)) fun v53=>
 a9 (j9 (d6 v51 true) (d8 .neq v53 (.int .i64 0))) fun v54=>
 a9 (z2 v51 v54 (.bool false)) fun v55=>
 i9 v55
 (i9 v55
 (F8 E w0 Q (.bool false) x6 S)
 (F8 E w0 Q x5 x6 S))
 (a9 (r6 x4) fun v56=>
 a9 (d8 .lss v56 (.int .i64 1)) fun v57=>
 a9 (j9 (d6 v57 true) (m8 1 x1)) fun v58=>
 a9 (j9 (d6 v57 true) (c9 S v58)) fun v59=>
 a9 (j9 (d6 v57 true) (d8 .neq v59 (.int .i64 0))) fun v60=>
 a9 (z2 v57 v60 (.bool false)) fun v61=>
 i9 v61
 (F8 E w0 Q (.bool false) x6 S)
 (F8 E w0 Q x5 x6 S)))))
theorem b5y{E:m6}{w0:o3}{N0:D→D→D→D→D→D→D→b7→Prop}{Q:D→b7→Prop}{x1 x4 x5 x6 x21 x22 x23:D}{S:b7}(h:a5y E w0 N0 Q x1 x4 x5 x6 x21 x22 x23 S):
  k9 Try.prog E w0 a6b (n9 83 [1,4,5,6,21,22,23] [x1,x4,x5,x6,x21,x22,x23]) S (C0 (fun T S=>N0 (T.getD 1 b8) (T.getD 4 b8) (T.getD 5 b8) (T.getD 6 b8) (T.getD 21 b8) (T.getD 22 b8) (T.getD 23 b8) S) (a6u E w0 Q)):=l8 a7z a7l a7v o9 (by kernel_rfl) h
theorem b5N{E:m6}{w0:o3}{Q:D→b7→Prop}(I:Nat→D→D→D→D→D→D→D→b7→Prop)
  (step:∀n x1 x4 x5 x6 x21 x22 x23 S,I n x1 x4 x5 x6 x21 x22 x23 S→a5y E w0 (fun x1 x4 x5 x6 x21 x22 x23 S=>∃m,m<n∧I m x1 x4 x5 x6 x21 x22 x23 S) Q x1 x4 x5 x6 x21 x22 x23 S)
  {n:Nat} {x1 x4 x5 x6 x21 x22 x23:D} {S:b7} (h:I n x1 x4 x5 x6 x21 x22 x23 S):k9 Try.prog E w0 (.loop a6b) (n9 83 [1,4,5,6,21,22,23] [x1,x4,x5,x6,x21,x22,x23]) S (a6u E w0 Q):=
 r8 (k:=83) (n:=n) (I:=fun n T S=>I n (T.getD 1 b8) (T.getD 4 b8) (T.getD 5 b8) (T.getD 6 b8) (T.getD 21 b8) (T.getD 22 b8) (T.getD 23 b8) S) (fun n T S hl hI=>s6 [1,4,5,6,21,22,23] hl (k9.mono (b5y (step n _ _ _ _ _ _ _ S hI)) fun ex T' S' _ hq=>by cases ex<;>exact hq)) (o7 ..) (Eq.mp (by kernel_rfl) h)
def b6b(E:m6)(w0:o3)(Q:D→b7→Prop)(a0:D)(S:b7):Prop:=
 a9 (r7 a0) fun cs=>o6 S cs fun v0 S1=>
 a9 (m8 0 v0) fun v2=>
 a9 (c9 S1 v2) fun v3=>
 o4 Try.prog E w0 a5f [v3] S1 fun v4 S5=>
 a9 (o5 v4 0) fun v6=>
 a9 (o5 v4 1) fun v7=>
 a9 (m8 0 v0) fun v8=>
 a9 (c9 S5 v8) fun v9=>
 u6 S5 1 (p9 1 (List.replicate 1 [(.int .u8 0)]) [(0,v9)]) 1 fun v10 S11=>
 o4 Try.prog E w0 a8a [.nilSlc,v10] S11 fun v12 S13=>
 a9 (r6 v6) fun v14=>
 k9 Try.prog E w0 (.loop a6b) (n9 83 [1,4,5,6,21,22,23] [v0,v6,v7,v12,v6,v14,(.int .i64 0)]) S13 (a6u E w0 Q)
theorem b9d{E:m6}{w0:o3}{Q:D→b7→Prop}{a0:D}{S:b7}(h:b6b E w0 (d9 E Q) a0 S):o4 Try.prog E w0 a9n [a0] S Q:=
 m9 a7z a7l a7v (fn:=Try.f42) (c:=Try.f42.body.getD .skip) o9 Try.func42 (by kernel_rfl) (by kernel_rfl) h
def c6s:List (Nat×List Nat):=[]
def c5L:List (Nat×List Nat):=[]
def c6l:List (Nat×Arr):=[]
def b9N(E:m6)(w0:o3)(Q:D→b7→Prop)(a0:D)(S:b7):Prop:=
 a9 (r7 a0) fun cs=>o6 S cs fun v0 S1=>
 a9 (j0 S1 4 v0) fun v2=>
 o4 Try.prog E w0 a9n [v2] S1 fun v3 S4=>
 a9 (o5 v3 0) fun v5=>
 a9 (o5 v3 1) fun v6=>
 a9 (r6 v5) fun v7=>
 Q v7 S4
theorem c1T{E:m6}{w0:o3}{Q:D→b7→Prop}{a0:D}{S:b7}(h:b9N E w0 (d9 E Q) a0 S):o4 Try.prog E w0 b4s [a0] S Q:=
 m9 c6s c5L c6l (fn:=Try.f85) (c:=Try.f85.body.getD .skip) o9 Try.func85 (by kernel_rfl) (by kernel_rfl) h
end Go.Proofs.Ytchnpgddpaonhaa.d
end
section
open Go.Proofs Go Go.Am Go.Op
namespace Go.Proofs.Ytchnpgddpaonhaa.d
section
def fR(l:List Fld):List (List D):=l.map fun f=>[.int .i64 (f.size:Int),a0u f.lo f.hi]
def a4w(op:Int):List (List D):=if op=1 then[[.int .i64 1,a6G 1]]else if op=2 then[[.int .i64 4,a6G 2]]else if op=3 then[[.int .i64 8,a6G 3]]else fR ((lay op).getD [])
section
variable{E:m6}{w0:o3}{S:b7}{Q:D→b7→Prop}{k4 k5 k6:Nat}{a4 a5 a6:List AV}{op:Int}{b:Bool}
theorem a4k{n:Int}{v:D}(h:r7 v=some [v]):E6 (w6 [(.int .i64 0), .nilFn] [(0,1,(.int .i64 n)),(1,1,v)])=some (.agg [.int .i64 n,v]):=by
 simp[w6,h,o8]
@[simp] theorem b3u(lo hi:Int):r7 (a0u lo hi)=some [a0u lo hi]:=(rfl)
@[simp] theorem c1s(w:Int):r7 (a6G w)=some [a6G w]:=(rfl)
theorem a4Y{n:Int}{v:D}{K:D→b7→Prop}(h:K (.lst [[.int .i64 n,v]] 2) S):u6 S 2 (p9 2 (List.replicate 1 [(.int .i64 0), .nilFn]) [(0, .agg [.int .i64 n,v])]) 1 K:=by
 simp only[p9,clA,List.length_cons,List.length_nil,List.replicate,List.set]
 rw[if_pos (by decide)]
 exact M7 rfl h
theorem c8C{n:Int}{v:D}{K:D→b7→Prop}(h:K (.lst [[.int .i64 n,v],[.int .i64 n,v]] 2) S):u6 S 2 (p9 2 (List.replicate 2 [(.int .i64 0), .nilFn]) [(0, .agg [.int .i64 n,v]),(1, .agg [.int .i64 n,v])]) 2 K:=by
 simp only[p9,clA,List.length_cons,List.length_nil,List.replicate,List.set]
 rw[if_pos (by decide),if_pos (by decide)]
 exact M7 rfl h
theorem bx{k:Nat}{n:Int}{v:D}{acs:List AV}(h:S k=some ⟨2,[[.int .i64 n,v]],acs⟩):j0 S 2 (.ptr k 0)=some (.agg [.int .i64 n,v]):=laP h ⟨by decide,by simp⟩
theorem c7U(h5:S k5=some ⟨2,[[.int .i64 4,a0u 0 4294967295]],a5⟩)(h6:S k6=some ⟨2,[[.int .i64 1,a0u 1 3]],a6⟩)(hQ:d9 E Q (.tup [.lst (fR ((c8i b op).getD [])) 2, .bool (c8i b op).isSome]) S):
  X5 E w0 (d9 E Q) (.int .u8 op) (.ptr k5 0) (.ptr k6 0) (.int .u8 op) (.bool b) S:=by
 refine b2P ?_
 unfold a8e
 unfold c8i at hQ
 have nilq:d9 E Q (.tup [.lst [] 2, .bool true]) S→d9 E Q (.tup [.nilSlc, .bool true]) S:=fun h=>d9.nilT (lp:=[]) (sz:=2) h
 have nilf:d9 E Q (.tup [.lst [] 2, .bool false]) S→d9 E Q (.tup [.nilSlc, .bool false]) S:=fun h=>d9.nilT (lp:=[]) (sz:=2) h
 cases b with
 |true=>rw[cdT,bx h5,oD];exact a4Y hQ
 |false=>
  rw[cdF,a1T,oD,cdB]
  simp only[Bool.false_eq_true,if_false]at hQ
  refine⟨fun h=> ?_,fun h=> ?_⟩
  ·rw[if_pos (by simpa using h)]at hQ
   refine F9.use ?_
   rw[a4k (b3u _ _),oD]
   exact a4Y hQ
  rw[if_neg (by simpa using h)]at hQ
  rw[a1T,oD,cdB]
  refine⟨fun h=> ?_,fun h=> ?_⟩
  ·rw[if_pos (by simpa using h)]at hQ;rw[bx h6,oD];exact a4Y hQ
  rw[if_neg (by simpa using h)]at hQ
  by_cases h1:11≤op
  ·by_cases h2:op≤28
   ·rw[if_pos ⟨h1,h2⟩]at hQ
    simp[h1,h2,bx h6]
    exact a4Y hQ
   ·rw[if_neg (by omega)]at hQ
    simp[h1,h2]
    by_cases h3:op≤52
    ·rw[if_pos (by omega)]at hQ
     simp[show(1:Int)≤op by omega,h3]
     exact nilq hQ
    ·rw[if_neg (by omega)]at hQ
     simp[show(1:Int)≤op by omega,h3]
     exact nilf hQ
  ·rw[if_neg (by omega)]at hQ
   simp[h1]
   by_cases h3:1≤op
   ·rw[if_pos (by omega)]at hQ
    simp[h3,show op≤52 by omega]
    exact nilq hQ
   ·rw[if_neg (by omega)]at hQ
    simp[h3]
    exact nilf hQ
theorem d0S(h5:S k5=some ⟨2,[[.int .i64 4,a0u 0 4294967295]],a5⟩)(h6:S k6=some ⟨2,[[.int .i64 1,a0u 1 3]],a6⟩)(hQ:d9 E Q (.tup [.lst (fR ((c8v b op).getD [])) 2, .bool (c8v b op).isSome]) S):
  a1w E w0 (d9 E Q) (.int .u8 op) (.ptr k5 0) (.ptr k6 0) (.int .u8 op) (.bool b) S:=by
 refine b3b ?_
 unfold a8f
 unfold c8v at hQ
 cases b with
 |true=>
  rw[cdT]
  refine F9.use ?_
  rw[a4k (b3u _ _),oD]
  exact a4Y hQ
 |false=>
  rw[cdF,a1T,oD,cdB]
  simp only[Bool.false_eq_true,if_false]at hQ
  refine⟨fun h=> ?_,fun h=> ?_⟩
  ·rw[if_pos (by simpa using h)]at hQ;rw[bx h6,oD,oD];exact c8C hQ
  rw[if_neg (by simpa using h)]at hQ
  simp only[a1T,oD,cdB]
  refine⟨fun h=> ?_,fun h=>⟨fun h'=> ?_,fun h'=> ?_⟩⟩
  ·rw[h];refine c7U h5 h6 ?_;simpa [h]using hQ
  ·rw[h'];refine c7U h5 h6 ?_;simpa [h,h']using hQ
  ·refine c7U h5 h6 ?_;simpa [h,h']using hQ
theorem d1y(h4:S k4=some ⟨2,[[.int .i64 2,a0u 0 65535]],a4⟩)(h5:S k5=some ⟨2,[[.int .i64 4,a0u 0 4294967295]],a5⟩)(h6:S k6=some ⟨2,[[.int .i64 1,a0u 1 3]],a6⟩)(hQ:d9 E Q (.tup [.lst (fR ((c8n b op).getD [])) 2, .bool (c8n b op).isSome]) S):
  a1x E w0 (d9 E Q) (.int .u8 op) (.ptr k4 0) (.ptr k5 0) (.ptr k6 0) (.int .u8 op) (.bool b) S:=by
 refine b2Y ?_
 unfold a7L
 unfold c8n at hQ
 cases b with
 |true=>rw[cdT,bx h4,oD,oD];exact c8C hQ
 |false=>
  rw[cdF]
  simp only[Bool.false_eq_true,if_false]at hQ
  simp only[a1T,oD,cdB]
  refine⟨fun h=> ?_,fun h=> ?_⟩
  ·rw[h];refine d0S h5 h6 ?_;simpa [h]using hQ
  ·refine d0S h5 h6 ?_;simpa [h]using hQ
theorem d4u(h4:S k4=some ⟨2,[[.int .i64 2,a0u 0 65535]],a4⟩)(h5:S k5=some ⟨2,[[.int .i64 4,a0u 0 4294967295]],a5⟩)(h6:S k6=some ⟨2,[[.int .i64 1,a0u 1 3]],a6⟩)(hQ:d9 E Q (.tup [.lst (fR ((c6p b op).getD [])) 2, .bool (c6p b op).isSome]) S):
  z7 E w0 (d9 E Q) (.int .u8 op) (.ptr k4 0) (.ptr k5 0) (.ptr k6 0) (.int .u8 op) (.bool b) S:=by
 refine b4m ?_
 unfold b0w
 unfold c6p at hQ
 cases b with
 |true=>rw[cdT,bx h4,oD];exact a4Y hQ
 |false=>
  rw[cdF]
  simp only[Bool.false_eq_true,if_false]at hQ
  simp only[a1T,oD,cdB]
  refine⟨fun h=> ?_,fun h=> ?_⟩
  ·rw[h];refine d1y h4 h5 h6 ?_;simpa [h]using hQ
  ·refine d1y h4 h5 h6 ?_;simpa [h]using hQ
theorem b3r:Y7 Try.prog E w0 a5f [.int .u8 op] (.tup [.lst (a4w op) 2, .bool (lay op).isSome]):=fun S0=>by
 refine b8i ?_
 unfold b5x
 refine F9.use ?_
 rw[a4k (b3u _ _),oD]
 refine F9.use ?_
 rw[a4k (b3u _ _),oD]
 intro k4 a4 n4 k5 a5 n5
 obtain⟨ne5,n5'⟩:=b7.fresh n5
 refine stP (ds:=[.int .i64 2,a0u 0 65535]) (by rw[b7.set_ne _ _ _ (Ne.symm ne5)];exact b7.set_same _ _ _) (clA _) ⟨rfl,by decide,by simp⟩ fun a4=> ?_
 rw[b7.set_in _ (Ne.symm ne5)]
 refine stP (ds:=[.int .i64 4,a0u 0 4294967295]) (b7.set_same _ _ _) (clA _) ⟨rfl,by decide,by simp⟩ fun a5=> ?_
 rw[b7.set_set]
 refine F9.use ?_
 rw[a4k (b3u _ _),oD]
 intro k6 a6 n6
 refine stP (ds:=[.int .i64 1,a0u 1 3]) (b7.set_same _ _ _) (clA _) ⟨rfl,by decide,by simp⟩ fun a6=> ?_
 rw[b7.set_set]
 obtain⟨ne6,n6'⟩:=b7.fresh n6
 obtain⟨ne6',n6''⟩:=b7.fresh n6'
 generalize hS:((S0.set k4 _).set k5 _).set k6 _=S
 have hle:S0.le S:=by rw[←hS];exact b7.le_set (b7.le_set (b7.le_new n4) n5') n6''
 have h6:S k6=some ⟨2,[[.int .i64 1,a0u 1 3]],a6⟩:=by rw[←hS];exact b7.set_same _ _ _
 have h5:S k5=some ⟨2,[[.int .i64 4,a0u 0 4294967295]],a5⟩:=by rw[←hS,b7.set_ne _ _ _ (Ne.symm ne6)];exact b7.set_same _ _ _
 have h4:S k4=some ⟨2,[[.int .i64 2,a0u 0 65535]],a4⟩:=by rw[←hS,b7.set_ne _ _ _ (Ne.symm ne6'),b7.set_ne _ _ _ (Ne.symm ne5)];exact b7.set_same _ _ _
 have hQ:d9 E (fun d' S'=>d'= .tup [.lst (a4w op) 2, .bool (lay op).isSome]∧S'=S0) (.tup [.lst (a4w op) 2, .bool (lay op).isSome]) S:=d9.less hle d9.pure
 clear hS
 generalize hQ0:(fun d' S'=>d'=D.tup [.lst (a4w op) 2, .bool (lay op).isSome]∧S'=S0)=Q0 at hQ ⊢
 clear hQ0
 simp only[a1T,oD,cdB,beq_iff_eq,beq_eq_false_iff_ne,ne_eq]
 refine⟨fun h=> ?_,fun g1=>⟨fun h=> ?_,fun g2=>⟨fun h=> ?_,fun g3=> ?_⟩⟩⟩
 ·refine a1o.use ?_
  rw[a4k (c1s _),oD]
  refine a4Y ?_
  rw[h]at hQ;exact hQ
 ·refine a1o.use ?_
  rw[a4k (c1s _),oD]
  refine a4Y ?_
  rw[h]at hQ;exact hQ
 ·refine a1o.use ?_
  rw[a4k (c1s _),oD]
  refine a4Y ?_
  rw[h]at hQ;exact hQ
 have e:lay op=c6p (op==6||op==7||op==8||op==50||op==36||op==39||op==40||op==41||op==42||op==43||op==44||op==45) op:=by unfold lay;rw[if_neg g1,if_neg g2,if_neg g3]
 rw[show a4w op=fR ((lay op).getD []) by unfold a4w;rw[if_neg g1,if_neg g2,if_neg g3],e]at hQ
 generalize hb:(op==6||op==7||op==8||op==50||op==36||op==39||op==40||op==41||op==42||op==43||op==44||op==45)=b at hQ
 have fin:∀c:Bool,c=b→z7 E w0 (d9 E Q0) (.int .u8 op) (.ptr k4 0) (.ptr k5 0) (.ptr k6 0) (.int .u8 op) (.bool c) S:=by
  rintro c rfl
  exact d4u h4 h5 h6 hQ
 refine⟨fun h=>fin _ (by rw[←hb];simp[h]),fun h1=>⟨fun h=>fin _ (by rw[←hb];simp[h]),fun h2=>⟨fun h=>fin _ (by rw[←hb];simp[h]),fun h3=>⟨fun h=>fin _ (by rw[←hb];simp[h]),fun h4=>⟨fun h=>fin _ (by rw[←hb];simp[h]),fun h5=>⟨fun h=>fin _ (by rw[←hb];simp[h]),fun h6=>
  ⟨fun h=>fin _ (by rw[←hb];simp[h]),fun h7=>⟨fun h=>fin _ (by rw[←hb];simp[h]),fun h8=>⟨fun h=>fin _ (by rw[←hb];simp[h]),fun h9=>⟨fun h=>fin _ (by rw[←hb];simp[h]),fun h10=>⟨fun h=>fin _ (by rw[←hb];simp[h]),fun h11=>fin _ (by rw[←hb];simp[h1,h2,h3,h4,h5,h6,h7,h8,h9,h10,h11])⟩⟩⟩⟩⟩⟩⟩⟩⟩⟩⟩
end
end
section
theorem c6O(n:Int){i:Nat}(hi:i<8):a3H (n % 18446744073709551616) i=a3H n i:=by
 have h:i=0∨i=1∨i=2∨i=3∨i=4∨i=5∨i=6∨i=7:=by omega
 rcases h with rfl|rfl|rfl|rfl|rfl|rfl|rfl|rfl<;>simp[a3H]<;>omega
theorem b6E(n:Int){s:Nat}(hs:s≤8):B9 (n % 18446744073709551616) s=B9 n s:=by
 unfold B9
 refine List.map_congr_left fun i hi=>c6O n ?_
 have:=List.mem_range.1 hi
 omega
abbrev b6j(S0:b7)(t:D)(bs:List Int)(S:b7):Prop:=Grw S0 t (u4 (bs.map (D.int .u8))) 1 S
def b8J(fv:D)(lo hi:Int):Prop:=fv=a0u lo hi∨∃w,fv=a6G w∧lo=a3p w∧hi=a3m w
theorem b8J.bet(lo hi:Int):b8J (a0u lo hi) lo hi:= .inl rfl
theorem b8J.fit(w:Int):b8J (a6G w) (a3p w) (a3m w):= .inr ⟨w,rfl,rfl,rfl⟩
theorem b8J.cells{fv:D}{lo hi:Int}(h:b8J fv lo hi):r7 fv=some [fv]:=by
 rcases h with rfl|⟨w,rfl,_⟩<;>rfl
theorem d6g:a9X Try.prog a0x=true:=by kernel_rfl
theorem d5X:a9X Try.prog a2V=true:=by kernel_rfl
def c1w(row:List D)(f:Fld):Prop:=∃fv,row=[.int .i64 (f.size:Int),fv]∧b8J fv f.lo f.hi
theorem c6P{op:Int}{i:Nat}{f:Fld}(h:((lay op).getD [])[i]? =some f):∃row,(a4w op)[i]? =some row∧c1w row f:=by
 unfold a4w
 by_cases h1:op=1
 ·have e:lay op=some [⟨1,a3p 1,a3m 1⟩]:=by unfold lay;rw[if_pos h1]
  rw[e]at h
  rw[if_pos h1]
  cases i with
  |zero=>cases h;exact⟨_,rfl,_,rfl, .fit 1⟩
  |succ i=>cases h
 rw[if_neg h1]
 by_cases h2:op=2
 ·have e:lay op=some [⟨4,a3p 2,a3m 2⟩]:=by unfold lay;rw[if_neg h1,if_pos h2]
  rw[e]at h
  rw[if_pos h2]
  cases i with
  |zero=>cases h;exact⟨_,rfl,_,rfl, .fit 2⟩
  |succ i=>cases h
 rw[if_neg h2]
 by_cases h3:op=3
 ·have e:lay op=some [⟨8,a3p 3,a3m 3⟩]:=by unfold lay;rw[if_neg h1,if_neg h2,if_pos h3]
  rw[e]at h
  rw[if_pos h3]
  cases i with
  |zero=>cases h;exact⟨_,rfl,_,rfl, .fit 3⟩
  |succ i=>cases h
 rw[if_neg h3]
 exact⟨_,by unfold fR;rw[List.getElem?_map,h];rfl,_,rfl, .bet _ _⟩
theorem a4V{op:Int}:(a4w op).length=((lay op).getD []).length:=by
 unfold a4w
 by_cases h1:op=1
 ·rw[if_pos h1];unfold lay;rw[if_pos h1];rfl
 rw[if_neg h1]
 by_cases h2:op=2
 ·rw[if_pos h2];unfold lay;rw[if_neg h1,if_pos h2];rfl
 rw[if_neg h2]
 by_cases h3:op=3
 ·rw[if_pos h3];unfold lay;rw[if_neg h1,if_neg h2,if_pos h3];rfl
 rw[if_neg h3,fR,List.length_map]
section
variable{E:m6}{w0:o3}{S0 S:b7}{t:D}{bs ms:List Int}
theorem c1n{fv:D}{lo hi n:Int}(h:b8J fv lo hi)(hn:I64 n){K:D→b7→Prop}(hK:K (.bool (decide (lo≤n∧n≤hi))) S):a2f Try.prog (o4 Try.prog E w0) S fv [.int .i64 n] K:=by
 rcases h with rfl|⟨w,rfl,rfl,rfl⟩
 ·simp only[a0u,a2f,b1g,d6g,if_true]
  exact b6y.use hK
 ·simp only[a6G,a2f,b1g,d5X,if_true]
  exact(c1V hn).use hK
theorem b3X(h:b6j S0 t bs S)(hl:bs.length+ms.length<2^44):o4 Try.prog E w0 a8a [t,bD ms] S fun v S'=>b6j S0 v (bs++ms) S':=by
 refine c4m ?_
 unfold c2Y
 refine h.push (b4L _ _) ⟨by decide,by simp only[b2t,List.length_map];omega⟩ fun t' S' h'=>d9.here ?_
 unfold b6j
 rw[List.map_append,a2t]
 exact h'
theorem a3U(h:b6j S0 t bs S){row:List D}{f:Fld}(hf:c1w row f){n:Int}(hn:I64 n)(h1:1≤f.size)(h8:f.size≤8)(hl:bs.length<2^40):o4 Try.prog E w0 a1p [t, .agg row, .int .i64 n] S fun v S'=>
  ∃t',v= .tup [t', .bool (f.may n)]∧b6j S0 t' (bs++B9 n f.size) S':=by
 obtain⟨fv,rfl,hm⟩:=hf
 refine b8Y ?_
 unfold b4N
 rw[clA,oD]
 intro k acs hk
 rw[cvI,oD,I3,oD,ldP (b7.set_same _ _ _),List.getElem?_cons_zero,oD,I3,oD,ldP (b7.set_same _ _ _),show([D.int .i64 (f.size:Int),fv]:List D)[0+1]? =some fv from rfl,oD]
 refine(a3P h1 h8).use ⟨fwR _ _, ?_⟩
 rw[b1U,b6E n h8]
 have hg:=h.under (o:=⟨2,[[.int .i64 (f.size:Int),fv]],acs⟩) hk
 refine(b3X hg (by rw[s8];omega)).use fun v S' hg'=> ?_
 have hb:S' k=some ⟨2,[[.int .i64 (f.size:Int),fv]],acs⟩:=hg'.le _ _ (b7.set_same _ _ _)
 have hk0:S0 k=none:=by
  cases e:S0 k with
  |none=>rfl
  |some o=>rw[h.le _ _ e]at hk;cases hk
 refine⟨by rw[fwP,hb];exact(b7.set_same _ _ _).symm,c1n hm hn ?_⟩
 obtain⟨S2,hle,hg2⟩:=hg'.drop hk0
 exact d9.less hle (d9.here ⟨v,rfl,hg2⟩)
end
end
end Go.Proofs.Ytchnpgddpaonhaa.d
end
section
namespace Go.Am
section
def WkR:List (List D)→List (List D)→Prop
 | [],[]=>True
 |r::rs,q::qs=>(WkL r q∧r.length=q.length)∧WkR rs qs
 |_,_=>False
theorem WkR.length:∀ {rs qs:List (List D)},WkR rs qs→rs.length=qs.length
 | [],[],_=>rfl
 |r::rs,q::qs,h=>by rw[List.length_cons,List.length_cons,WkR.length h.2]
 | [],_::_,h=>h.elim
 |_::_,[],h=>h.elim
theorem WkR.row:∀ {rs qs:List (List D)} {sz:Nat},WkR rs qs→(∀r∈rs,r.length=sz)→∀q∈qs,q.length=sz
 | [],[],sz,_,_=>fun q hq=>by cases hq
 |r::rs,q::qs,sz,h,hr=>fun y hy=>by
  rcases List.mem_cons.1 hy with e|hy
  ·subst e;rw[←h.1.2];exact hr r List.mem_cons_self
  ·exact WkR.row h.2 (fun r hr'=>hr r (List.mem_cons_of_mem _ hr')) y hy
 | [],_::_,_,h,_=>h.elim
 |_::_,[],_,h,_=>h.elim
theorem WkR.ok{E:m6}{R:Fz}:∀ {rs qs:List (List D)} {vs:List AV},WkR rs qs→a2u E R rs vs→a2u E R qs vs
 | [],[],vs,_,h=>h
 |r::rs,q::qs,vs,w,h=>by
  simp only[a2u]at h ⊢
  obtain⟨a,b,e,h1,h2⟩:=h
  exact⟨a,b,e,w.1.1.ok h1,WkR.ok w.2 h2⟩
 | [],_::_,_,w,_=>w.elim
 |_::_,[],_,w,_=>w.elim
theorem Wk.lst{rs qs:List (List D)}(w:WkR rs qs)(sz:Nat):Wk (.lst rs sz) (.lst qs sz):=fun E R v h=>by
 simp only[Rp]at h ⊢
 rcases h with ⟨rfl,rfl⟩|⟨o,j,cap,ex,z,e1,e2,e3,e4,e5⟩
 ·cases qs with
  |nil=>exact .inl ⟨rfl,rfl⟩
  |cons=>exact w.elim
 ·refine .inr ⟨o,j,cap,ex,z,by rw[←w.length];exact e1,e2,by rw[←w.length];exact e3,w.row e4, ?_⟩
  rcases e5 with rfl|⟨all,f1,f2,f3⟩
  ·cases qs with
   |nil=>exact .inl rfl
   |cons=>exact w.elim
  ·exact .inr ⟨all,f1,by rw[←w.length];exact w.ok f2,by rw[←w.length];exact f3⟩
theorem Wk.trans{a b c:D}(h:Wk a b)(h':Wk b c):Wk a c:=fun E R v x=>h' E R v (h E R v x)
theorem WkR.map{α:Type}{f g:α→List D}(h:∀a,WkL (f a) (g a)∧(f a).length=(g a).length):∀(l:List α),WkR (l.map f) (l.map g)
 | []=>trivial
 |a::l=>⟨h a,WkR.map h l⟩
inductive Lst (rows:List (List D)) (sz:Nat):D→Prop where
 |lst:Lst rows sz (.lst rows sz)
 |ext (more:List (List D)):Lst rows sz (.ext rows more sz)
section
variable{rows:List (List D)}{sz:Nat}{d:D}
theorem Lst.len(h:Lst rows sz d):r6 d=some (.int .i64 rows.length):=by cases h<;>rfl
theorem Lst.at(h:Lst rows sz d){i:Nat}{row:List D}(hr:rows[i]? =some row):A7 sz d (.int .i64 (i:Int))=some (.elt row 0):=by
 cases h
 ·exact b5S hr
 ·exact d6a hr
theorem Lst.rowsS(h:Lst rows sz d)(S:b7):Am.rowsS S sz d=some rows:=by
 cases h<;>simp[Am.rowsS,J5]
theorem Lst.wk(h:Lst rows sz d):Wk d (.lst rows sz):=by
 cases h
 ·exact Wk.refl _
 ·exact Wk.ext _ _ _
theorem Lst.cells(h:Lst rows sz d):r7 d=some [d]:=by cases h<;>rfl
end
theorem Grw.upd{S0 S:b7}{t:D}{rows:List (List D)}{sz k:Nat}{o o':L7}(h:Grw S0 t rows sz S)(hk:S0 k=some o'):Grw (S0.set k o) t rows sz (S.set k o):=by
 rcases h with ⟨rfl,rfl,rfl⟩|⟨l,acs,h,rfl,rfl⟩
 ·exact .inl ⟨rfl,rfl,rfl⟩
 ·have hne:l≠k:=fun e=>by rw[e,hk]at h;cases h
  refine .inr ⟨l,acs, ?_,rfl,b7.set_comm _ hne _ _⟩
  rw[b7.set_ne _ _ _ hne];exact h
theorem Grw.last{S0 S:b7}{t:D}{rows:List (List D)}{sz bytes:Nat}(h:Grw S0 t rows sz S){v:D}{news:List (List D)}(hv:rowsS S sz v=some news)(hn:news≠[])(hb:0<bytes∧(2*(rows.length+news.length)+768)*bytes≤2^47){K:D→b7→Prop}
  (hK:K (.lst (rows++news) sz) S0):y9 S sz bytes t v K:=by
 simp only[y9,hv]
 rcases h with ⟨rfl,rfl,rfl⟩|⟨k,acs,h,rfl,rfl⟩
 ·simp only[a4P]
  rw[if_neg hn]
  refine⟨⟨hb.1,by simpa using hb.2⟩, .inl ?_⟩
  rw[List.take_of_length_le (Nat.le_refl _)]
  simpa using hK
 ·simp only[a4P]
  rw[if_neg hn,b7.set_same]
  simp only
  rw[if_pos ⟨by trivial,by trivial,by omega⟩]
  refine⟨hb, .inl ?_⟩
  rw[b7.erase_set _ _ _ h,List.take_of_length_le (by simp)]
  simpa using hK
end
section
theorem b7.set_self{S:b7}{k:Nat}{o:L7}(h:S k=some o):S.set k o=S:=by
 funext j;unfold b7.set
 by_cases e:j=k
 ·subst e;rw[if_pos rfl,h]
 ·rw[if_neg e]
theorem b7.ne_of{S:b7}{k l:Nat}{o:L7}(h:S k=some o)(n:S l=Option.none):k≠l:=fun e=>by rw[e,n]at h;cases h
theorem b7.none_of{S S':b7}(h:S.le S'){k:Nat}(hk:S' k=Option.none):S k=Option.none:=by
 cases e:S k with
 |none=>rfl
 |some o=>rw[h _ _ e]at hk;cases hk
def w9(S:b7)(k sz:Nat)(c:List D):Prop:=∃a,S k=some ⟨sz,[c],a⟩
section
variable{S S':b7}{k l sz sz':Nat}{c c':List D}
theorem w9.new{a:List AV}:w9 (S.set k ⟨sz,[c],a⟩) k sz c:=⟨a,b7.set_same _ _ _⟩
theorem w9.set_ne(h:w9 S k sz c){o:L7}(hn:k≠l):w9 (S.set l o) k sz c:=by
 obtain⟨a,h⟩:=h;exact⟨a,by rw[b7.set_ne _ _ _ hn];exact h⟩
theorem w9.none(h:w9 S k sz c)(hn:S l=Option.none):k≠l:=by
 obtain⟨a,h⟩:=h;exact b7.ne_of h hn
theorem w9.set(h:w9 S k sz c){o:L7}(hn:S l=Option.none):w9 (S.set l o) k sz c:=h.set_ne (h.none hn)
theorem w9.of(h:w9 S k sz c)(e:S' k=S k):w9 S' k sz c:=by
 obtain⟨a,h⟩:=h;exact⟨a,by rw[e];exact h⟩
theorem w9.le(h:w9 S k sz c)(hl:S.le S'):w9 S' k sz c:=by
 obtain⟨a,h⟩:=h;exact⟨a,hl _ _ h⟩
theorem w9.ne(h:w9 S k sz c)(h':w9 S l sz' c')(hs:sz≠sz'):k≠l:=fun e=>by
 obtain⟨a,h⟩:=h;obtain⟨b,h'⟩:=h';subst e;rw[h]at h';cases h';exact hs rfl
theorem w9.there(h:w9 S k sz c):S k≠Option.none:=by
 obtain⟨a,h⟩:=h;rw[h];simp
theorem w9.ld(h:w9 S k sz c)(i:Nat):c9 S (.ptr k i)=c[i]? :=by obtain⟨a,h⟩:=h;exact ldP h
theorem w9.la(h:w9 S k sz c){i n:Nat}(hn:0<n∧i+n≤c.length):j0 S n (.ptr k i)=some (.agg ((c.drop i).take n)):=by obtain⟨a,h⟩:=h;exact laP h hn
theorem w9.all(h:w9 S k sz c){n:Nat}(hn:0<n)(hl:n=c.length):j0 S n (.ptr k 0)=Option.some (.agg c):=by
 rw[h.la ⟨hn,by omega⟩,List.drop_zero,List.take_of_length_le (by omega)]
theorem w9.st(h:w9 S k sz c){i n:Nat}{v:D}{ds:List D}{K:D→b7→Prop}(hv:r7 v=Option.some ds)(hn:ds.length=n∧0<n∧i+n≤c.length)(hK:∀a,K b8 (S.set k ⟨sz,[o8 c i ds],a⟩)):f0 S n (.ptr k i) v K:=by
 obtain⟨a,h⟩:=h;exact stP h hv hn hK
end
def GrA(S0:b7)(av:List Nat)(t:D)(rows:List (List D))(sz:Nat)(S:b7):Prop:=
 (t= .nilSlc∧rows=[])∨∃k acs,S0 k=Option.none∧k ∉ av∧t= .raw k 0 rows.length rows.length false sz∧S k=some ⟨sz,rows,acs⟩
section
variable{S0 S:b7}{av:List Nat}{t:D}{rows:List (List D)}{sz:Nat}
theorem GrA.nil:GrA S0 av .nilSlc [] sz S:= .inl ⟨rfl,rfl⟩
theorem GrA.of(h:GrA S0 av t rows sz S){S':b7}(e:∀k o,k ∉ av→S k=some o→S' k=some o):GrA S0 av t rows sz S':=by
 rcases h with h|⟨k,acs,h0,h1,h2,h3⟩
 ·exact .inl h
 ·exact .inr ⟨k,acs,h0,h1,h2,e _ _ h1 h3⟩
theorem GrA.set(h:GrA S0 av t rows sz S){l:Nat}{o:L7}(hl:l∈av∨S l=Option.none):GrA S0 av t rows sz (S.set l o):=h.of fun k o' hk e=>by
 rw[b7.set_ne]
 ·exact e
 ·rintro rfl
  rcases hl with hl|hl
  ·exact hk hl
  ·rw[hl]at e;cases e
theorem GrA.le(h:GrA S0 av t rows sz S){S':b7}(hl:S.le S'):GrA S0 av t rows sz S':=h.of fun k o _ e=>hl _ _ e
theorem GrA.push(h:GrA S0 av t rows sz S)(hle:S0.le S)(hav:∀j∈av,S j≠Option.none){bytes:Nat}{v:D}{news:List (List D)}(hv:rowsS S sz v=some news)(hn:news≠[])(hb:0<bytes∧(2*(rows.length+news.length)+768)*bytes≤2^47){K:D→b7→Prop}
  (hK:∀t' S',S0.le S'→(∀j∈av,S' j=S j)→GrA S0 av t' (rows++news) sz S'→K t' S'):y9 S sz bytes t v K:=by
 simp only[y9,hv]
 rcases h with ⟨rfl,rfl⟩|⟨k,acs,h0,h1,rfl,h3⟩
 ·simp only[a4P]
  rw[if_neg hn]
  refine⟨⟨hb.1,by simpa using hb.2⟩, .inr fun k acs hk=>hK _ _ (b7.le_set hle (b7.none_of hle hk)) (fun j hj=>b7.set_ne _ _ _ fun e=>hav j hj (by rw[e];exact hk)) (.inr ⟨k,acs,b7.none_of hle hk,fun hm=>hav k hm hk,by simp,by simpa using b7.set_same _ _ _⟩)⟩
 ·simp only[a4P]
  rw[if_neg hn,h3]
  simp only
  rw[if_pos ⟨by trivial,by trivial,by omega⟩]
  have hke:∀j∈av,(S.erase k) j=S j:=fun j hj=>b7.erase_ne _ _ fun e=>h1 (e▸hj)
  refine⟨hb, .inr fun k' acs' hk'=> ?_⟩
  have hle':=b7.le_erase hle h0
  refine hK _ _ (b7.le_set hle' (b7.none_of hle' hk')) (fun j hj=> ?_) (.inr ⟨k',acs',b7.none_of hle' hk',fun hm=>hav k' hm (by rw[←hke k' hm];exact hk'),by simp, ?_⟩)
  ·rw[b7.set_ne,hke j hj]
   rintro rfl
   exact hav j hj (by rw[←hke j hj];exact hk')
  ·rw[b7.set_same];simp
theorem GrA.grw(h:GrA S0 av t rows sz S)(hle:S0.le S):∃S',S'.le S∧Grw S0 t rows sz S':=by
 rcases h with ⟨rfl,rfl⟩|⟨k,acs,h0,h1,rfl,h3⟩
 ·exact⟨S0,hle, .inl ⟨rfl,rfl,rfl⟩⟩
 ·refine⟨S0.set k ⟨sz,rows,acs⟩,fun j o e=> ?_, .inr ⟨k,acs,h0,rfl,rfl⟩⟩
  unfold b7.set at e
  split at e
  ·rename_i hj;subst hj;cases e;exact h3
  ·exact hle _ _ e
theorem GrA.len(h:GrA S0 av t rows sz S):r6 t=some (.int .i64 rows.length):=by
 rcases h with ⟨rfl,rfl⟩|⟨k,acs,_,_,rfl,_⟩<;>rfl
theorem GrA.cells(h:GrA S0 av t rows sz S):r7 t=some [t]:=by
 rcases h with ⟨rfl,rfl⟩|⟨k,acs,_,_,rfl,_⟩<;>rfl
end
theorem o4.fin{P:Program}{E:m6}{w0:o3}{f:FuncId}{ds:List D}{S:b7}{Q Q':D→b7→Prop}(h:o4 P E w0 f ds S Q)(hq:∀d S',Q d S'→d9 E Q' d S'):o4 P E w0 f ds S Q':=fun R H avs hF hC ha=>by
 refine c1M _ _ _ _ _ (h R H avs hF hC ha) fun v H' ⟨F',R',S',d,a,b,c,e⟩=> ?_
 obtain⟨R2,S2,d2,a2,b2,c2,e2⟩:=hq _ _ e R' H' v b c
 exact⟨F',R2,S2,d2,Fz.le_trans a a2,b2,c2,e2⟩
theorem d9.grwT{E:m6}{Q:D→b7→Prop}{S0 S:b7}{t:D}{rows:List (List D)}{sz:Nat}(h:Grw S0 t rows sz S){pre post:List D}(hQ:d9 E Q (.tup (pre++ .lst rows sz::post)) S0):d9 E Q (.tup (pre++t::post)) S:=by
 rcases h with ⟨rfl,rfl,rfl⟩|⟨k,acs,h0,rfl,rfl⟩
 ·exact d9.nilT hQ
 ·refine d9.freezeT (b7.set_same _ _ _) rfl (by simp) (Nat.le_refl _) ?_
  rw[b7.erase_set _ _ _ h0]
  simpa using hQ
end
end Go.Am
end
