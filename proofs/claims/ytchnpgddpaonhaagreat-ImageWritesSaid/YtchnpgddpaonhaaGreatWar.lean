/- A part of the proof of ImageWrites. -/
import Derived.Test.YtchnpgddpaonhaaGreatRows
import Derived.Test.YtchnpgddpaonhaaGreatWap
import Derived.KernelRfl
import Derived.Test.YtchnpgddpaonhaaGreatWaq
set_option linter.unusedVariables false
set_option linter.unusedSimpArgs false
set_option maxRecDepth 100000
section
open Go.Proofs Go Go.Am
namespace Go.Proofs.YtchnpgddpaonhaaGreat.d
def N6:List (Nat×List Nat):=[]
def M8:List (Nat×List Nat):=[(89,[0,4,5,6,13,29]),(101,[0,4,5,6,13,44]),(113,[0,5,6,13,50]),(137,[0,5,6,13,61])]
noncomputable def c2N:Code:=(j4 [1,1,1,0,1,0,1,1,1,1,1,1,1,1,1,1,1,1,1,1,1] (Tryz.f113.body.getD .skip))
def c1o(E:j6)(w0:World)(x:Bool)(Q:D→b9→Prop):o6→List D→b9→Prop:=
 (o8 0 (w6 Tryz.prog E w0 x N6 M8 (j4 [1,1,1,1] (Tryz.f113.body.getD .skip)) (z7 Tryz.prog Tryz.f113 Q)))
def b2d(E:j6)(w0:World)(x:Bool)(Q:D→b9→Prop)(x0 x5 x6 x13 x61:D)(S:b9):Prop:=
 j1 x61
 (b7 (j2 S 2 x5) fun v56=>
 q7 S 2 (m9 2 (List.replicate 1 [(.int .i64 0), .nilFn]) [(0,v56)]) 1 fun v57 S58=>
 Q (.tup [v57,(.bool true)]) S58)
 (b7 (i6 .eql x13 (.int .u8 52)) fun v59=>
 j1 v59
 (o9 Tryz.prog E w0 x u7 [(.int .i64 0),(.int .i64 255)] S fun v60 S61=>
 b7 (B8 (s5 [(.int .i64 0), .nilFn] [(0,1,(.int .i64 1)),(1,1,v60)])) fun v62=>
 q7 S61 2 (m9 2 (List.replicate 1 [(.int .i64 0), .nilFn]) [(0,v62)]) 1 fun v63 S64=>
 Q (.tup [v63,(.bool true)]) S64)
 (b7 (i6 .eql x13 (.int .u8 49)) fun v65=>
 j1 v65
 (b7 (j2 S 2 x6) fun v66=>
 q7 S 2 (m9 2 (List.replicate 1 [(.int .i64 0), .nilFn]) [(0,v66)]) 1 fun v67 S68=>
 Q (.tup [v67,(.bool true)]) S68)
 (b7 (i6 .geq x0 (.int .u8 11)) fun v69=>
 b7 (i4 (i0 v69 true) (some x0)) fun v70=>
 b7 (i4 (i0 v69 true) (i6 .leq v70 (.int .u8 28))) fun v71=>
 b7 (o7 v69 v71 (.bool false)) fun v72=>
 j1 v72
 (b7 (j2 S 2 x6) fun v73=>
 q7 S 2 (m9 2 (List.replicate 1 [(.int .i64 0), .nilFn]) [(0,v73)]) 1 fun v74 S75=>
 Q (.tup [v74,(.bool true)]) S75)
 (b7 (i6 .geq x0 (.int .u8 1)) fun v76=>
 b7 (i4 (i0 v76 true) (some x0)) fun v77=>
 b7 (i4 (i0 v76 true) (i6 .leq v77 (.int .u8 52))) fun v78=>
 b7 (o7 v76 v78 (.bool false)) fun v79=>
 Q (.tup [.nilSlc,v79]) S))))
def a0d(E:j6)(w0:World)(x:Bool)(Q:D→b9→Prop)(x0 x5 x6 x13 x61:D)(S:b9):Prop:=j0 Tryz.prog E w0 x c2N (j9 90 [0,5,6,13,61] [x0,x5,x6,x13,x61]) S (c1o E w0 x Q)
theorem b7M{E:j6}{w0:World}{x:Bool}{Q:D→b9→Prop}{x0 x5 x6 x13 x61:D}{S:b9}(h:b2d E w0 x Q x0 x5 x6 x13 x61 S):a0d E w0 x Q x0 x5 x6 x13 x61 S:=j3 N6 M8 m7 (by kernel_rfl) h
noncomputable def c3o:Code:=(j4 [1,1,1,0,1,0,1,1,1,1,1,1,1,1,1,1,1] (Tryz.f113.body.getD .skip))
def c1w(E:j6)(w0:World)(x:Bool)(Q:D→b9→Prop):o6→List D→b9→Prop:=
 (o8 0 (w6 Tryz.prog E w0 x N6 M8 (j4 [1,1,1,1] (Tryz.f113.body.getD .skip)) (z7 Tryz.prog Tryz.f113 Q)))
def b1W(E:j6)(w0:World)(x:Bool)(Q:D→b9→Prop)(x0 x5 x6 x13 x50:D)(S:b9):Prop:=
 j1 x50
 (o9 Tryz.prog E w0 x u7 [(.int .i64 1),(.int .i64 5)] S fun v46 S47=>
 b7 (B8 (s5 [(.int .i64 0), .nilFn] [(0,1,(.int .i64 1)),(1,1,v46)])) fun v48=>
 q7 S47 2 (m9 2 (List.replicate 1 [(.int .i64 0), .nilFn]) [(0,v48)]) 1 fun v49 S50=>
 Q (.tup [v49,(.bool true)]) S50)
 (b7 (i6 .eql x13 (.int .u8 29)) fun v51=>
 j1 v51
 (b7 (j2 S 2 x6) fun v52=>
 b7 (j2 S 2 x6) fun v53=>
 q7 S 2 (m9 2 (List.replicate 2 [(.int .i64 0), .nilFn]) [(0,v52),(1,v53)]) 2 fun v54 S55=>
 Q (.tup [v54,(.bool true)]) S55)
 (b7 (i6 .eql x13 (.int .u8 46)) fun v80=>
 j1 v80
 (a0d E w0 x Q x0 x5 x6 x13 v80 S)
 (b7 (i6 .eql x13 (.int .u8 47)) fun v81=>
 j1 v81
 (a0d E w0 x Q x0 x5 x6 x13 v81 S)
 (b7 (i6 .eql x13 (.int .u8 48)) fun v82=>
 a0d E w0 x Q x0 x5 x6 x13 v82 S))))
def a1V(E:j6)(w0:World)(x:Bool)(Q:D→b9→Prop)(x0 x5 x6 x13 x50:D)(S:b9):Prop:=j0 Tryz.prog E w0 x c3o (j9 90 [0,5,6,13,50] [x0,x5,x6,x13,x50]) S (c1w E w0 x Q)
theorem b7P{E:j6}{w0:World}{x:Bool}{Q:D→b9→Prop}{x0 x5 x6 x13 x50:D}{S:b9}(h:b1W E w0 x Q x0 x5 x6 x13 x50 S):a1V E w0 x Q x0 x5 x6 x13 x50 S:=j3 N6 M8 m7 (by kernel_rfl) h
noncomputable def c3U:Code:=(j4 [1,1,1,0,1,0,1,1,1,1,1,1,1,1,1] (Tryz.f113.body.getD .skip))
def c1Y(E:j6)(w0:World)(x:Bool)(Q:D→b9→Prop):o6→List D→b9→Prop:=
 (o8 0 (w6 Tryz.prog E w0 x N6 M8 (j4 [1,1,1,1] (Tryz.f113.body.getD .skip)) (z7 Tryz.prog Tryz.f113 Q)))
def b2b(E:j6)(w0:World)(x:Bool)(Q:D→b9→Prop)(x0 x4 x5 x6 x13 x44:D)(S:b9):Prop:=
 j1 x44
 (b7 (j2 S 2 x4) fun v42=>
 b7 (j2 S 2 x4) fun v43=>
 q7 S 2 (m9 2 (List.replicate 2 [(.int .i64 0), .nilFn]) [(0,v42),(1,v43)]) 2 fun v44 S45=>
 Q (.tup [v44,(.bool true)]) S45)
 (b7 (i6 .eql x13 (.int .u8 23)) fun v83=>
 j1 v83
 (a1V E w0 x Q x0 x5 x6 x13 v83 S)
 (b7 (i6 .eql x13 (.int .u8 24)) fun v84=>
 a1V E w0 x Q x0 x5 x6 x13 v84 S))
def a1S(E:j6)(w0:World)(x:Bool)(Q:D→b9→Prop)(x0 x4 x5 x6 x13 x44:D)(S:b9):Prop:=j0 Tryz.prog E w0 x c3U (j9 90 [0,4,5,6,13,44] [x0,x4,x5,x6,x13,x44]) S (c1Y E w0 x Q)
theorem b7S{E:j6}{w0:World}{x:Bool}{Q:D→b9→Prop}{x0 x4 x5 x6 x13 x44:D}{S:b9}(h:b2b E w0 x Q x0 x4 x5 x6 x13 x44 S):a1S E w0 x Q x0 x4 x5 x6 x13 x44 S:=j3 N6 M8 m7 (by kernel_rfl) h
noncomputable def c6n:Code:=(j4 [1,1,1,0,1,0,1,1,1,1,1,1,1] (Tryz.f113.body.getD .skip))
def c3A(E:j6)(w0:World)(x:Bool)(Q:D→b9→Prop):o6→List D→b9→Prop:=
 (o8 0 (w6 Tryz.prog E w0 x N6 M8 (j4 [1,1,1,1] (Tryz.f113.body.getD .skip)) (z7 Tryz.prog Tryz.f113 Q)))
def b4F(E:j6)(w0:World)(x:Bool)(Q:D→b9→Prop)(x0 x4 x5 x6 x13 x29:D)(S:b9):Prop:=
 j1 x29
 (b7 (j2 S 2 x4) fun v39=>
 q7 S 2 (m9 2 (List.replicate 1 [(.int .i64 0), .nilFn]) [(0,v39)]) 1 fun v40 S41=>
 Q (.tup [v40,(.bool true)]) S41)
 (b7 (i6 .eql x13 (.int .u8 37)) fun v85=>
 j1 v85
 (a1S E w0 x Q x0 x4 x5 x6 x13 v85 S)
 (b7 (i6 .eql x13 (.int .u8 38)) fun v86=>
 a1S E w0 x Q x0 x4 x5 x6 x13 v86 S))
def z9(E:j6)(w0:World)(x:Bool)(Q:D→b9→Prop)(x0 x4 x5 x6 x13 x29:D)(S:b9):Prop:=j0 Tryz.prog E w0 x c6n (j9 90 [0,4,5,6,13,29] [x0,x4,x5,x6,x13,x29]) S (c3A E w0 x Q)
theorem b8R{E:j6}{w0:World}{x:Bool}{Q:D→b9→Prop}{x0 x4 x5 x6 x13 x29:D}{S:b9}(h:b4F E w0 x Q x0 x4 x5 x6 x13 x29 S):z9 E w0 x Q x0 x4 x5 x6 x13 x29 S:=j3 N6 M8 m7 (by kernel_rfl) h
def c2C(E:j6)(w0:World)(x:Bool)(Q:D→b9→Prop)(a0:D)(S:b9):Prop:=
 o9 Tryz.prog E w0 x u7 [(.int .i64 0),(.int .i64 65535)] S fun v0 S1=>
 b7 (B8 (s5 [(.int .i64 0), .nilFn] [(0,1,(.int .i64 2)),(1,1,v0)])) fun v2=>
 o9 Tryz.prog E w0 x u7 [(.int .i64 0),(.int .i64 4294967295)] S1 fun v3 S4=>
 b7 (B8 (s5 [(.int .i64 0), .nilFn] [(0,1,(.int .i64 4)),(1,1,v3)])) fun v5=>
 m8 S4 [(.int .i64 0), .nilFn] fun v6 S7=>
 m8 S7 [(.int .i64 0), .nilFn] fun v8 S9=>
 j7 S9 2 v6 v2 fun v10 S11=>
 j7 S11 2 v8 v5 fun v12 S13=>
 o9 Tryz.prog E w0 x u7 [(.int .i64 1),(.int .i64 3)] S13 fun v14 S15=>
 b7 (B8 (s5 [(.int .i64 0), .nilFn] [(0,1,(.int .i64 1)),(1,1,v14)])) fun v16=>
 m8 S15 [(.int .i64 0), .nilFn] fun v17 S18=>
 j7 S18 2 v17 v16 fun v19 S20=>
 b7 (i6 .eql a0 (.int .u8 1)) fun v21=>
 j1 v21
 (o9 Tryz.prog E w0 x F3 [(.int .u8 1)] S20 fun v22 S23=>
 b7 (B8 (s5 [(.int .i64 0), .nilFn] [(0,1,(.int .i64 1)),(1,1,v22)])) fun v24=>
 q7 S23 2 (m9 2 (List.replicate 1 [(.int .i64 0), .nilFn]) [(0,v24)]) 1 fun v25 S26=>
 Q (.tup [v25,(.bool true)]) S26)
 (b7 (i6 .eql a0 (.int .u8 2)) fun v27=>
 j1 v27
 (o9 Tryz.prog E w0 x F3 [(.int .u8 2)] S20 fun v28 S29=>
 b7 (B8 (s5 [(.int .i64 0), .nilFn] [(0,1,(.int .i64 4)),(1,1,v28)])) fun v30=>
 q7 S29 2 (m9 2 (List.replicate 1 [(.int .i64 0), .nilFn]) [(0,v30)]) 1 fun v31 S32=>
 Q (.tup [v31,(.bool true)]) S32)
 (b7 (i6 .eql a0 (.int .u8 3)) fun v33=>
 j1 v33
 (o9 Tryz.prog E w0 x F3 [(.int .u8 3)] S20 fun v34 S35=>
 b7 (B8 (s5 [(.int .i64 0), .nilFn] [(0,1,(.int .i64 8)),(1,1,v34)])) fun v36=>
 q7 S35 2 (m9 2 (List.replicate 1 [(.int .i64 0), .nilFn]) [(0,v36)]) 1 fun v37 S38=>
 Q (.tup [v37,(.bool true)]) S38)
 (b7 (i6 .eql a0 (.int .u8 6)) fun v87=>
 j1 v87
 (z9 E w0 x Q a0 v6 v8 v17 a0 v87 S20)
 (b7 (i6 .eql a0 (.int .u8 7)) fun v88=>
 j1 v88
 (z9 E w0 x Q a0 v6 v8 v17 a0 v88 S20)
 (b7 (i6 .eql a0 (.int .u8 8)) fun v89=>
 j1 v89
 (z9 E w0 x Q a0 v6 v8 v17 a0 v89 S20)
 (b7 (i6 .eql a0 (.int .u8 50)) fun v90=>
 j1 v90
 (z9 E w0 x Q a0 v6 v8 v17 a0 v90 S20)
 (b7 (i6 .eql a0 (.int .u8 36)) fun v91=>
 j1 v91
 (z9 E w0 x Q a0 v6 v8 v17 a0 v91 S20)
 (b7 (i6 .eql a0 (.int .u8 39)) fun v92=>
 j1 v92
 (z9 E w0 x Q a0 v6 v8 v17 a0 v92 S20)
 (b7 (i6 .eql a0 (.int .u8 40)) fun v93=>
 j1 v93
 (z9 E w0 x Q a0 v6 v8 v17 a0 v93 S20)
 (b7 (i6 .eql a0 (.int .u8 41)) fun v94=>
 j1 v94
 (z9 E w0 x Q a0 v6 v8 v17 a0 v94 S20)
 (b7 (i6 .eql a0 (.int .u8 42)) fun v95=>
 j1 v95
 (z9 E w0 x Q a0 v6 v8 v17 a0 v95 S20)
 (b7 (i6 .eql a0 (.int .u8 43)) fun v96=>
 j1 v96
 (z9 E w0 x Q a0 v6 v8 v17 a0 v96 S20)
 (b7 (i6 .eql a0 (.int .u8 44)) fun v97=>
 j1 v97
 (z9 E w0 x Q a0 v6 v8 v17 a0 v97 S20)
 (b7 (i6 .eql a0 (.int .u8 45)) fun v98=>
 z9 E w0 x Q a0 v6 v8 v17 a0 v98 S20))))))))))))))
theorem c5i{E:j6}{w0:World}{x:Bool}{Q:D→b9→Prop}{a0:D}{S:b9}(h:c2C E w0 x (i9 E Q) a0 S):o9 Tryz.prog E w0 x a7B [a0] S Q:=
 l7 N6 M8 (fn:=Tryz.f113) (c:=Tryz.f113.body.getD .skip) m7 Tryz.func113 (by kernel_rfl) (by kernel_rfl) h
def d5W:List (Nat×List Nat):=[]
def d4X:List (Nat×List Nat):=[]
def d1q(E:j6)(w0:World)(x:Bool)(Q:D→b9→Prop)(a0 a1:D)(S:b9):Prop:=
 r6 S 1 1 a0 a1 fun v0 S1=>
 Q v0 S1
theorem d2K{E:j6}{w0:World}{x:Bool}{Q:D→b9→Prop}{a0 a1:D}{S:b9}(h:d1q E w0 x (i9 E Q) a0 a1 S):o9 Tryz.prog E w0 x b2u [a0,a1] S Q:=
 l7 d5W d4X (fn:=Tryz.f126) (c:=Tryz.f126.body.getD .skip) m7 Tryz.func126 (by kernel_rfl) (by kernel_rfl) h
def d0d:List (Nat×List Nat):=[]
def d0j:List (Nat×List Nat):=[]
def c2o(E:j6)(w0:World)(x:Bool)(Q:D→b9→Prop)(a0 a1 a2:D)(S:b9):Prop:=
 b7 (q6 a1) fun cs=>m8 S cs fun v0 S1=>
 b7 (E7 .u64 a2) fun v2=>
 b7 (i5 0 v0) fun v3=>
 b7 (b8 S1 v3) fun v4=>(True)∧
 DF E (J6 Tryz.prog E w0) a1W [v2,v4] S1 fun v5 S6=>(True)∧
 DF E (J6 Tryz.prog E w0) b2u [a0,v5] S6 fun v7 S8=>(True)∧
 b7 (i5 1 v0) fun v9=>
 b7 (b8 S8 v9) fun v10=>((b8 S6 (j5 (i5 1 v0))≠none∧p7 (j5 (i5 1 v0)) S6 S8)∧(b8 S1 (j5 (i5 1 v0))≠none∧p7 (j5 (i5 1 v0)) S1 S8)∧True)∧
 a3b Tryz.prog (DF E (J6 Tryz.prog E w0)) S8 v10 [a2] fun v11 S12=>(True)∧
 Q (.tup [v7,v11]) S12
theorem c5r{E:j6}{w0:World}{x:Bool}{Q:D→b9→Prop}{a0 a1 a2:D}{S:b9}(h:c2o E w0 x (i9 E Q) a0 a1 a2 S):o9 Tryz.prog E w0 x a1R [a0,a1,a2] S Q:=
 l7 d0d d0j (fn:=Tryz.f127) (c:=Tryz.f127.body.getD .skip) m7 Tryz.func127 (by kernel_rfl) (by kernel_rfl) h
def b5J:List (Nat×List Nat):=[(16,[0,3,6,7,8,33,34,35])]
def b5m:List (Nat×List Nat):=[]
noncomputable def b4g:Code:=(j4 [1,1,1,1,1,1,0,1,0,0] (Tryz.f128.body.getD .skip))
def b2S(E:j6)(w0:World)(x:Bool)(Q:D→b9→Prop):o6→List D→b9→Prop:=
 (o8 0 (w6 Tryz.prog E w0 x b5J b5m (j4 [1,1,1,1,1,1,1] (Tryz.f128.body.getD .skip)) (z7 Tryz.prog Tryz.f128 Q)))
def b2K(E:j6)(w0:World)(x:Bool)(N0:D→D→D→D→D→D→D→D→b9→Prop)(Q:D→b9→Prop)(x0 x3 x6 x7 x8 x33 x34 x35:D)(S:b9):Prop:=
 b7 (i6 .lss x35 x34) fun v34=>
 j1 v34
 (b7 (p6 2 x33 x35) fun v35=>
 b7 (j2 S 2 v35) fun v36=>
 m8 S [(.int .i64 0),(.int .i64 0)] fun v37 S38=>
 j7 S38 2 v37 v36 fun v39 S40=>
 b7 (j2 S40 2 x7) fun v41=>
 b7 (i5 0 v37) fun v42=>
 b7 (b8 S40 v42) fun v43=>
 o9 Tryz.prog E w0 x a1R [x0,v41,v43] S40 fun v44 S45=>
 b7 (o4 v44 0) fun v46=>
 b7 (o4 v44 1) fun v47=>
 b7 (j2 S45 2 x6) fun v48=>
 b7 (i5 1 v37) fun v49=>
 b7 (b8 S45 v49) fun v50=>
 o9 Tryz.prog E w0 x a1R [v46,v48,v50] S45 fun v51 S52=>
 b7 (o4 v51 0) fun v53=>
 b7 (o4 v51 1) fun v54=>
 b7 (i4 (i0 x8 true) (some v47)) fun v55=>
 b7 (o7 x8 v55 (.bool false)) fun v56=>
 b7 (i4 (i0 v56 true) (some v54)) fun v57=>
 b7 (o7 v56 v57 (.bool false)) fun v58=>
 b7 (i6 .add x35 (.int .i64 1)) fun v59=>
 N0 v53 x3 x6 x7 v58 x33 x34 v59 S52)
 (b7 (j2 S 2 x6) fun v60=>
 b7 (i5 2 x3) fun v61=>
 b7 (b8 S v61) fun v62=>
 o9 Tryz.prog E w0 x a1R [x0,v60,v62] S fun v63 S64=>
 b7 (o4 v63 0) fun v65=>
 b7 (o4 v63 1) fun v66=>
 b7 (i4 (i0 x8 true) (some v66)) fun v67=>
 b7 (o7 x8 v67 (.bool false)) fun v68=>
 Q (.tup [v65,v68]) S64)
theorem c5c{E:j6}{w0:World}{x:Bool}{N0:D→D→D→D→D→D→D→D→b9→Prop}{Q:D→b9→Prop}{x0 x3 x6 x7 x8 x33 x34 x35:D}{S:b9}(h:b2K E w0 x N0 Q x0 x3 x6 x7 x8 x33 x34 x35 S):
  j0 Tryz.prog E w0 x b4g (j9 76 [0,3,6,7,8,33,34,35] [x0,x3,x6,x7,x8,x33,x34,x35]) S (q8 (fun T S=>N0 (T.getD 0 d9) (T.getD 3 d9) (T.getD 6 d9) (T.getD 7 d9) (T.getD 8 d9) (T.getD 33 d9) (T.getD 34 d9) (T.getD 35 d9) S) (b2S E w0 x Q)):=j3 b5J b5m m7 (by kernel_rfl) h
theorem c5C{E:j6}{w0:World}{x:Bool}{Q:D→b9→Prop}(I:Nat→D→D→D→D→D→D→D→D→b9→Prop)
  (step:∀n x0 x3 x6 x7 x8 x33 x34 x35 S,I n x0 x3 x6 x7 x8 x33 x34 x35 S→b2K E w0 x (fun x0 x3 x6 x7 x8 x33 x34 x35 S=>∃m,m<n∧I m x0 x3 x6 x7 x8 x33 x34 x35 S) Q x0 x3 x6 x7 x8 x33 x34 x35 S)
  {n:Nat} {x0 x3 x6 x7 x8 x33 x34 x35:D} {S:b9} (h:I n x0 x3 x6 x7 x8 x33 x34 x35 S):j0 Tryz.prog E w0 x (.loop b4g) (j9 76 [0,3,6,7,8,33,34,35] [x0,x3,x6,x7,x8,x33,x34,x35]) S (b2S E w0 x Q):=
 o3 (k:=76) (n:=n) (I:=fun n T S=>I n (T.getD 0 d9) (T.getD 3 d9) (T.getD 6 d9) (T.getD 7 d9) (T.getD 8 d9) (T.getD 33 d9) (T.getD 34 d9) (T.getD 35 d9) S) (fun n T S hl hI=>o5 [0,3,6,7,8,33,34,35] hl (j0.mono (c5c (step n _ _ _ _ _ _ _ _ S hI)) fun ex T' S' _ hq=>by cases ex<;>exact hq)) (l8 ..) (Eq.mp (by kernel_rfl) h)
def c9x(E:j6)(w0:World)(x:Bool)(Q:D→b9→Prop)(a0 a1:D)(S:b9):Prop:=
 b7 (q6 a1) fun cs=>m8 S cs fun v0 S1=>
 o9 Tryz.prog E w0 x u7 [(.int .i64 0),(.int .i64 4294967295)] S1 fun v2 S3=>
 b7 (B8 (s5 [(.int .i64 0), .nilFn] [(0,1,(.int .i64 4)),(1,1,v2)])) fun v4=>
 m8 S3 [(.int .i64 0), .nilFn] fun v5 S6=>
 j7 S6 2 v5 v4 fun v7 S8=>
 b7 (i5 1 v0) fun v9=>
 b7 (b8 S8 v9) fun v10=>
 b7 (E7 .u8 v10) fun v11=>
 o9 Tryz.prog E w0 x F3 [v11] S8 fun v12 S13=>
 b7 (B8 (s5 [(.int .i64 0), .nilFn] [(0,1,(.int .i64 8)),(1,1,v12)])) fun v14=>
 m8 S13 [(.int .i64 0), .nilFn] fun v15 S16=>
 j7 S16 2 v15 v14 fun v17 S18=>
 b7 (i5 3 v0) fun v19=>
 b7 (b8 S18 v19) fun v20=>
 b7 (l9 v20) fun v21=>
 b7 (i6 .gtr v21 (.int .i64 65535)) fun v22=>
 j1 v22
 (Q (.tup [.nilSlc,(.bool false)]) S18)
 (b7 (i5 3 v0) fun v23=>
 b7 (b8 S18 v23) fun v24=>
 b7 (l9 v24) fun v25=>
 b7 (E7 .u64 v25) fun v26=>
 o9 Tryz.prog E w0 x a1W [v26,(.int .i64 2)] S18 fun v27 S28=>
 o9 Tryz.prog E w0 x b2u [a0,v27] S28 fun v29 S30=>
 b7 (i5 3 v0) fun v31=>
 b7 (b8 S30 v31) fun v32=>
 b7 (l9 v32) fun v33=>
 j0 Tryz.prog E w0 x (.loop b4g) (j9 76 [0,3,6,7,8,33,34,35] [v29,v0,v5,v15,(.bool true),v32,v33,(.int .i64 0)]) S30 (b2S E w0 x Q))
theorem d0u{E:j6}{w0:World}{x:Bool}{Q:D→b9→Prop}{a0 a1:D}{S:b9}(h:c9x E w0 x (i9 E Q) a0 a1 S):o9 Tryz.prog E w0 x b3x [a0,a1] S Q:=
 l7 b5J b5m (fn:=Tryz.f128) (c:=Tryz.f128.body.getD .skip) m7 Tryz.func128 (by kernel_rfl) (by kernel_rfl) h
def b1F:List (Nat×List Nat):=[(8,[1,4,5,6,21,22,23])]
def b0M:List (Nat×List Nat):=[]
def a3X(E:j6)(w0:World)(x:Bool)(N0:D→D→D→D→D→D→D→b9→Prop)(Q:D→b9→Prop)(x1 x4 x5 x6 x8 x9 x21 x22 x23:D)(S:b9):Prop:=
 b7 (j2 S 2 x8) fun v24=>
 o9 Tryz.prog E w0 x a1R [x6,v24,x9] S fun v25 S26=>
 b7 (o4 v25 0) fun v27=>
 b7 (o4 v25 1) fun v28=>
 b7 (i4 (i0 x5 true) (some v28)) fun v29=>
 b7 (o7 x5 v29 (.bool false)) fun v30=>
 b7 (i6 .add x23 (.int .i64 1)) fun v31=>
 N0 x1 x4 v30 v27 x21 x22 v31 S26
def I0(E:j6)(w0:World)(x:Bool)(Q:D→b9→Prop)(x5 x6:D)(S:b9):Prop:=
 b7 (unD .not x5) fun v35=>
 j1 v35
 (Q (.tup [.nilSlc,(.int .i64 120)]) S)
 (Q (.tup [x6,(.int .i64 0)]) S)
noncomputable def a9I:Code:=(j4 [1,1,1,0,1,0,0] (Tryz.f117.body.getD .skip))
def a8u(E:j6)(w0:World)(x:Bool)(Q:D→b9→Prop):o6→List D→b9→Prop:=
 (o8 0 (w6 Tryz.prog E w0 x b1F b0M (j4 [1,1,1,1] (Tryz.f117.body.getD .skip)) (z7 Tryz.prog Tryz.f117 Q)))
def a8R(E:j6)(w0:World)(x:Bool)(N0:D→D→D→D→D→D→D→b9→Prop)(Q:D→b9→Prop)(x1 x4 x5 x6 x21 x22 x23:D)(S:b9):Prop:=
 b7 (i6 .lss x23 x22) fun v15=>
 j1 v15
 (b7 (p6 2 x21 x23) fun v16=>
 b7 (j2 S 2 v16) fun v17=>
 m8 S [(.int .i64 0), .nilFn] fun v18 S19=>
 j7 S19 2 v18 v17 fun v20 S21=>
 b7 (i5 1 x1) fun v22=>
 b7 (b8 S21 v22) fun v23=>
 b7 (i6 .eql x23 (.int .i64 1)) fun v32=>
 j1 v32
 (b7 (i5 2 x1) fun v33=>
 b7 (b8 S21 v33) fun v34=>
 a3X E w0 x N0 Q x1 x4 x5 x6 v18 v34 x21 x22 x23 S21)
 (a3X E w0 x N0 Q x1 x4 x5 x6 v18 v23 x21 x22 x23 S21))
 (b7 (i5 0 x1) fun v36=>
 b7 (b8 S v36) fun v37=>
 b7 (i6 .eql v37 (.int .u8 49)) fun v38=>
 b7 (i4 (i0 v38 true) (some x5)) fun v39=>
 b7 (o7 v38 v39 (.bool false)) fun v40=>
 j1 v40
 (b7 (j2 S 4 x1) fun v41=>
 o9 Tryz.prog E w0 x b3x [x6,v41] S fun v42 S43=>
 b7 (o4 v42 0) fun v44=>
 b7 (o4 v42 1) fun v45=>
 I0 E w0 x Q v45 v44 S43)
 (b7 (i5 3 x1) fun v46=>
 b7 (b8 S v46) fun v47=>
 b7 (l9 v47) fun v48=>
 b7 (i6 .gtr v48 (.int .i64 0)) fun v49=>
 j1 v49
 (j1 v49
 (I0 E w0 x Q (.bool false) x6 S)
 (I0 E w0 x Q x5 x6 S))
 (b7 (l9 x4) fun v50=>
 b7 (i6 .lss v50 (.int .i64 2)) fun v51=>
 b7 (i4 (i0 v51 true) (i5 2 x1)) fun v52=>
 b7 (i4 (i0 v51 true) (b8 S v52)) fun v53=>
 b7 (i4 (i0 v51 true) (i6 .neq v53 (.int .i64 0))) fun v54=>
 b7 (o7 v51 v54 (.bool false)) fun v55=>
 j1 v55
 (j1 v55
 (I0 E w0 x Q (.bool false) x6 S)
 (I0 E w0 x Q x5 x6 S))
 (b7 (l9 x4) fun v56=>
 b7 (i6 .lss v56 (.int .i64 1)) fun v57=>
 b7 (i4 (i0 v57 true) (i5 1 x1)) fun v58=>
 b7 (i4 (i0 v57 true) (b8 S v58)) fun v59=>
 b7 (i4 (i0 v57 true) (i6 .neq v59 (.int .i64 0))) fun v60=>
 b7 (o7 v57 v60 (.bool false)) fun v61=>
 j1 v61
 (I0 E w0 x Q (.bool false) x6 S)
 (I0 E w0 x Q x5 x6 S)))))
theorem c0e{E:j6}{w0:World}{x:Bool}{N0:D→D→D→D→D→D→D→b9→Prop}{Q:D→b9→Prop}{x1 x4 x5 x6 x21 x22 x23:D}{S:b9}(h:a8R E w0 x N0 Q x1 x4 x5 x6 x21 x22 x23 S):
  j0 Tryz.prog E w0 x a9I (j9 83 [1,4,5,6,21,22,23] [x1,x4,x5,x6,x21,x22,x23]) S (q8 (fun T S=>N0 (T.getD 1 d9) (T.getD 4 d9) (T.getD 5 d9) (T.getD 6 d9) (T.getD 21 d9) (T.getD 22 d9) (T.getD 23 d9) S) (a8u E w0 x Q)):=j3 b1F b0M m7 (by kernel_rfl) h
theorem c1h{E:j6}{w0:World}{x:Bool}{Q:D→b9→Prop}(I:Nat→D→D→D→D→D→D→D→b9→Prop)
  (step:∀n x1 x4 x5 x6 x21 x22 x23 S,I n x1 x4 x5 x6 x21 x22 x23 S→a8R E w0 x (fun x1 x4 x5 x6 x21 x22 x23 S=>∃m,m<n∧I m x1 x4 x5 x6 x21 x22 x23 S) Q x1 x4 x5 x6 x21 x22 x23 S)
  {n:Nat} {x1 x4 x5 x6 x21 x22 x23:D} {S:b9} (h:I n x1 x4 x5 x6 x21 x22 x23 S):j0 Tryz.prog E w0 x (.loop a9I) (j9 83 [1,4,5,6,21,22,23] [x1,x4,x5,x6,x21,x22,x23]) S (a8u E w0 x Q):=
 o3 (k:=83) (n:=n) (I:=fun n T S=>I n (T.getD 1 d9) (T.getD 4 d9) (T.getD 5 d9) (T.getD 6 d9) (T.getD 21 d9) (T.getD 22 d9) (T.getD 23 d9) S) (fun n T S hl hI=>o5 [1,4,5,6,21,22,23] hl (j0.mono (c0e (step n _ _ _ _ _ _ _ S hI)) fun ex T' S' _ hq=>by cases ex<;>exact hq)) (l8 ..) (Eq.mp (by kernel_rfl) h)
def c1Z(E:j6)(w0:World)(x:Bool)(Q:D→b9→Prop)(a0:D)(S:b9):Prop:=
 b7 (q6 a0) fun cs=>m8 S cs fun v0 S1=>
 b7 (i5 0 v0) fun v2=>
 b7 (b8 S1 v2) fun v3=>
 o9 Tryz.prog E w0 x a7B [v3] S1 fun v4 S5=>
 b7 (o4 v4 0) fun v6=>
 b7 (o4 v4 1) fun v7=>
 b7 (i5 0 v0) fun v8=>
 b7 (b8 S5 v8) fun v9=>
 q7 S5 1 (m9 1 (List.replicate 1 [(.int .u8 0)]) [(0,v9)]) 1 fun v10 S11=>
 o9 Tryz.prog E w0 x b2u [.nilSlc,v10] S11 fun v12 S13=>
 b7 (l9 v6) fun v14=>
 j0 Tryz.prog E w0 x (.loop a9I) (j9 83 [1,4,5,6,21,22,23] [v0,v6,v7,v12,v6,v14,(.int .i64 0)]) S13 (a8u E w0 x Q)
theorem c6A{E:j6}{w0:World}{x:Bool}{Q:D→b9→Prop}{a0:D}{S:b9}(h:c1Z E w0 x (i9 E Q) a0 S):o9 Tryz.prog E w0 x b2I [a0] S Q:=
 l7 b1F b0M (fn:=Tryz.f117) (c:=Tryz.f117.body.getD .skip) m7 Tryz.func117 (by kernel_rfl) (by kernel_rfl) h
def d3V:List (Nat×List Nat):=[]
def d3p:List (Nat×List Nat):=[]
def c8E(E:j6)(w0:World)(x:Bool)(Q:D→b9→Prop)(a0:D)(S:b9):Prop:=
 b7 (q6 a0) fun cs=>m8 S cs fun v0 S1=>
 b7 (j2 S1 4 v0) fun v2=>
 o9 Tryz.prog E w0 x b2I [v2] S1 fun v3 S4=>
 b7 (o4 v3 0) fun v5=>
 b7 (o4 v3 1) fun v6=>
 b7 (l9 v5) fun v7=>
 Q v7 S4
theorem d0s{E:j6}{w0:World}{x:Bool}{Q:D→b9→Prop}{a0:D}{S:b9}(h:c8E E w0 x (i9 E Q) a0 S):o9 Tryz.prog E w0 x b9n [a0] S Q:=
 l7 d3V d3p (fn:=Tryz.f99) (c:=Tryz.f99.body.getD .skip) m7 Tryz.func99 (by kernel_rfl) (by kernel_rfl) h
end Go.Proofs.YtchnpgddpaonhaaGreat.d
end
section
open Go.Proofs Go Go.Am Go.Op
namespace Go.Proofs.YtchnpgddpaonhaaGreat.d
section
def fR(l:List Fld):List (List D):=l.map fun f=>[.int .i64 (f.size:Int),a0F f.lo f.hi]
def a5N(op:Int):List (List D):=if op=1 then[[.int .i64 1,a9Y 1]]else if op=2 then[[.int .i64 4,a9Y 2]]else if op=3 then[[.int .i64 8,a9Y 3]]else fR ((lay op).getD [])
section
variable{E:j6}{w0:World}{x:Bool}{S:b9}{Q:D→b9→Prop}{k4 k5 k6:Nat}{a4 a5 a6:List AV}{op:Int}{b:Bool}
theorem a5P{n:Int}{v:D}(h:q6 v=some [v]):B8 (s5 [(.int .i64 0), .nilFn] [(0,1,(.int .i64 n)),(1,1,v)])=some (.agg [.int .i64 n,v]):=by
 simp[s5,h,o0]
@[simp] theorem b8v(lo hi:Int):q6 (a0F lo hi)=some [a0F lo hi]:=(rfl)
@[simp] theorem c7L(w:Int):q6 (a9Y w)=some [a9Y w]:=(rfl)
theorem a7i{n:Int}{v:D}{K:D→b9→Prop}(h:K (.lst [[.int .i64 n,v]] 2) S):q7 S 2 (m9 2 (List.replicate 1 [(.int .i64 0), .nilFn]) [(0, .agg [.int .i64 n,v])]) 1 K:=by
 simp only[m9,J5,List.length_cons,List.length_nil,List.replicate,List.set]
 rw[if_pos (by decide)]
 exact F5 rfl h
theorem d6y{n:Int}{v:D}{K:D→b9→Prop}(h:K (.lst [[.int .i64 n,v],[.int .i64 n,v]] 2) S):q7 S 2 (m9 2 (List.replicate 2 [(.int .i64 0), .nilFn]) [(0, .agg [.int .i64 n,v]),(1, .agg [.int .i64 n,v])]) 2 K:=by
 simp only[m9,J5,List.length_cons,List.length_nil,List.replicate,List.set]
 rw[if_pos (by decide),if_pos (by decide)]
 exact F5 rfl h
theorem bx{k:Nat}{n:Int}{v:D}{acs:List AV}(h:S k=some ⟨2,[[.int .i64 n,v]],acs⟩):j2 S 2 (.ptr k 0)=some (.agg [.int .i64 n,v]):=laP h ⟨by decide,by simp⟩
theorem d4U(h5:S k5=some ⟨2,[[.int .i64 4,a0F 0 4294967295]],a5⟩)(h6:S k6=some ⟨2,[[.int .i64 1,a0F 1 3]],a6⟩)(hQ:i9 E Q (.tup [.lst (fR ((d5c b op).getD [])) 2, .bool (d5c b op).isSome]) S):
  a0d E w0 x (i9 E Q) (.int .u8 op) (.ptr k5 0) (.ptr k6 0) (.int .u8 op) (.bool b) S:=by
 refine b7M ?_
 unfold b2d
 unfold d5c at hQ
 have nilq:i9 E Q (.tup [.lst [] 2, .bool true]) S→i9 E Q (.tup [.nilSlc, .bool true]) S:=fun h=>i9.nilT (lp:=[]) (sz:=2) h
 have nilf:i9 E Q (.tup [.lst [] 2, .bool false]) S→i9 E Q (.tup [.nilSlc, .bool false]) S:=fun h=>i9.nilT (lp:=[]) (sz:=2) h
 cases b with
 |true=>rw[cdT,bx h5,oD];exact a7i hQ
 |false=>
  rw[cdF,Y4,oD,cdB]
  simp only[Bool.false_eq_true,if_false]at hQ
  refine⟨fun h=> ?_,fun h=> ?_⟩
  ·rw[if_pos (by simpa using h)]at hQ
   refine I4.use ?_
   rw[a5P (b8v _ _),oD]
   exact a7i hQ
  rw[if_neg (by simpa using h)]at hQ
  rw[Y4,oD,cdB]
  refine⟨fun h=> ?_,fun h=> ?_⟩
  ·rw[if_pos (by simpa using h)]at hQ;rw[bx h6,oD];exact a7i hQ
  rw[if_neg (by simpa using h)]at hQ
  by_cases h1:11≤op
  ·by_cases h2:op≤28
   ·rw[if_pos ⟨h1,h2⟩]at hQ
    simp[h1,h2,bx h6]
    exact a7i hQ
   ·rw[if_neg (by omega)]at hQ
    simp[h1,h2]
    by_cases h3:op≤52
    ·rw[if_pos (by omega)]at hQ
     simp[show(1:Int)≤op by omega,h3]
     exact nilq hQ
    ·rw[if_neg (by omega)]at hQ
     simp[show(1:Int)≤op by omega,h3]
     exact nilf hQ
  ·rw[if_neg (by omega)]at hQ
   simp[h1]
   by_cases h3:1≤op
   ·rw[if_pos (by omega)]at hQ
    simp[h3,show op≤52 by omega]
    exact nilq hQ
   ·rw[if_neg (by omega)]at hQ
    simp[h3]
    exact nilf hQ
theorem d9e(h5:S k5=some ⟨2,[[.int .i64 4,a0F 0 4294967295]],a5⟩)(h6:S k6=some ⟨2,[[.int .i64 1,a0F 1 3]],a6⟩)(hQ:i9 E Q (.tup [.lst (fR ((d5h b op).getD [])) 2, .bool (d5h b op).isSome]) S):
  a1V E w0 x (i9 E Q) (.int .u8 op) (.ptr k5 0) (.ptr k6 0) (.int .u8 op) (.bool b) S:=by
 refine b7P ?_
 unfold b1W
 unfold d5h at hQ
 cases b with
 |true=>
  rw[cdT]
  refine I4.use ?_
  rw[a5P (b8v _ _),oD]
  exact a7i hQ
 |false=>
  rw[cdF,Y4,oD,cdB]
  simp only[Bool.false_eq_true,if_false]at hQ
  refine⟨fun h=> ?_,fun h=> ?_⟩
  ·rw[if_pos (by simpa using h)]at hQ;rw[bx h6,oD,oD];exact d6y hQ
  rw[if_neg (by simpa using h)]at hQ
  simp only[Y4,oD,cdB]
  refine⟨fun h=> ?_,fun h=>⟨fun h'=> ?_,fun h'=> ?_⟩⟩
  ·rw[h];refine d4U h5 h6 ?_;simpa [h]using hQ
  ·rw[h'];refine d4U h5 h6 ?_;simpa [h,h']using hQ
  ·refine d4U h5 h6 ?_;simpa [h,h']using hQ
theorem d8K(h4:S k4=some ⟨2,[[.int .i64 2,a0F 0 65535]],a4⟩)(h5:S k5=some ⟨2,[[.int .i64 4,a0F 0 4294967295]],a5⟩)(h6:S k6=some ⟨2,[[.int .i64 1,a0F 1 3]],a6⟩)(hQ:i9 E Q (.tup [.lst (fR ((d5t b op).getD [])) 2, .bool (d5t b op).isSome]) S):
  a1S E w0 x (i9 E Q) (.int .u8 op) (.ptr k4 0) (.ptr k5 0) (.ptr k6 0) (.int .u8 op) (.bool b) S:=by
 refine b7S ?_
 unfold b2b
 unfold d5t at hQ
 cases b with
 |true=>rw[cdT,bx h4,oD,oD];exact d6y hQ
 |false=>
  rw[cdF]
  simp only[Bool.false_eq_true,if_false]at hQ
  simp only[Y4,oD,cdB]
  refine⟨fun h=> ?_,fun h=> ?_⟩
  ·rw[h];refine d9e h5 h6 ?_;simpa [h]using hQ
  ·refine d9e h5 h6 ?_;simpa [h]using hQ
theorem e1k(h4:S k4=some ⟨2,[[.int .i64 2,a0F 0 65535]],a4⟩)(h5:S k5=some ⟨2,[[.int .i64 4,a0F 0 4294967295]],a5⟩)(h6:S k6=some ⟨2,[[.int .i64 1,a0F 1 3]],a6⟩)(hQ:i9 E Q (.tup [.lst (fR ((d3Y b op).getD [])) 2, .bool (d3Y b op).isSome]) S):
  z9 E w0 x (i9 E Q) (.int .u8 op) (.ptr k4 0) (.ptr k5 0) (.ptr k6 0) (.int .u8 op) (.bool b) S:=by
 refine b8R ?_
 unfold b4F
 unfold d3Y at hQ
 cases b with
 |true=>rw[cdT,bx h4,oD];exact a7i hQ
 |false=>
  rw[cdF]
  simp only[Bool.false_eq_true,if_false]at hQ
  simp only[Y4,oD,cdB]
  refine⟨fun h=> ?_,fun h=> ?_⟩
  ·rw[h];refine d8K h4 h5 h6 ?_;simpa [h]using hQ
  ·refine d8K h4 h5 h6 ?_;simpa [h]using hQ
theorem b8H:L1 Tryz.prog E w0 a7B [.int .u8 op] (.tup [.lst (a5N op) 2, .bool (lay op).isSome]):=fun x S0=>by
 refine c5i ?_
 unfold c2C
 refine I4.use ?_
 rw[a5P (b8v _ _),oD]
 refine I4.use ?_
 rw[a5P (b8v _ _),oD]
 intro k4 a4 n4 k5 a5 n5
 obtain⟨ne5,n5'⟩:=b9.fresh n5
 refine stP (ds:=[.int .i64 2,a0F 0 65535]) (by rw[b9.set_ne _ _ _ (Ne.symm ne5)];exact b9.set_same _ _ _) (J5 _) ⟨rfl,by decide,by simp⟩ fun a4=> ?_
 rw[b9.set_in _ (Ne.symm ne5)]
 refine stP (ds:=[.int .i64 4,a0F 0 4294967295]) (b9.set_same _ _ _) (J5 _) ⟨rfl,by decide,by simp⟩ fun a5=> ?_
 rw[b9.set_set]
 refine I4.use ?_
 rw[a5P (b8v _ _),oD]
 intro k6 a6 n6
 refine stP (ds:=[.int .i64 1,a0F 1 3]) (b9.set_same _ _ _) (J5 _) ⟨rfl,by decide,by simp⟩ fun a6=> ?_
 rw[b9.set_set]
 obtain⟨ne6,n6'⟩:=b9.fresh n6
 obtain⟨ne6',n6''⟩:=b9.fresh n6'
 generalize hS:((S0.set k4 _).set k5 _).set k6 _=S
 have hle:S0.le S:=by rw[←hS];exact b9.le_set (b9.le_set (b9.le_new n4) n5') n6''
 have h6:S k6=some ⟨2,[[.int .i64 1,a0F 1 3]],a6⟩:=by rw[←hS];exact b9.set_same _ _ _
 have h5:S k5=some ⟨2,[[.int .i64 4,a0F 0 4294967295]],a5⟩:=by rw[←hS,b9.set_ne _ _ _ (Ne.symm ne6)];exact b9.set_same _ _ _
 have h4:S k4=some ⟨2,[[.int .i64 2,a0F 0 65535]],a4⟩:=by rw[←hS,b9.set_ne _ _ _ (Ne.symm ne6'),b9.set_ne _ _ _ (Ne.symm ne5)];exact b9.set_same _ _ _
 have hQ:i9 E (fun d' S'=>d'= .tup [.lst (a5N op) 2, .bool (lay op).isSome]∧S'=S0) (.tup [.lst (a5N op) 2, .bool (lay op).isSome]) S:=i9.less hle i9.pure
 clear hS
 generalize hQ0:(fun d' S'=>d'=D.tup [.lst (a5N op) 2, .bool (lay op).isSome]∧S'=S0)=Q0 at hQ ⊢
 clear hQ0
 simp only[Y4,oD,cdB,beq_iff_eq,beq_eq_false_iff_ne,ne_eq]
 refine⟨fun h=> ?_,fun g1=>⟨fun h=> ?_,fun g2=>⟨fun h=> ?_,fun g3=> ?_⟩⟩⟩
 ·refine a1M.use ?_
  rw[a5P (c7L _),oD]
  refine a7i ?_
  rw[h]at hQ;exact hQ
 ·refine a1M.use ?_
  rw[a5P (c7L _),oD]
  refine a7i ?_
  rw[h]at hQ;exact hQ
 ·refine a1M.use ?_
  rw[a5P (c7L _),oD]
  refine a7i ?_
  rw[h]at hQ;exact hQ
 have e:lay op=d3Y (op==6||op==7||op==8||op==50||op==36||op==39||op==40||op==41||op==42||op==43||op==44||op==45) op:=by unfold lay;rw[if_neg g1,if_neg g2,if_neg g3]
 rw[show a5N op=fR ((lay op).getD []) by unfold a5N;rw[if_neg g1,if_neg g2,if_neg g3],e]at hQ
 generalize hb:(op==6||op==7||op==8||op==50||op==36||op==39||op==40||op==41||op==42||op==43||op==44||op==45)=b at hQ
 have fin:∀c:Bool,c=b→z9 E w0 x (i9 E Q0) (.int .u8 op) (.ptr k4 0) (.ptr k5 0) (.ptr k6 0) (.int .u8 op) (.bool c) S:=by
  rintro c rfl
  exact e1k h4 h5 h6 hQ
 refine⟨fun h=>fin _ (by rw[←hb];simp[h]),fun h1=>⟨fun h=>fin _ (by rw[←hb];simp[h]),fun h2=>⟨fun h=>fin _ (by rw[←hb];simp[h]),fun h3=>⟨fun h=>fin _ (by rw[←hb];simp[h]),fun h4=>⟨fun h=>fin _ (by rw[←hb];simp[h]),fun h5=>⟨fun h=>fin _ (by rw[←hb];simp[h]),fun h6=>
  ⟨fun h=>fin _ (by rw[←hb];simp[h]),fun h7=>⟨fun h=>fin _ (by rw[←hb];simp[h]),fun h8=>⟨fun h=>fin _ (by rw[←hb];simp[h]),fun h9=>⟨fun h=>fin _ (by rw[←hb];simp[h]),fun h10=>⟨fun h=>fin _ (by rw[←hb];simp[h]),fun h11=>fin _ (by rw[←hb];simp[h1,h2,h3,h4,h5,h6,h7,h8,h9,h10,h11])⟩⟩⟩⟩⟩⟩⟩⟩⟩⟩⟩
end
end
section
theorem d4u(n:Int){i:Nat}(hi:i<8):a2V (n % 18446744073709551616) i=a2V n i:=by
 have h:i=0∨i=1∨i=2∨i=3∨i=4∨i=5∨i=6∨i=7:=by omega
 rcases h with rfl|rfl|rfl|rfl|rfl|rfl|rfl|rfl<;>simp[a2V]<;>omega
theorem b2c(n:Int){s:Nat}(hs:s≤8):F6 (n % 18446744073709551616) s=F6 n s:=by
 unfold F6
 refine List.map_congr_left fun i hi=>d4u n ?_
 have:=List.mem_range.1 hi
 omega
abbrev a3L(S0:b9)(t:D)(bs:List Int)(S:b9):Prop:=Grw S0 t (y9 (bs.map (D.int .u8))) 1 S
def c5G(fv:D)(lo hi:Int):Prop:=fv=a0F lo hi∨∃w,fv=a9Y w∧lo=a1D w∧hi=a1B w
theorem c5G.bet(lo hi:Int):c5G (a0F lo hi) lo hi:= .inl rfl
theorem c5G.fit(w:Int):c5G (a9Y w) (a1D w) (a1B w):= .inr ⟨w,rfl,rfl,rfl⟩
theorem c5G.cells{fv:D}{lo hi:Int}(h:c5G fv lo hi):q6 fv=some [fv]:=by
 rcases h with rfl|⟨w,rfl,_⟩<;>rfl
theorem e3b:b2X Tryz.prog a0D=true:=by kernel_rfl
theorem e3j:b2X Tryz.prog a3O=true:=by kernel_rfl
def c9b(row:List D)(f:Fld):Prop:=∃fv,row=[.int .i64 (f.size:Int),fv]∧c5G fv f.lo f.hi
theorem d4J{op:Int}{i:Nat}{f:Fld}(h:((lay op).getD [])[i]? =some f):∃row,(a5N op)[i]? =some row∧c9b row f:=by
 unfold a5N
 by_cases h1:op=1
 ·have e:lay op=some [⟨1,a1D 1,a1B 1⟩]:=by unfold lay;rw[if_pos h1]
  rw[e]at h
  rw[if_pos h1]
  cases i with
  |zero=>cases h;exact⟨_,rfl,_,rfl, .fit 1⟩
  |succ i=>cases h
 rw[if_neg h1]
 by_cases h2:op=2
 ·have e:lay op=some [⟨4,a1D 2,a1B 2⟩]:=by unfold lay;rw[if_neg h1,if_pos h2]
  rw[e]at h
  rw[if_pos h2]
  cases i with
  |zero=>cases h;exact⟨_,rfl,_,rfl, .fit 2⟩
  |succ i=>cases h
 rw[if_neg h2]
 by_cases h3:op=3
 ·have e:lay op=some [⟨8,a1D 3,a1B 3⟩]:=by unfold lay;rw[if_neg h1,if_neg h2,if_pos h3]
  rw[e]at h
  rw[if_pos h3]
  cases i with
  |zero=>cases h;exact⟨_,rfl,_,rfl, .fit 3⟩
  |succ i=>cases h
 rw[if_neg h3]
 exact⟨_,by unfold fR;rw[List.getElem?_map,h];rfl,_,rfl, .bet _ _⟩
theorem a7q{op:Int}:(a5N op).length=((lay op).getD []).length:=by
 unfold a5N
 by_cases h1:op=1
 ·rw[if_pos h1];unfold lay;rw[if_pos h1];rfl
 rw[if_neg h1]
 by_cases h2:op=2
 ·rw[if_pos h2];unfold lay;rw[if_neg h1,if_pos h2];rfl
 rw[if_neg h2]
 by_cases h3:op=3
 ·rw[if_pos h3];unfold lay;rw[if_neg h1,if_neg h2,if_pos h3];rfl
 rw[if_neg h3,fR,List.length_map]
section
variable{E:j6}{w0:World}{x:Bool}{S0 S:b9}{t:D}{bs ms:List Int}
theorem c8O{fv:D}{lo hi n:Int}(h:c5G fv lo hi)(hn:I64 n){K:D→b9→Prop}(hK:K (.bool (decide (lo≤n∧n≤hi))) S):a3b Tryz.prog (o9 Tryz.prog E w0 x) S fv [.int .i64 n] K:=by
 rcases h with rfl|⟨w,rfl,rfl,rfl⟩
 ·simp only[a0F,a3b,b5S,e3b,if_true]
  exact c3g.use hK
 ·simp only[a9Y,a3b,b5S,e3j,if_true]
  exact(d0y hn).use hK
theorem b9v(h:a3L S0 t bs S)(hl:bs.length+ms.length<2^44):o9 Tryz.prog E w0 x b2u [t,bD ms] S fun v S'=>a3L S0 v (bs++ms) S':=by
 refine d2K ?_
 unfold d1q
 refine h.push (a7h _ _) ⟨by decide,by simp only[W0,List.length_map];omega⟩ fun t' S' h'=>i9.here ?_
 unfold a3L
 rw[List.map_append,a0h]
 exact h'
theorem a5H(h:a3L S0 t bs S){row:List D}{f:Fld}(hf:c9b row f){n:Int}(hn:I64 n)(h1:1≤f.size)(h8:f.size≤8)(hl:bs.length<2^40):o9 Tryz.prog E w0 x a1R [t, .agg row, .int .i64 n] S fun v S'=>
  ∃t',v= .tup [t', .bool (f.may n)]∧a3L S0 t' (bs++F6 n f.size) S':=by
 obtain⟨fv,rfl,hm⟩:=hf
 refine c5r ?_
 unfold c2o
 rw[J5,oD]
 intro k acs hk
 have hbox:∀ {S':b9},(S.set k ⟨2,[[.int .i64 (f.size:Int),fv]],acs⟩).le S'∨S' k=some ⟨2,[[.int .i64 (f.size:Int),fv]],acs⟩→S' k=some ⟨2,[[.int .i64 (f.size:Int),fv]],acs⟩:=fun h=>h.elim (fun h=>h _ _ (b9.set_same _ _ _)) id
 rw[cvI,oD,u5,oD,D5 (b9.set_same _ _ _),List.getElem?_cons_zero,oD]
 refine⟨by trivial,(a5F h1 h8).useX ⟨by trivial, ?_⟩⟩
 rw[a2z,b2c n h8]
 have hg:=h.under (o:=⟨2,[[.int .i64 (f.size:Int),fv]],acs⟩) hk
 refine o9.toX (b9v hg (by rw[s7];omega)) fun v S' hg'=>⟨by trivial, ?_⟩
 have hb:S' k=some ⟨2,[[.int .i64 (f.size:Int),fv]],acs⟩:=hg'.le _ _ (b9.set_same _ _ _)
 have e1:b8 S' (.ptr k (0+1))=some fv:=by rw[D5 hb];rfl
 have e0:b8 (S.set k ⟨[D.int .i64 (f.size:Int),fv].length,[[.int .i64 (f.size:Int),fv]],acs⟩) (.ptr k (0+1))=some fv:=by rw[D5 (b9.set_same _ _ _)];rfl
 have hk0:S0 k=none:=by
  cases e:S0 k with
  |none=>rfl
  |some o=>rw[h.le _ _ e]at hk;cases hk
 rw[u5,oD,e1,oD]
 simp only[j5,fwP,e0]
 refine⟨⟨⟨by simp, ?_⟩,⟨by simp, ?_⟩,by trivial⟩, ?_⟩
 ·rw[hb];exact(b9.set_same _ _ _).symm
 ·rw[hb];exact(b9.set_same _ _ _).symm
 refine c8O (x:=true) hm hn ⟨by trivial, ?_⟩
 obtain⟨S2,hle,hg2⟩:=hg'.drop hk0
 exact i9.less hle (i9.here ⟨v,rfl,hg2⟩)
end
end
section
def a0g(y:Int×Int):List D:=[.int .i64 y.1, .int .i64 y.2]
def a7v(arms:List (Int×Int)):D:= .lst (arms.map a0g) 2
def J2(y:In):List D:=[.int .u8 y.op, .int .i64 y.a, .int .i64 y.b,a7v y.arms]
def inD(y:In):D:= .agg (J2 y)
def c6Z(y:In):List Int:=if isS y=true then b7X y else[]
section
variable{E:j6}{w0:World}{x:Bool}{S0 S:b9}{t:D}{bs ms:List Int}
@[simp] theorem b5o(arms:List (Int×Int)):l9 (a7v arms)=some (.int .i64 arms.length):=by simp[a7v]
theorem d2s{arms:List (Int×Int)}{i:Nat}{y:Int×Int}(h:arms[i]? =some y):p6 2 (a7v arms) (.int .i64 (i:Int))=some (.elt (a0g y) 0):=b9k (by rw[List.getElem?_map,h];rfl)
theorem d4I(h:a3L S0 t bs S){y:In}(ho:y.Ok)(h49:y.op=49)(hl:bs.length<2^30):o9 Tryz.prog E w0 x b3x [t,inD y] S fun v S'=>
  ∃t' bs',v= .tup [t', .bool (decide (y.arms.length≤65535)&&y.arms.all (b4z (IntKind.u8.wrap y.a))&&K2.may y.b)]∧a3L S0 t' bs' S'∧(y.arms.length≤65535→bs'=bs++(F6 y.arms.length 2++a4U y.arms++F6 y.b 4)):=by
 refine d0u ?_
 unfold c9x
 rw[inD,J5,oD]
 intro k0 a0 n0
 refine I4.use ?_
 rw[a5P (b8v _ _),oD]
 intro k5 a5 n5
 refine stP (ds:=[.int .i64 4,a0F 0 4294967295]) (b9.set_same _ _ _) (J5 _) ⟨rfl,by decide,by simp⟩ fun a5=> ?_
 rw[b9.set_set]
 obtain⟨ne5,n5'⟩:=b9.fresh n5
 have l0:∀ {S':b9},(S.set k0 ⟨(J2 y).length,[J2 y],a0⟩).le S'→∀i,b8 S' (.ptr k0 i)=(J2 y)[i]? :=fun h i=>D5 (h _ _ (b9.set_same _ _ _))
 rw[u5,oD,l0 (b9.le_new n5),show(J2 y)[0+1]? =some (.int .i64 y.a) from rfl,oD,cvI,oD]
 refine a1M.use ?_
 rw[a5P (c7L _),oD]
 intro k6 a6 n6
 refine stP (ds:=[.int .i64 8,a9Y (IntKind.u8.wrap y.a)]) (b9.set_same _ _ _) (J5 _) ⟨rfl,by decide,by simp⟩ fun a6=> ?_
 rw[b9.set_set]
 have g0:=h.under (o:=⟨(J2 y).length,[J2 y],a0⟩) n0
 have g5:=g0.under (o:=⟨[D.int .i64 0, .nilFn].length,[o0 [D.int .i64 0, .nilFn] 0 [.int .i64 4,a0F 0 4294967295]],a5⟩) n5
 have g6:=g5.under (o:=⟨[D.int .i64 0, .nilFn].length,[o0 [D.int .i64 0, .nilFn] 0 [.int .i64 8,a9Y (IntKind.u8.wrap y.a)]],a6⟩) n6
 have z0:S0 k0=none:=by
  cases e:S0 k0 with
  |none=>rfl
  |some o=>rw[h.le _ _ e]at n0;cases n0
 obtain⟨B,hB⟩:∃B,B=((S0.set k0 ⟨(J2 y).length,[J2 y],a0⟩).set k5 ⟨[D.int .i64 0, .nilFn].length,[o0 [D.int .i64 0, .nilFn] 0 [.int .i64 4,a0F 0 4294967295]],a5⟩).set k6 ⟨[D.int .i64 0, .nilFn].length,[o0 [D.int .i64 0, .nilFn] 0 [.int .i64 8,a9Y (IntKind.u8.wrap y.a)]],a6⟩:=⟨_,rfl⟩
 rw[←hB]at g6
 generalize (((S.set k0 _).set k5 _).set k6 _)=S1 at g6 ⊢
 obtain⟨ne6,n6'⟩:=b9.fresh n6
 obtain⟨ne6',n6''⟩:=b9.fresh n6'
 have b0:B k0=some ⟨4,[J2 y],a0⟩:=by rw[hB,b9.set_ne _ _ _ (Ne.symm ne6'),b9.set_ne _ _ _ (Ne.symm ne5)];exact b9.set_same _ _ _
 have b5:B k5=some ⟨2,[[.int .i64 4,a0F 0 4294967295]],a5⟩:=by rw[hB,b9.set_ne _ _ _ (Ne.symm ne6)];exact b9.set_same _ _ _
 have b6:B k6=some ⟨2,[[.int .i64 8,a9Y (IntKind.u8.wrap y.a)]],a6⟩:=by rw[hB];exact b9.set_same _ _ _
 have z5:S0 k5=none:=by
  cases e:S0 k5 with
  |none=>rfl
  |some o=>rw[h.le _ _ e]at n5';cases n5'
 have z6:S0 k6=none:=by
  cases e:S0 k6 with
  |none=>rfl
  |some o=>rw[h.le _ _ e]at n6'';cases n6''
 have hle:S0.le B:=by rw[hB];exact b9.le_set (b9.le_set (b9.le_new z0) z5) z6
 clear hB n0 n5 n5' n6 n6' n6'' g0 g5 l0
 have l0:∀ {S':b9},B.le S'→∀i,b8 S' (.ptr k0 i)=(J2 y)[i]? :=fun h i=>D5 (h _ _ b0)
 have l5:∀ {S':b9},B.le S'→j2 S' 2 (.ptr k5 0)=some (.agg [.int .i64 4,a0F 0 4294967295]):=fun h=>bx (h _ _ b5)
 have l6:∀ {S':b9},B.le S'→j2 S' 2 (.ptr k6 0)=some (.agg [.int .i64 8,a9Y (IntKind.u8.wrap y.a)]):=fun h=>bx (h _ _ b6)
 have f5:c9b [.int .i64 4,a0F 0 4294967295] K2:=⟨_,rfl, .bet _ _⟩
 have f6:c9b [.int .i64 8,a9Y (IntKind.u8.wrap y.a)] (vF (IntKind.u8.wrap y.a)):=⟨_,rfl, .fit _⟩
 have hsh:=ho.short
 simp only[u5,oD,l0 g6.le,show(J2 y)[0+3]? =some (a7v y.arms) from rfl,b5o,a4I]
 rw[B3]
 refine⟨fun hbig=> ?_,fun hsm=> ?_⟩
 ·have c:decide (y.arms.length≤65535)=false:=decide_eq_false (by omega)
  refine i9.less (b9.le_trans hle g6.le) (i9.here ⟨.nilSlc,[], ?_, .inl ⟨rfl,rfl,rfl⟩,fun h=>by omega⟩)
  rw[c,Bool.false_and,Bool.false_and]
 have hsm:y.arms.length≤65535:=by omega
 rw[cvI,oD,b7A (by omega)]
 refine(a5F (s:=2) (by decide) (by decide)).use ?_
 refine(b9v g6 (by rw[s7];omega)).use fun t1 S2 g7=> ?_
 simp only[u5,oD,l0 g7.le,show(J2 y)[0+3]? =some (a7v y.arms) from rfl,b5o]
 refine c5C (I:=fun n x0 x3 x6 x7 x8 x33 x34 x35 S=>∃(B':b9) (j:Nat),B.le B'∧j+n=y.arms.length∧a3L B' x0 (bs++F6 y.arms.length 2++a4U (y.arms.take j)) S∧
   x3= .ptr k0 0∧x6= .ptr k5 0∧x7= .ptr k6 0∧x8= .bool ((y.arms.take j).all (b4z (IntKind.u8.wrap y.a)))∧x33=a7v y.arms∧x34= .int .i64 (y.arms.length:Int)∧x35= .int .i64 (j:Int)) ?_ (n:=y.arms.length)
  ⟨B,0,b9.le_refl _,by omega,by simpa [a4U]using g7,rfl,rfl,rfl,rfl,rfl,rfl,rfl⟩
 rintro n x0 _ _ _ _ _ _ _ S3 ⟨B',j,hB',hj,g8,rfl,rfl,rfl,rfl,rfl,rfl,rfl⟩
 unfold b2K
 have hle8:=b9.le_trans hB' g8.le
 have hbl:(bs++F6 y.arms.length 2++a4U (y.arms.take j)).length<2^40:=by
  simp only[List.length_append,s7,a3T,List.length_take]
  omega
 rw[A5,oD,B3]
 refine⟨fun hlt=> ?_,fun hge=> ?_⟩
 ·have hlt:j<y.arms.length:=by omega
  obtain⟨z,hz⟩:∃z,z=y.arms[j]:=⟨_,rfl⟩
  have hjz:y.arms[j]? =some z:=by rw[List.getElem?_eq_getElem hlt,hz]
  obtain⟨hz1,hz2⟩:=ho.arms z (by rw[hz];exact List.getElem_mem _)
  rw[d2s hjz,oD,laE,if_pos (by simp[a0g]),oD]
  intro k a nk
  refine stP (ds:=a0g z) (b9.set_same _ _ _) (J5 _) ⟨rfl,by decide,by simp[a0g]⟩ fun a=> ?_
  rw[b9.set_set]
  have hk:B.le (S3.set k ⟨[D.int .i64 0, .int .i64 0].length,[o0 [D.int .i64 0, .int .i64 0] 0 (a0g z)],a⟩):=b9.le_trans hle8 (b9.le_new nk)
  have g9:=g8.under (o:=⟨[D.int .i64 0, .int .i64 0].length,[o0 [D.int .i64 0, .int .i64 0] 0 (a0g z)],a⟩) nk
  have zk:B' k=none:=by
   cases e:B' k with
   |none=>rfl
   |some o=>rw[g8.le _ _ e]at nk;cases nk
  have lk:∀ {S':b9},(B'.set k ⟨[D.int .i64 0, .int .i64 0].length,[o0 [D.int .i64 0, .int .i64 0] 0 (a0g z)],a⟩).le S'→∀i,b8 S' (.ptr k i)=(a0g z)[i]? :=fun h i=>by
   rw[D5 (h _ _ (b9.set_same _ _ _))];rfl
  have hB9:B.le (B'.set k ⟨[D.int .i64 0, .int .i64 0].length,[o0 [D.int .i64 0, .int .i64 0] 0 (a0g z)],a⟩):=b9.le_trans hB' (b9.le_new zk)
  rw[l6 hk,oD,u5,oD,lk g9.le,show(a0g z)[0+0]? =some (.int .i64 z.1) from rfl,oD]
  refine(a5H g9 f6 hz1 (show 1≤8 by decide) (show 8≤8 by decide) hbl).use ?_
  rintro v S4 ⟨t4,rfl,g10⟩
  simp only[exD,List.getElem?_cons_zero,List.getElem?_cons_succ,oD]
  rw[l5 (b9.le_trans hB9 g10.le),oD,u5,oD,lk g10.le,show(a0g z)[0+1]? =some (.int .i64 z.2) from rfl,oD]
  refine(a5H g10 f5 hz2 (by decide) (by decide) (by simp only[List.length_append,s7,a3T,List.length_take]at hbl ⊢;have:(vF (IntKind.u8.wrap y.a)).size=8:=rfl;omega)).use ?_
  rintro v S5 ⟨t5,rfl,g11⟩
  simp only[exD,List.getElem?_cons_zero,List.getElem?_cons_succ,oD]
  have e1:∀p q r:Bool,(∀K:D→Prop,K (.bool (p&&q&&r))→b7 (i4 (i0 (.bool p) true) (some (.bool q))) fun v55=>b7 (o7 (.bool p) v55 (.bool false)) fun v56=>b7 (i4 (i0 v56 true) (some (.bool r))) fun v57=>b7 (o7 v56 v57 (.bool false)) fun v58=>K v58):=by
   intro p q r K hK
   cases p<;>cases q<;>cases r<;>simpa using hK
  refine e1 _ _ _ (fun v58=>b7 (i6 .add (.int .i64 (j:Int)) (.int .i64 1)) fun v59=>_) ?_
  rw[s8,oD,j8 (by omega) (by omega)]
  refine⟨n - 1,by omega,_,j+1,hB9,by omega, ?_,by trivial,by trivial,by trivial, ?_,by trivial,by trivial,by trivial⟩
  ·have:a4U (y.arms.take (j+1))=a4U (y.arms.take j)++(F6 z.1 8++F6 z.2 4):=by
    rw[List.take_add_one,hjz,Option.toList_some]
    simp[a4U,d9Y,List.flatMap_append]
   rw[this, ←List.append_assoc, ←List.append_assoc]
   exact g11
  ·rw[List.take_add_one,hjz,Option.toList_some,List.all_append,List.all_cons,List.all_nil,Bool.and_true,c0v,Bool.and_assoc]
 ·have hj':j=y.arms.length:=by omega
  subst hj'
  rw[List.take_length]at g8 hbl ⊢
  rw[l5 hle8,oD,u5,oD,l0 hle8,show(J2 y)[0+2]? =some (.int .i64 y.b) from rfl,oD]
  refine(a5H g8 f5 ho.b (by decide) (by decide) hbl).use ?_
  rintro v S4 ⟨t4,rfl,g9⟩
  simp only[exD,List.getElem?_cons_zero,List.getElem?_cons_succ,oD]
  obtain⟨S5,hl5,g10⟩:=g9.base (b9.le_trans hle hB')
  have e1:∀p q:Bool,(∀K:D→Prop,K (.bool (p&&q))→b7 (i4 (i0 (.bool p) true) (some (.bool q))) fun v55=>b7 (o7 (.bool p) v55 (.bool false)) fun v56=>K v56):=by
   intro p q K hK
   cases p<;>cases q<;>simpa using hK
  refine e1 _ _ (fun v=>i9 E _ (.tup [t4,v]) S4) ?_
  refine i9.less hl5 (i9.here ⟨t4,_, ?_,g10,fun _=> ?_⟩)
  ·rw[decide_eq_true hsm,Bool.true_and]
  ·simp only[List.append_assoc];rfl
end
end
section
theorem d0L(y:In)(f:Fld):∀(l:List Fld) (i:Nat),a6j y i (l++[f])=a6j y i l++F6 (y.num (i+l.length)) f.size
 | [],i=>by simp[a6j]
 |g::l,i=>by
  rw[List.cons_append,a6j,a6j,d0L y f l (i+1),List.append_assoc,List.length_cons,show i+1+l.length=i+(l.length+1) by omega]
theorem c7R(y:In)(f:Fld):∀(l:List Fld) (i:Nat),Y8 y i (l++[f])=(Y8 y i l&&f.may (y.num (i+l.length)))
 | [],i=>by simp[Y8]
 |g::l,i=>by
  rw[List.cons_append,Y8,Y8,c7R y f l (i+1),Bool.and_assoc,List.length_cons,show i+1+l.length=i+(l.length+1) by omega]
theorem b9t(y:In):∀(l:List Fld) (i:Nat),(∀f∈l,f.size≤8)→(a6j y i l).length≤8*l.length
 | [],i,_=>by simp[a6j]
 |g::l,i,h=>by
  have:=b9t y l (i+1) fun f hf=>h f (List.mem_cons_of_mem _ hf)
  have:=h g List.mem_cons_self
  rw[a6j,List.length_append,s7,List.length_cons]
  omega
theorem c9b.load{row:List D}{f:Fld}(h:c9b row f):row.length=2:=by obtain⟨fv,rfl,_⟩:=h;rfl
section
variable{E:j6}{w0:World}{x:Bool}{S0 S:b9}{t:D}{bs:List Int}{y:In}
theorem d6z{B:b9}(h:a3L B t bs S)(hB:S0.le B){ok:Bool}(hok:isS y=ok)(hbs:ok=true→bs=b7X y):
  I0 E w0 x (i9 E fun d' S'=>d'= .tup [bD (c6Z y), .int .i64 (if isS y=true then 0 else 120)]∧S'=S0) (.bool ok) t S:=by
 unfold I0
 rw[unN,oD]
 cases ok with
 |false=>
  simp only[Bool.not_false,cdT]
  refine i9.less (b9.le_trans hB h.le) (i9.nilT (lp:=[]) (sz:=1) (i9.here ⟨?_,rfl⟩))
  rw[c6Z,hok];rfl
 |true=>
  simp only[Bool.not_true,cdF]
  obtain⟨S',hl,hg⟩:=h.base hB
  refine i9.less hl (hg.finT (lp:=[]) (i9.here ⟨?_,rfl⟩))
  rw[c6Z,hok,hbs rfl];rfl
theorem d0g(ho:y.Ok):L1 Tryz.prog E w0 b2I [inD y] (.tup [bD (c6Z y), .int .i64 (if isS y=true then 0 else 120)]):=fun x S=>by
 refine c6A ?_
 unfold c1Z
 rw[inD,J5,oD]
 intro k0 a0 n0
 have b0:(S.set k0 ⟨4,[J2 y],a0⟩) k0=some ⟨4,[J2 y],a0⟩:=b9.set_same _ _ _
 have l0:∀ {S':b9},(S.set k0 ⟨(J2 y).length,[J2 y],a0⟩).le S'→∀i,b8 S' (.ptr k0 i)=(J2 y)[i]? :=fun h i=>D5 (h _ _ b0)
 have hle:S.le (S.set k0 ⟨(J2 y).length,[J2 y],a0⟩):=b9.le_new n0
 rw[u5,oD,l0 (b9.le_refl _),show(J2 y)[0+0]? =some (.int .u8 y.op) from rfl,oD]
 refine b8H.use ?_
 simp only[exD,List.getElem?_cons_zero,List.getElem?_cons_succ,oD]
 rw[l0 (b9.le_refl _),show(J2 y)[0+0]? =some (.int .u8 y.op) from rfl,oD]
 simp only[m9,clI,List.length_cons,List.length_nil,List.replicate,List.set]
 rw[if_pos (by decide)]
 refine F5 rfl ?_
 refine(b9v (bs:=[]) (ms:=[y.op]) (Grw.nil _ 1) (by simp)).use fun t1 S1 g1=> ?_
 rw[lnL,oD,a7q]
 obtain⟨l,hl⟩:∃l,l=(lay y.op).getD []:=⟨_,rfl⟩
 have hl2:l.length≤2:=by rw[hl];exact a8k
 have hgood:∀f∈l,a8p f:=by rw[hl];exact b7r _
 have hs8:∀f∈l,f.size≤8:=fun f hf=>a5v (hgood f hf)
 rw[←hl]
 refine c1h (I:=fun n x1 x4 x5 x6 x21 x22 x23 S'=>∃(B:b9) (j:Nat),(S.set k0 ⟨(J2 y).length,[J2 y],a0⟩).le B∧j+n=l.length∧a3L B x6 (y.op::a6j y 0 (l.take j)) S'∧
   x1= .ptr k0 0∧x4= .lst (a5N y.op) 2∧x5= .bool ((lay y.op).isSome&&Y8 y 0 (l.take j))∧x21= .lst (a5N y.op) 2∧x22= .int .i64 (l.length:Int)∧x23= .int .i64 (j:Int)) ?_ (n:=l.length)
  ⟨_,0,b9.le_refl _,by omega,by simpa [a6j]using g1,rfl,rfl,by simp[Y8],rfl,rfl,rfl⟩
 rintro n _ _ _ x6 _ _ _ S2 ⟨B,j,hB,hj,g2,rfl,rfl,rfl,rfl,rfl,rfl⟩
 unfold a8R
 have hle2:=b9.le_trans hB g2.le
 rw[A5,oD,B3]
 refine⟨fun hlt=> ?_,fun hge=> ?_⟩
 ·have hlt:j<l.length:=by omega
  obtain⟨f,hf⟩:∃f,f=l[j]:=⟨_,rfl⟩
  have hjf:l[j]? =some f:=by rw[List.getElem?_eq_getElem hlt,hf]
  obtain⟨row,hrow,hfd⟩:=d4J (op:=y.op) (i:=j) (f:=f) (by rw[←hl];exact hjf)
  obtain⟨hg1,_⟩:=hgood f (by rw[hf];exact List.getElem_mem _)
  have hg8:=hs8 f (by rw[hf];exact List.getElem_mem _)
  have hrl:=hfd.load
  rw[b9k hrow,oD,laE,if_pos ⟨by decide,by omega⟩,oD,List.drop_zero,List.take_of_length_le (by omega)]
  intro k a nk
  have hcl:q6 (.agg row)=some row:=rfl
  refine stP (ds:=row) (b9.set_same _ _ _) (J5 _) ⟨hrl,by decide,by simp⟩ fun a=> ?_
  rw[b9.set_set]
  have hset:o0 [D.int .i64 0, .nilFn] 0 row=row:=by
   obtain⟨fv,rfl,_⟩:=hfd;rfl
  rw[hset]
  have g3:=g2.under (o:=⟨[D.int .i64 0, .nilFn].length,[row],a⟩) nk
  have zk:B k=none:=by
   cases e:B k with
   |none=>rfl
   |some o=>rw[g2.le _ _ e]at nk;cases nk
  have hB3:(S.set k0 ⟨(J2 y).length,[J2 y],a0⟩).le (B.set k ⟨[D.int .i64 0, .nilFn].length,[row],a⟩):=b9.le_trans hB (b9.le_new zk)
  have hnum:∀n',n'=y.num j→a3X E w0 x (fun x1 x4 x5 x6 x21 x22 x23 S'=>∃m,m<n∧∃(B:b9) (j:Nat),(S.set k0 ⟨(J2 y).length,[J2 y],a0⟩).le B∧j+m=l.length∧a3L B x6 (y.op::a6j y 0 (l.take j)) S'∧
    x1= .ptr k0 0∧x4= .lst (a5N y.op) 2∧x5= .bool ((lay y.op).isSome&&Y8 y 0 (l.take j))∧x21= .lst (a5N y.op) 2∧x22= .int .i64 (l.length:Int)∧x23= .int .i64 (j:Int))
    (i9 E fun d' S'=>d'= .tup [bD (c6Z y), .int .i64 (if isS y=true then 0 else 120)]∧S'=S) (.ptr k0 0) (.lst (a5N y.op) 2) (.bool ((lay y.op).isSome&&Y8 y 0 (l.take j))) x6 (.ptr k 0) (.int .i64 n') (.lst (a5N y.op) 2) (.int .i64 (l.length:Int)) (.int .i64 (j:Int))
    (S2.set k ⟨[D.int .i64 0, .nilFn].length,[row],a⟩):=by
   rintro _ rfl
   unfold a3X
   rw[laP (b9.set_same _ _ _) ⟨by decide,by omega⟩,oD,List.drop_zero,List.take_of_length_le (by omega)]
   have hi:I64 (y.num j):=by unfold In.num;split;exact ho.b;exact ho.a
   have hbl:=b9t y (l.take j) 0 fun f hf=>hs8 f (List.mem_of_mem_take hf)
   refine(a5H g3 hfd hi hg1 hg8 (by rw[List.length_cons];rw[List.length_take]at hbl;omega)).use ?_
   rintro v S4 ⟨t4,rfl,g4⟩
   simp only[exD,List.getElem?_cons_zero,List.getElem?_cons_succ,oD]
   have e1:∀p q:Bool,(∀K:D→Prop,K (.bool (p&&q))→b7 (i4 (i0 (.bool p) true) (some (.bool q))) fun v55=>b7 (o7 (.bool p) v55 (.bool false)) fun v56=>K v56):=by
    intro p q K hK
    cases p<;>cases q<;>simpa using hK
   refine e1 _ _ (fun v30=>b7 (i6 .add (.int .i64 (j:Int)) (.int .i64 1)) fun v31=>_) ?_
   rw[s8,oD,j8 (by omega) (by omega)]
   have htk:l.take (j+1)=l.take j++[f]:=by rw[List.take_add_one,hjf];rfl
   have hlj:(l.take j).length=j:=by rw[List.length_take];omega
   refine⟨n - 1,by omega,_,j+1,hB3,by omega, ?_,by trivial,by trivial, ?_,by trivial,by trivial,by trivial⟩
   ·rw[htk,d0L,hlj,Nat.zero_add, ←List.cons_append];exact g4
   ·rw[htk,c7R,hlj,Nat.zero_add,Bool.and_assoc]
  have hle3:(S.set k0 ⟨(J2 y).length,[J2 y],a0⟩).le (S2.set k ⟨[D.int .i64 0, .nilFn].length,[row],a⟩):=b9.le_trans hB3 g3.le
  rw[u5,oD,l0 hle3,show(J2 y)[0+1]? =some (.int .i64 y.a) from rfl,oD,Y4,oD,cdB]
  refine⟨fun h1=> ?_,fun h1=> ?_⟩
  ·rw[u5,oD,l0 hle3,show(J2 y)[0+2]? =some (.int .i64 y.b) from rfl,oD]
   have h1:j=1:=by have:(j:Int)=1:=by simpa using h1
                   omega
   exact hnum _ (by unfold In.num;rw[if_pos h1])
  ·have h1:¬j=1:=by have:¬(j:Int)=1:=by simpa using h1
                    omega
   exact hnum _ (by unfold In.num;rw[if_neg h1])
 ·have hj':j=l.length:=by omega
  subst hj'
  rw[List.take_length]at g2 ⊢
  have hisS:isS y=(((lay y.op).isSome&&Y8 y 0 l)&&
    if y.op=49 then decide (y.arms.length≤65535)&&y.arms.all (b4z (IntKind.u8.wrap y.a))&&decide (0≤y.b∧y.b≤4294967295)
    else decide (y.arms.length=0)&&(decide (2≤l.length)||decide (y.b=0))&&(decide (1≤l.length)||decide (y.a=0))):=by rw[hl];rfl
  have henc:b7X y=y.op::a6j y 0 l++if y.op=49 then F6 y.arms.length 2++a4U y.arms++F6 y.b 4 else[]:=by rw[hl];rfl
  generalize hok:((lay y.op).isSome&&Y8 y 0 l)=ok at hisS ⊢
  have hbl:=b9t y l 0 hs8
  have hSB:S.le B:=b9.le_trans hle hB
  rw[u5,oD,l0 hle2,show(J2 y)[0+0]? =some (.int .u8 y.op) from rfl,oD,Y4,oD]
  have nope:∀ {ok':Bool},isS y=ok'→(ok'=true→y.op::a6j y 0 l=b7X y)→I0 E w0 x (i9 E fun d' S'=>d'= .tup [bD (c6Z y), .int .i64 (if isS y=true then 0 else 120)]∧S'=S) (.bool ok') x6 S2:=fun h1 h2=>d6z g2 hSB h1 h2
  have ll3:b8 S2 (.ptr k0 3)=some (a7v y.arms):=l0 hle2 3
  have ll2:b8 S2 (.ptr k0 2)=some (.int .i64 y.b):=l0 hle2 2
  have ll1:b8 S2 (.ptr k0 1)=some (.int .i64 y.a):=l0 hle2 1
  obtain⟨p1,hp1⟩:∃p,decide ((y.arms.length:Int)>0)=p:=⟨_,rfl⟩
  obtain⟨p2,hp2⟩:∃p,decide ((l.length:Int)<2)=p:=⟨_,rfl⟩
  obtain⟨p3,hp3⟩:∃p,(y.b != 0)=p:=⟨_,rfl⟩
  obtain⟨p4,hp4⟩:∃p,decide ((l.length:Int)<1)=p:=⟨_,rfl⟩
  obtain⟨p5,hp5⟩:∃p,(y.a != 0)=p:=⟨_,rfl⟩
  have key:(decide (y.arms.length=0)&&(decide (2≤l.length)||decide (y.b=0))&&(decide (1≤l.length)||decide (y.a=0)))=(!p1&&(!p2|| !p3)&&(!p4|| !p5)):=by
   have q1:decide (y.arms.length=0)= !p1:=by rw[←hp1, ←decide_not];exact decide_eq_decide.2 (by omega)
   have q2:decide (2≤l.length)= !p2:=by rw[←hp2, ←decide_not];exact decide_eq_decide.2 (by omega)
   have q3:decide (y.b=0)= !p3:=by rw[←hp3];by_cases h:y.b=0<;>simp[h]
   have q4:decide (1≤l.length)= !p4:=by rw[←hp4, ←decide_not];exact decide_eq_decide.2 (by omega)
   have q5:decide (y.a=0)= !p5:=by rw[←hp5];by_cases h:y.a=0<;>simp[h]
   rw[q1,q2,q3,q4,q5]
  by_cases h49:y.op=49
  ·have e49:(y.op==49)=true:=by simp[h49]
   rw[if_pos h49]at hisS henc
   simp only[e49,C5,beq_self_eq_true,P7,oD,C3,if_true]
   cases ok with
   |true=>
    simp only[cdT]
    rw[laP (hle2 _ _ b0) ⟨by decide,by simp[J2]⟩,oD]
    show o9 Tryz.prog E w0 x b3x [x6,inD y] S2 _
    refine(d4I g2 ho h49 (by rw[List.length_cons];omega)).use ?_
    rintro v S3 ⟨t3,bs3,rfl,g3,hb3⟩
    simp only[exD,List.getElem?_cons_zero,List.getElem?_cons_succ,oD]
    refine d6z g3 hSB (by rw[hisS,Bool.true_and];rfl) fun h=> ?_
    simp only[Bool.and_eq_true,decide_eq_true_eq]at h
    rw[hb3 h.1.1,henc]
   |false=>
    have hn:=nope (ok':=false) (by rw[hisS,Bool.false_and]) (fun h=>by cases h)
    simp only[cdF,u5,oD,Nat.zero_add,ll3,b5o,a4I,lnL,a7q, ←hl,A5,hp1,hp2,hp4]
    cases p1<;>cases p2<;>cases p3<;>cases p4<;>cases p5<;>simp[ll1,ll2,hp3,hp5]<;>exact hn
  ·have e49:(y.op==49)=false:=by simp[h49]
   rw[if_neg h49]at hisS henc
   rw[List.append_nil]at henc
   rw[key]at hisS
   simp only[e49,C5,vdF,oD,C3,Bool.false_eq_true,if_false,cdF,show((false==true)=false) from rfl]
   simp only[u5,oD,Nat.zero_add,ll3,b5o,a4I,lnL,a7q, ←hl,A5,hp1,hp2,hp4]
   cases p1<;>cases p2<;>cases p3<;>cases p4<;>cases p5<;>simp[ll1,ll2,hp3,hp5]<;>exact nope (by rw[hisS];simp) (fun _=>henc.symm)
theorem d4K(ho:y.Ok):L1 Tryz.prog E w0 b9n [inD y] (.int .i64 ((c6Z y).length:Int)):=fun x S=>by
 refine d0s ?_
 unfold c8E
 rw[inD,J5,oD]
 intro k0 a0 n0
 rw[laP (b9.set_same _ _ _) ⟨by decide,by simp[J2]⟩,oD]
 refine(d0g ho).use ?_
 simp only[exD,List.getElem?_cons_zero,List.getElem?_cons_succ,oD,I8]
 exact i9.drop n0 i9.pure
end
end
end Go.Proofs.YtchnpgddpaonhaaGreat.d
end
