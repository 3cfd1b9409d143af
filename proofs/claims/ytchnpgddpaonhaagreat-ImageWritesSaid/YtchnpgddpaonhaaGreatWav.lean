/- A part of the proof of ImageWrites. -/
import Derived.Test.YtchnpgddpaonhaaGreatRows
import Derived.Test.YtchnpgddpaonhaaGreatWap
import Derived.KernelRfl
import Derived.Test.YtchnpgddpaonhaaGreatWar
import Derived.Test.YtchnpgddpaonhaaGreatWau
import Derived.Test.YtchnpgddpaonhaaGreatWat
set_option linter.unusedVariables false
set_option linter.unusedSimpArgs false
set_option maxRecDepth 100000
section
open Go.Proofs Go Go.Am
namespace Go.Proofs.YtchnpgddpaonhaaGreat.d
variable{E:j6}{w0:World}{x:Bool}{Q:D→b9→Prop}
def a9y:List (Nat×List Nat):=[]
def a9v:List (Nat×List Nat):=[(20,[0,3,6,8])]
noncomputable def b6y:Code:=(j4 [1,1,1,1,1,1] (Tryz.f114.body.getD .skip))
def b4Y(E:j6)(w0:World)(x:Bool)(Q:D→b9→Prop):o6→List D→b9→Prop:=
 (z7 Tryz.prog Tryz.f114 Q)
def a6f(E:j6)(w0:World)(x:Bool)(Q:D→b9→Prop)(x0 x3 x6 x8:D)(S:b9):Prop:=
 b7 (i5 1 x3) fun v25=>
 b7 (b8 S v25) fun v26=>
 a3b Tryz.prog (o9 Tryz.prog E w0 x) S v26 [x8] fun v27 S28=>
 b7 (unD .not v27) fun v29=>
 j1 v29
 (b7 (a1v x0) fun v30=>
 b7 (i5 2 v30) fun v31=>
 j7 S28 1 v31 (.int .i64 120) fun v32 S33=>
 Q (.int .i64 0) S33)
 (b7 (a1v x0) fun v34=>
 b7 (i5 1 v34) fun v35=>
 j7 S28 1 v35 x6 fun v36 S37=>
 Q x8 S37)
def N7(E:j6)(w0:World)(x:Bool)(Q:D→b9→Prop)(x0 x3 x6 x8:D)(S:b9):Prop:=j0 Tryz.prog E w0 x b6y (j9 65 [0,3,6,8] [x0,x3,x6,x8]) S (b4Y E w0 x Q)
theorem b1Q{x0 x3 x6 x8:D}{S:b9}(h:a6f E w0 x Q x0 x3 x6 x8 S):N7 E w0 x Q x0 x3 x6 x8 S:=j3 a9y a9v m7 (by kernel_rfl) h
def b0s(E:j6)(w0:World)(x:Bool)(Q:D→b9→Prop)(a0 a1:D)(S:b9):Prop:=
 b7 (q6 a1) fun cs=>m8 S cs fun v0 S1=>
 b7 (a1v a0) fun v2=>
 b7 (i5 2 v2) fun v3=>
 b7 (b8 S1 v3) fun v4=>
 b7 (i6 .neq v4 (.int .i64 0)) fun v5=>
 j1 v5
 (Q (.int .i64 0) S1)
 (b7 (a1v a0) fun v6=>
 b7 (i5 0 v6) fun v7=>
 b7 (b8 S1 v7) fun v8=>(True)∧
 b7 (a1v a0) fun v9=>
 b7 (i5 1 v9) fun v10=>
 b7 (b8 S1 v10) fun v11=>(True)∧
 b7 (i5 0 v0) fun v12=>
 b7 (b8 S1 v12) fun v13=>(True)∧
 DF E (J6 Tryz.prog E w0) b5Z [v8,v11,v13] S1 fun v14 S15=>(True)∧
 b7 (o4 v14 0) fun v16=>
 b7 (o4 v14 1) fun v17=>
 b7 (o4 v14 2) fun v18=>
 b7 (i6 .neq v18 (.int .i64 0)) fun v19=>
 j1 v19
 (b7 (a1v a0) fun v20=>
 b7 (i5 2 v20) fun v21=>
 j7 S15 1 v21 (.int .i64 10) fun v22 S23=>
 Q (.int .i64 0) S23)
 (b7 (E7 .i64 v16) fun v24=>
 b7 (i5 1 v0) fun v38=>
 b7 (b8 S15 v38) fun v39=>
 a3b Tryz.prog (o9 Tryz.prog E w0 x) S15 v39 [v24] fun v40 S41=>
 b7 (unD .not v40) fun v42=>
 b7 (i4 (i0 v42 true) (i5 0 v0)) fun v43=>
 b7 (i4 (i0 v42 true) (b8 S41 v43)) fun v44=>
 b7 (i4 (i0 v42 true) (i6 .lss v44 (.int .i64 8))) fun v45=>
 b7 (o7 v42 v45 (.bool false)) fun v46=>
 j1 v46
 (b7 (i5 0 v0) fun v47=>
 b7 (b8 S41 v47) fun v48=>
 b7 (i6 .mul (.int .i64 8) v48) fun v49=>
 b7 (i6 .shl (.int .i64 1) v49) fun v50=>
 b7 (i6 .sub v24 v50) fun v51=>
 N7 E w0 x Q a0 v0 v17 v51 S41)
 (N7 E w0 x Q a0 v0 v17 v24 S41)))
theorem b5L{a0 a1:D}{S:b9}(h:b0s E w0 x (i9 E Q) a0 a1 S):o9 Tryz.prog E w0 x D1 [a0,a1] S Q:=
 l7 a9y a9v (fn:=Tryz.f114) (c:=Tryz.f114.body.getD .skip) m7 Tryz.func114 (by kernel_rfl) (by kernel_rfl) h
def Y1:List (Nat×List Nat):=[(18,[4,7,10,45,46,47]),(36,[4,7,10,13,14,15])]
def X9:List (Nat×List Nat):=[(34,[4,7,10,13,14]),(46,[4,7,10])]
noncomputable def a6I:Code:=(j4 [1,1,1,1,1,1,1,1] (Tryz.f97.body.getD .skip))
def c3a(E:j6)(w0:World)(x:Bool)(Q:D→b9→Prop):o6→List D→b9→Prop:=
 (z7 Tryz.prog Tryz.f97 Q)
def b4x(E:j6)(w0:World)(x:Bool)(Q:D→b9→Prop)(x4 x7 x10:D)(S:b9):Prop:=
 b7 (a1v x10) fun v57=>
 b7 (i5 2 v57) fun v58=>
 b7 (b8 S v58) fun v59=>
 b7 (i6 .neq v59 (.int .i64 0)) fun v60=>
 j1 v60
 (b7 (B8 (s5 [(.int .u8 0),(.int .i64 0),(.int .i64 0), .nilSlc] [])) fun v61=>
 b7 (a1v x10) fun v62=>
 b7 (i5 2 v62) fun v63=>
 b7 (b8 S v63) fun v64=>(True)∧
 j7 S 4 x4 v61 fun v65 S66=>(p7 v63 S S66∧True)∧
 b7 (j2 S66 4 x4) fun v67=>Q (.tup [v67,(.int .i64 0),v64]) S66)
 (b7 (j2 S 4 x7) fun v68=>(True)∧
 b7 (a1v x10) fun v69=>
 b7 (i5 1 v69) fun v70=>
 b7 (b8 S v70) fun v71=>(True)∧
 j7 S 4 x4 v68 fun v72 S73=>(p7 v70 S S73∧True)∧
 b7 (j2 S73 4 x4) fun v74=>Q (.tup [v74,v71,(.int .i64 0)]) S73)
def a0K(E:j6)(w0:World)(x:Bool)(Q:D→b9→Prop)(x4 x7 x10:D)(S:b9):Prop:=j0 Tryz.prog E w0 x a6I (j9 120 [4,7,10] [x4,x7,x10]) S (c3a E w0 x Q)
theorem b9x{x4 x7 x10:D}{S:b9}(h:b4x E w0 x Q x4 x7 x10 S):a0K E w0 x Q x4 x7 x10 S:=j3 Y1 X9 m7 (by kernel_rfl) h
noncomputable def a7J:Code:=(j4 [1,1,1,1,1,1,1,0,1,0,1,0,1,0,0] (Tryz.f97.body.getD .skip))
def a8G(E:j6)(w0:World)(x:Bool)(Q:D→b9→Prop):o6→List D→b9→Prop:=
 (o8 2 (w6 Tryz.prog E w0 x Y1 X9 (j4 [1,1,1,1,1,1,1,0,1,0,1,1] (Tryz.f97.body.getD .skip)) (d9U Tryz.prog E w0 x 120 [4,7,10] a6I (z7 Tryz.prog Tryz.f97 Q))))
def a7R(E:j6)(w0:World)(x:Bool)(N1:D→D→D→D→D→D→b9→Prop)(Q:D→b9→Prop)(x4 x7 x10 x13 x14 x15:D)(S:b9):Prop:=
 b7 (i6 .gtr x15 (.int .i64 0)) fun v83=>
 b7 (i4 (i0 v83 true) (some x10)) fun v84=>
 b7 (i4 (i0 v83 true) (a1v v84)) fun v85=>
 b7 (i4 (i0 v83 true) (i5 2 v85)) fun v86=>
 b7 (i4 (i0 v83 true) (b8 S v86)) fun v87=>
 b7 (i4 (i0 v83 true) (i6 .eql v87 (.int .i64 0))) fun v88=>
 b7 (o7 v83 v88 (.bool false)) fun v89=>
 j1 v89
 (b7 (j2 S 2 x14) fun v90=>
 o9 Tryz.prog E w0 x D1 [x10,v90] S fun v91 S92=>
 b7 (i5 3 x7) fun v93=>
 b7 (b8 S92 v93) fun v94=>(True)∧
 b7 (j2 S92 2 x13) fun v95=>(True)∧
 DF E (J6 Tryz.prog E w0) D1 [x10,v95] S92 fun v96 S97=>(p7 v93 S92 S97∧True)∧
 b7 (B8 (s5 [(.int .i64 0),(.int .i64 0)] [(0,1,v91),(1,1,v96)])) fun v98=>
 q7 S97 2 (m9 2 (List.replicate 1 [(.int .i64 0),(.int .i64 0)]) [(0,v98)]) 1 fun v99 S100=>(p7 v93 S92 S100∧True)∧
 r6 S100 2 16 v94 v99 fun v101 S102=>(True)∧
 b7 (i5 3 x7) fun v103=>
 j7 S102 1 v103 v101 fun v104 S105=>(True)∧
 b7 (i6 .sub x15 (.int .i64 1)) fun v106=>
 N1 x4 x7 x10 x13 x14 v106 S105)
 (b7 (j2 S 2 x13) fun v107=>
 o9 Tryz.prog E w0 x D1 [x10,v107] S fun v108 S109=>
 b7 (i5 2 x7) fun v110=>
 j7 S109 1 v110 v108 fun v111 S112=>
 a0K E w0 x Q x4 x7 x10 S112)
theorem c1z{N1:D→D→D→D→D→D→b9→Prop}{Q:D→b9→Prop}{x4 x7 x10 x13 x14 x15:D}{S:b9}(h:a7R E w0 x N1 Q x4 x7 x10 x13 x14 x15 S):
  j0 Tryz.prog E w0 x a7J (j9 120 [4,7,10,13,14,15] [x4,x7,x10,x13,x14,x15]) S (q8 (fun T S=>N1 (T.getD 4 d9) (T.getD 7 d9) (T.getD 10 d9) (T.getD 13 d9) (T.getD 14 d9) (T.getD 15 d9) S) (a8G E w0 x Q)):=j3 Y1 X9 m7 (by kernel_rfl) h
theorem c1H(I:Nat→D→D→D→D→D→D→b9→Prop)
  (step:∀n x4 x7 x10 x13 x14 x15 S,I n x4 x7 x10 x13 x14 x15 S→a7R E w0 x (fun x4 x7 x10 x13 x14 x15 S=>∃m,m<n∧I m x4 x7 x10 x13 x14 x15 S) Q x4 x7 x10 x13 x14 x15 S)
  {n:Nat} {x4 x7 x10 x13 x14 x15:D} {S:b9} (h:I n x4 x7 x10 x13 x14 x15 S):j0 Tryz.prog E w0 x (.loop a7J) (j9 120 [4,7,10,13,14,15] [x4,x7,x10,x13,x14,x15]) S (a8G E w0 x Q):=
 o3 (k:=120) (n:=n) (I:=fun n T S=>I n (T.getD 4 d9) (T.getD 7 d9) (T.getD 10 d9) (T.getD 13 d9) (T.getD 14 d9) (T.getD 15 d9) S) (fun n T S hl hI=>o5 [4,7,10,13,14,15] hl (j0.mono (c1z (step n _ _ _ _ _ _ S hI)) fun ex T' S' _ hq=>by cases ex<;>exact hq)) (l8 ..) (Eq.mp (by kernel_rfl) h)
noncomputable def c5p:Code:=(j4 [1,1,1,1,1,1,1,0,1,0,1] (Tryz.f97.body.getD .skip))
def c3y(E:j6)(w0:World)(x:Bool)(Q:D→b9→Prop):o6→List D→b9→Prop:=
 (d9U Tryz.prog E w0 x 120 [4,7,10] a6I (z7 Tryz.prog Tryz.f97 Q))
def b4w(E:j6)(w0:World)(x:Bool)(Q:D→b9→Prop)(x4 x7 x10 x13 x14:D)(S:b9):Prop:=
 o9 Tryz.prog E w0 x u7 [(.int .i64 0),(.int .i64 65535)] S fun v78 S79=>
 b7 (B8 (s5 [(.int .i64 0), .nilFn] [(0,1,(.int .i64 2)),(1,1,v78)])) fun v80=>
 o9 Tryz.prog E w0 x D1 [x10,v80] S79 fun v81 S82=>
 j0 Tryz.prog E w0 x (.loop a7J) (j9 120 [4,7,10,13,14,15] [x4,x7,x10,x13,x14,v81]) S82 (a8G E w0 x Q)
def w4(E:j6)(w0:World)(x:Bool)(Q:D→b9→Prop)(x4 x7 x10 x13 x14:D)(S:b9):Prop:=j0 Tryz.prog E w0 x c5p (j9 120 [4,7,10,13,14] [x4,x7,x10,x13,x14]) S (c3y E w0 x Q)
theorem b8W{x4 x7 x10 x13 x14:D}{S:b9}(h:b4w E w0 x Q x4 x7 x10 x13 x14 S):w4 E w0 x Q x4 x7 x10 x13 x14 S:=j3 Y1 X9 m7 (by kernel_rfl) h
noncomputable def a9s:Code:=(j4 [1,1,1,1,1,1,0,1,0,0] (Tryz.f97.body.getD .skip))
def a9k(E:j6)(w0:World)(x:Bool)(Q:D→b9→Prop):o6→List D→b9→Prop:=
 (o8 0 (w6 Tryz.prog E w0 x Y1 X9 (j4 [1,1,1,1,1,1,1] (Tryz.f97.body.getD .skip)) (z7 Tryz.prog Tryz.f97 Q)))
def a9n(E:j6)(w0:World)(x:Bool)(N0:D→D→D→D→D→D→b9→Prop)(Q:D→b9→Prop)(x4 x7 x10 x45 x46 x47:D)(S:b9):Prop:=
 b7 (i6 .lss x47 x46) fun v35=>
 j1 v35
 (b7 (p6 2 x45 x47) fun v36=>
 b7 (j2 S 2 v36) fun v37=>
 m8 S [(.int .i64 0), .nilFn] fun v38 S39=>
 j7 S39 2 v38 v37 fun v40 S41=>
 b7 (i6 .eql x47 (.int .i64 0)) fun v42=>
 j1 v42
 (b7 (j2 S41 2 v38) fun v43=>
 o9 Tryz.prog E w0 x D1 [x10,v43] S41 fun v44 S45=>
 b7 (i5 1 x7) fun v46=>
 j7 S45 1 v46 v44 fun v47 S48=>
 b7 (i6 .add x47 (.int .i64 1)) fun v49=>
 N0 x4 x7 x10 x45 x46 v49 S48)
 (b7 (j2 S41 2 v38) fun v50=>
 o9 Tryz.prog E w0 x D1 [x10,v50] S41 fun v51 S52=>
 b7 (i5 2 x7) fun v53=>
 j7 S52 1 v53 v51 fun v54 S55=>
 b7 (i6 .add x47 (.int .i64 1)) fun v56=>
 N0 x4 x7 x10 x45 x46 v56 S55))
 (b7 (i5 0 x7) fun v75=>
 b7 (b8 S v75) fun v76=>
 b7 (i6 .eql v76 (.int .u8 49)) fun v77=>
 j1 v77
 (x=false∧(DF E (J6 Tryz.prog E w0) u7 [(.int .i64 0),(.int .i64 4294967295)] S fun v113 S114=>(True)∧
 b7 (B8 (s5 [(.int .i64 0), .nilFn] [(0,1,(.int .i64 4)),(1,1,v113)])) fun v115=>
 b7 (i5 1 x7) fun v116=>
 b7 (b8 S114 v116) fun v117=>((b8 S (j5 (i5 1 x7))≠none∧p7 (j5 (i5 1 x7)) S S114)∧True)∧
 b7 (E7 .u8 v117) fun v118=>
 DF E (J6 Tryz.prog E w0) F3 [v118] S114 fun v119 S120=>(True)∧
 b7 (B8 (s5 [(.int .i64 0), .nilFn] [(0,1,(.int .i64 8)),(1,1,v119)])) fun v121=>
 m8 S120 [(.int .i64 0), .nilFn] fun v122 S123=>(True)∧
 m8 S123 [(.int .i64 0), .nilFn] fun v124 S125=>(True)∧
 j7 S125 2 v122 v115 fun v126 S127=>(True)∧
 j7 S127 2 v124 v121 fun v128 S129=>(True)∧
 w4 E w0 x Q x4 x7 x10 v122 v124 S129)∧
 (DF E (J6 Tryz.prog E w0) u7 [(.int .i64 0),(.int .i64 4294967295)] S fun v130 S131=>(True)∧
 b7 (B8 (s5 [(.int .i64 0), .nilFn] [(0,1,(.int .i64 4)),(1,1,v130)])) fun v132=>
 b7 (i5 1 x7) fun v133=>
 b7 (b8 S131 v133) fun v134=>((b8 S (j5 (i5 1 x7))≠none∧p7 (j5 (i5 1 x7)) S S131)∧True)∧
 b7 (E7 .u8 v134) fun v135=>
 DF E (J6 Tryz.prog E w0) F3 [v135] S131 fun v136 S137=>(True)∧
 b7 (B8 (s5 [(.int .i64 0), .nilFn] [(0,1,(.int .i64 8)),(1,1,v136)])) fun v138=>
 m8 S137 [(.int .i64 0), .nilFn] fun v139 S140=>(True)∧
 m8 S140 [(.int .i64 0), .nilFn] fun v141 S142=>(True)∧
 j7 S142 2 v141 v132 fun v143 S144=>(True)∧
 j7 S144 2 v139 v138 fun v145 S146=>(True)∧
 w4 E w0 x Q x4 x7 x10 v141 v139 S146)∧
 (DF E (J6 Tryz.prog E w0) u7 [(.int .i64 0),(.int .i64 4294967295)] S fun v147 S148=>(True)∧
 b7 (B8 (s5 [(.int .i64 0), .nilFn] [(0,1,(.int .i64 4)),(1,1,v147)])) fun v149=>
 b7 (i5 1 x7) fun v150=>
 b7 (b8 S148 v150) fun v151=>((b8 S (j5 (i5 1 x7))≠none∧p7 (j5 (i5 1 x7)) S S148)∧True)∧
 b7 (E7 .u8 v151) fun v152=>
 m8 S148 [(.int .i64 0), .nilFn] fun v153 S154=>(p7 v150 S148 S154∧True)∧
 DF E (J6 Tryz.prog E w0) F3 [v152] S154 fun v155 S156=>(True)∧
 b7 (B8 (s5 [(.int .i64 0), .nilFn] [(0,1,(.int .i64 8)),(1,1,v155)])) fun v157=>
 m8 S156 [(.int .i64 0), .nilFn] fun v158 S159=>(True)∧
 j7 S159 2 v158 v149 fun v160 S161=>(True)∧
 j7 S161 2 v153 v157 fun v162 S163=>(True)∧
 w4 E w0 x Q x4 x7 x10 v158 v153 S163)∧
 (DF E (J6 Tryz.prog E w0) u7 [(.int .i64 0),(.int .i64 4294967295)] S fun v164 S165=>(True)∧
 b7 (B8 (s5 [(.int .i64 0), .nilFn] [(0,1,(.int .i64 4)),(1,1,v164)])) fun v166=>
 b7 (i5 1 x7) fun v167=>
 b7 (b8 S165 v167) fun v168=>((b8 S (j5 (i5 1 x7))≠none∧p7 (j5 (i5 1 x7)) S S165)∧True)∧
 b7 (E7 .u8 v168) fun v169=>
 m8 S165 [(.int .i64 0), .nilFn] fun v170 S171=>(p7 v167 S165 S171∧True)∧
 DF E (J6 Tryz.prog E w0) F3 [v169] S171 fun v172 S173=>(True)∧
 b7 (B8 (s5 [(.int .i64 0), .nilFn] [(0,1,(.int .i64 8)),(1,1,v172)])) fun v174=>
 m8 S173 [(.int .i64 0), .nilFn] fun v175 S176=>(True)∧
 j7 S176 2 v170 v166 fun v177 S178=>(True)∧
 j7 S178 2 v175 v174 fun v179 S180=>(True)∧
 w4 E w0 x Q x4 x7 x10 v170 v175 S180)∧
 (DF E (J6 Tryz.prog E w0) u7 [(.int .i64 0),(.int .i64 4294967295)] S fun v181 S182=>(True)∧
 b7 (B8 (s5 [(.int .i64 0), .nilFn] [(0,1,(.int .i64 4)),(1,1,v181)])) fun v183=>
 b7 (i5 1 x7) fun v184=>
 b7 (b8 S182 v184) fun v185=>((b8 S (j5 (i5 1 x7))≠none∧p7 (j5 (i5 1 x7)) S S182)∧True)∧
 b7 (E7 .u8 v185) fun v186=>
 m8 S182 [(.int .i64 0), .nilFn] fun v187 S188=>(p7 v184 S182 S188∧True)∧
 m8 S188 [(.int .i64 0), .nilFn] fun v189 S190=>(p7 v184 S182 S190∧True)∧
 DF E (J6 Tryz.prog E w0) F3 [v186] S190 fun v191 S192=>(True)∧
 b7 (B8 (s5 [(.int .i64 0), .nilFn] [(0,1,(.int .i64 8)),(1,1,v191)])) fun v193=>
 j7 S192 2 v187 v183 fun v194 S195=>(True)∧
 j7 S195 2 v189 v193 fun v196 S197=>(True)∧
 w4 E w0 x Q x4 x7 x10 v187 v189 S197)∧
 (DF E (J6 Tryz.prog E w0) u7 [(.int .i64 0),(.int .i64 4294967295)] S fun v198 S199=>(True)∧
 b7 (B8 (s5 [(.int .i64 0), .nilFn] [(0,1,(.int .i64 4)),(1,1,v198)])) fun v200=>
 b7 (i5 1 x7) fun v201=>
 b7 (b8 S199 v201) fun v202=>((b8 S (j5 (i5 1 x7))≠none∧p7 (j5 (i5 1 x7)) S S199)∧True)∧
 b7 (E7 .u8 v202) fun v203=>
 m8 S199 [(.int .i64 0), .nilFn] fun v204 S205=>(p7 v201 S199 S205∧True)∧
 m8 S205 [(.int .i64 0), .nilFn] fun v206 S207=>(p7 v201 S199 S207∧True)∧
 DF E (J6 Tryz.prog E w0) F3 [v203] S207 fun v208 S209=>(True)∧
 b7 (B8 (s5 [(.int .i64 0), .nilFn] [(0,1,(.int .i64 8)),(1,1,v208)])) fun v210=>
 j7 S209 2 v206 v200 fun v211 S212=>(True)∧
 j7 S212 2 v204 v210 fun v213 S214=>(True)∧
 w4 E w0 x Q x4 x7 x10 v206 v204 S214)∧
 (b7 (i5 1 x7) fun v215=>
 b7 (b8 S v215) fun v216=>(True)∧
 b7 (E7 .u8 v216) fun v217=>
 m8 S [(.int .i64 0), .nilFn] fun v218 S219=>(p7 v215 S S219∧True)∧
 DF E (J6 Tryz.prog E w0) u7 [(.int .i64 0),(.int .i64 4294967295)] S219 fun v220 S221=>(p7 v215 S S221∧True)∧
 b7 (B8 (s5 [(.int .i64 0), .nilFn] [(0,1,(.int .i64 4)),(1,1,v220)])) fun v222=>
 DF E (J6 Tryz.prog E w0) F3 [v217] S221 fun v223 S224=>(True)∧
 b7 (B8 (s5 [(.int .i64 0), .nilFn] [(0,1,(.int .i64 8)),(1,1,v223)])) fun v225=>
 m8 S224 [(.int .i64 0), .nilFn] fun v226 S227=>(True)∧
 j7 S227 2 v226 v222 fun v228 S229=>(True)∧
 j7 S229 2 v218 v225 fun v230 S231=>(True)∧
 w4 E w0 x Q x4 x7 x10 v226 v218 S231)∧
 (b7 (i5 1 x7) fun v232=>
 b7 (b8 S v232) fun v233=>(True)∧
 b7 (E7 .u8 v233) fun v234=>
 m8 S [(.int .i64 0), .nilFn] fun v235 S236=>(p7 v232 S S236∧True)∧
 DF E (J6 Tryz.prog E w0) u7 [(.int .i64 0),(.int .i64 4294967295)] S236 fun v237 S238=>(p7 v232 S S238∧True)∧
 b7 (B8 (s5 [(.int .i64 0), .nilFn] [(0,1,(.int .i64 4)),(1,1,v237)])) fun v239=>
 m8 S238 [(.int .i64 0), .nilFn] fun v240 S241=>(p7 v232 S S241∧True)∧
 DF E (J6 Tryz.prog E w0) F3 [v234] S241 fun v242 S243=>(True)∧
 b7 (B8 (s5 [(.int .i64 0), .nilFn] [(0,1,(.int .i64 8)),(1,1,v242)])) fun v244=>
 j7 S243 2 v240 v239 fun v245 S246=>(True)∧
 j7 S246 2 v235 v244 fun v247 S248=>(True)∧
 w4 E w0 x Q x4 x7 x10 v240 v235 S248)∧
 (b7 (i5 1 x7) fun v249=>
 b7 (b8 S v249) fun v250=>(True)∧
 b7 (E7 .u8 v250) fun v251=>
 m8 S [(.int .i64 0), .nilFn] fun v252 S253=>(p7 v249 S S253∧True)∧
 DF E (J6 Tryz.prog E w0) u7 [(.int .i64 0),(.int .i64 4294967295)] S253 fun v254 S255=>(p7 v249 S S255∧True)∧
 b7 (B8 (s5 [(.int .i64 0), .nilFn] [(0,1,(.int .i64 4)),(1,1,v254)])) fun v256=>
 DF E (J6 Tryz.prog E w0) F3 [v251] S255 fun v257 S258=>(True)∧
 b7 (B8 (s5 [(.int .i64 0), .nilFn] [(0,1,(.int .i64 8)),(1,1,v257)])) fun v259=>
 m8 S258 [(.int .i64 0), .nilFn] fun v260 S261=>(True)∧
 j7 S261 2 v252 v256 fun v262 S263=>(True)∧
 j7 S263 2 v260 v259 fun v264 S265=>(True)∧
 w4 E w0 x Q x4 x7 x10 v252 v260 S265)∧
 (b7 (i5 1 x7) fun v266=>
 b7 (b8 S v266) fun v267=>(True)∧
 b7 (E7 .u8 v267) fun v268=>
 m8 S [(.int .i64 0), .nilFn] fun v269 S270=>(p7 v266 S S270∧True)∧
 DF E (J6 Tryz.prog E w0) u7 [(.int .i64 0),(.int .i64 4294967295)] S270 fun v271 S272=>(p7 v266 S S272∧True)∧
 b7 (B8 (s5 [(.int .i64 0), .nilFn] [(0,1,(.int .i64 4)),(1,1,v271)])) fun v273=>
 m8 S272 [(.int .i64 0), .nilFn] fun v274 S275=>(p7 v266 S S275∧True)∧
 DF E (J6 Tryz.prog E w0) F3 [v268] S275 fun v276 S277=>(True)∧
 b7 (B8 (s5 [(.int .i64 0), .nilFn] [(0,1,(.int .i64 8)),(1,1,v276)])) fun v278=>
 j7 S277 2 v269 v273 fun v279 S280=>(True)∧
 j7 S280 2 v274 v278 fun v281 S282=>(True)∧
 w4 E w0 x Q x4 x7 x10 v269 v274 S282)∧
 (b7 (i5 1 x7) fun v283=>
 b7 (b8 S v283) fun v284=>(True)∧
 b7 (E7 .u8 v284) fun v285=>
 m8 S [(.int .i64 0), .nilFn] fun v286 S287=>(p7 v283 S S287∧True)∧
 m8 S287 [(.int .i64 0), .nilFn] fun v288 S289=>(p7 v283 S S289∧True)∧
 DF E (J6 Tryz.prog E w0) u7 [(.int .i64 0),(.int .i64 4294967295)] S289 fun v290 S291=>(p7 v283 S S291∧True)∧
 b7 (B8 (s5 [(.int .i64 0), .nilFn] [(0,1,(.int .i64 4)),(1,1,v290)])) fun v292=>
 DF E (J6 Tryz.prog E w0) F3 [v285] S291 fun v293 S294=>(True)∧
 b7 (B8 (s5 [(.int .i64 0), .nilFn] [(0,1,(.int .i64 8)),(1,1,v293)])) fun v295=>
 j7 S294 2 v286 v292 fun v296 S297=>(True)∧
 j7 S297 2 v288 v295 fun v298 S299=>(True)∧
 w4 E w0 x Q x4 x7 x10 v286 v288 S299)∧
 (b7 (i5 1 x7) fun v300=>
 b7 (b8 S v300) fun v301=>(True)∧
 b7 (E7 .u8 v301) fun v302=>
 m8 S [(.int .i64 0), .nilFn] fun v303 S304=>(p7 v300 S S304∧True)∧
 m8 S304 [(.int .i64 0), .nilFn] fun v305 S306=>(p7 v300 S S306∧True)∧
 DF E (J6 Tryz.prog E w0) u7 [(.int .i64 0),(.int .i64 4294967295)] S306 fun v307 S308=>(p7 v300 S S308∧True)∧
 b7 (B8 (s5 [(.int .i64 0), .nilFn] [(0,1,(.int .i64 4)),(1,1,v307)])) fun v309=>
 DF E (J6 Tryz.prog E w0) F3 [v302] S308 fun v310 S311=>(True)∧
 b7 (B8 (s5 [(.int .i64 0), .nilFn] [(0,1,(.int .i64 8)),(1,1,v310)])) fun v312=>
 j7 S311 2 v305 v309 fun v313 S314=>(True)∧
 j7 S314 2 v303 v312 fun v315 S316=>(True)∧
 w4 E w0 x Q x4 x7 x10 v305 v303 S316)∧
 True)
 (a0K E w0 x Q x4 x7 x10 S))
theorem c0x{N0:D→D→D→D→D→D→b9→Prop}{Q:D→b9→Prop}{x4 x7 x10 x45 x46 x47:D}{S:b9}(h:a9n E w0 x N0 Q x4 x7 x10 x45 x46 x47 S):
  j0 Tryz.prog E w0 x a9s (j9 120 [4,7,10,45,46,47] [x4,x7,x10,x45,x46,x47]) S (q8 (fun T S=>N0 (T.getD 4 d9) (T.getD 7 d9) (T.getD 10 d9) (T.getD 45 d9) (T.getD 46 d9) (T.getD 47 d9) S) (a9k E w0 x Q)):=j3 Y1 X9 m7 (by kernel_rfl) h
theorem c1D(I:Nat→D→D→D→D→D→D→b9→Prop)
  (step:∀n x4 x7 x10 x45 x46 x47 S,I n x4 x7 x10 x45 x46 x47 S→a9n E w0 x (fun x4 x7 x10 x45 x46 x47 S=>∃m,m<n∧I m x4 x7 x10 x45 x46 x47 S) Q x4 x7 x10 x45 x46 x47 S)
  {n:Nat} {x4 x7 x10 x45 x46 x47:D} {S:b9} (h:I n x4 x7 x10 x45 x46 x47 S):j0 Tryz.prog E w0 x (.loop a9s) (j9 120 [4,7,10,45,46,47] [x4,x7,x10,x45,x46,x47]) S (a9k E w0 x Q):=
 o3 (k:=120) (n:=n) (I:=fun n T S=>I n (T.getD 4 d9) (T.getD 7 d9) (T.getD 10 d9) (T.getD 45 d9) (T.getD 46 d9) (T.getD 47 d9) S) (fun n T S hl hI=>o5 [4,7,10,45,46,47] hl (j0.mono (c0x (step n _ _ _ _ _ _ S hI)) fun ex T' S' _ hq=>by cases ex<;>exact hq)) (l8 ..) (Eq.mp (by kernel_rfl) h)
def c0l(E:j6)(w0:World)(x:Bool)(Q:D→b9→Prop)(a0 a1:D)(S:b9):Prop:=
 m8 S [(.int .u8 0),(.int .i64 0),(.int .i64 0), .nilSlc] fun v0 S1=>
 b7 (i6 .lss a1 (.int .i64 0)) fun v2=>
 b7 (i4 (i0 v2 false) (some a1)) fun v3=>
 b7 (i4 (i0 v2 false) (some a0)) fun v4=>
 b7 (i4 (i0 v2 false) (l9 v4)) fun v5=>
 b7 (i4 (i0 v2 false) (i6 .geq v3 v5)) fun v6=>
 b7 (o7 v2 (.bool true) v6) fun v7=>
 j1 v7
 (b7 (B8 (s5 [(.int .u8 0),(.int .i64 0),(.int .i64 0), .nilSlc] [])) fun v8=>
 j7 S1 4 v0 v8 fun v9 S10=>
 b7 (j2 S10 4 v0) fun v11=>Q (.tup [v11,(.int .i64 0),(.int .i64 2)]) S10)
 (b7 (p6 1 a0 a1) fun v12=>
 b7 (b8 S1 v12) fun v13=>
 b7 (B8 (s5 [(.int .u8 0),(.int .i64 0),(.int .i64 0), .nilSlc] [(0,1,v13)])) fun v14=>
 m8 S1 [(.int .u8 0),(.int .i64 0),(.int .i64 0), .nilSlc] fun v15 S16=>
 j7 S16 4 v15 v14 fun v17 S18=>
 b7 (i5 0 v15) fun v19=>
 b7 (b8 S18 v19) fun v20=>
 o9 Tryz.prog E w0 x a7B [v20] S18 fun v21 S22=>
 b7 (o4 v21 0) fun v23=>
 b7 (o4 v21 1) fun v24=>
 b7 (unD .not v24) fun v25=>
 j1 v25
 (b7 (B8 (s5 [(.int .u8 0),(.int .i64 0),(.int .i64 0), .nilSlc] [])) fun v26=>
 j7 S22 4 v0 v26 fun v27 S28=>
 b7 (j2 S28 4 v0) fun v29=>Q (.tup [v29,(.int .i64 0),(.int .i64 120)]) S28)
 (b7 (i6 .add a1 (.int .i64 1)) fun v30=>
 b7 (B8 (s5 [.nilSlc,(.int .i64 0),(.int .i64 0)] [(0,1,a0),(1,1,v30)])) fun v31=>
 b7 (q6 v31) fun cs=>m8 S22 cs fun v32 S33=>
 b7 (l9 v23) fun v34=>
 j0 Tryz.prog E w0 x (.loop a9s) (j9 120 [4,7,10,45,46,47] [v0,v15,v32,v23,v34,(.int .i64 0)]) S33 (a9k E w0 x Q)))
theorem c5N{a0 a1:D}{S:b9}(h:c0l E w0 x (i9 E Q) a0 a1 S):o9 Tryz.prog E w0 x a7p [a0,a1] S Q:=
 l7 Y1 X9 (fn:=Tryz.f97) (c:=Tryz.f97.body.getD .skip) m7 Tryz.func97 (by kernel_rfl) (by kernel_rfl) h
def b9p:List (Nat×List Nat):=[(8,[0,5,6,7])]
def b9E:List (Nat×List Nat):=[]
noncomputable def b7e:Code:=(j4 [1,1,1,0,1,0,0] (Tryz.f83.body.getD .skip))
def b6V(E:j6)(w0:World)(x:Bool)(Q:D→b9→Prop):o6→List D→b9→Prop:=
 (o8 0 (w6 Tryz.prog E w0 x b9p b9E (j4 [1,1,1,1] (Tryz.f83.body.getD .skip)) (z7 Tryz.prog Tryz.f83 Q)))
def b5H(E:j6)(w0:World)(x:Bool)(N0:D→D→D→D→b9→Prop)(Q:D→b9→Prop)(x0 x5 x6 x7:D)(S:b9):Prop:=
 b7 (l9 x0) fun v0=>
 b7 (i6 .lss x7 v0) fun v1=>
 j1 v1
 (o9 Tryz.prog E w0 x a7p [x0,x7] S fun v2 S3=>
 b7 (o4 v2 0) fun v4=>
 b7 (o4 v2 1) fun v5=>
 b7 (o4 v2 2) fun v6=>
 m8 S3 [(.int .u8 0),(.int .i64 0),(.int .i64 0), .nilSlc] fun v7 S8=>
 j7 S8 4 v7 v4 fun v9 S10=>
 b7 (i6 .neq v6 (.int .i64 0)) fun v11=>
 j1 v11
 (Q (.tup [.nilSlc, .nilSlc,v6]) S10)
 (b7 (j2 S10 4 v7) fun v12=>
 q7 S10 4 (m9 4 (List.replicate 1 [(.int .u8 0),(.int .i64 0),(.int .i64 0), .nilSlc]) [(0,v12)]) 1 fun v13 S14=>
 r6 S14 4 48 x5 v13 fun v15 S16=>
 q7 S16 1 (m9 1 (List.replicate 1 [(.int .i64 0)]) [(0,x7)]) 1 fun v17 S18=>
 r6 S18 1 8 x6 v17 fun v19 S20=>
 N0 x0 v15 v19 v5 S20))
 (Q (.tup [x5,x6,(.int .i64 0)]) S)
theorem c7X{N0:D→D→D→D→b9→Prop}{Q:D→b9→Prop}{x0 x5 x6 x7:D}{S:b9}(h:b5H E w0 x N0 Q x0 x5 x6 x7 S):
  j0 Tryz.prog E w0 x b7e (j9 36 [0,5,6,7] [x0,x5,x6,x7]) S (q8 (fun T S=>N0 (T.getD 0 d9) (T.getD 5 d9) (T.getD 6 d9) (T.getD 7 d9) S) (b6V E w0 x Q)):=j3 b9p b9E m7 (by kernel_rfl) h
theorem c8K(I:Nat→D→D→D→D→b9→Prop)
  (step:∀n x0 x5 x6 x7 S,I n x0 x5 x6 x7 S→b5H E w0 x (fun x0 x5 x6 x7 S=>∃m,m<n∧I m x0 x5 x6 x7 S) Q x0 x5 x6 x7 S)
  {n:Nat} {x0 x5 x6 x7:D} {S:b9} (h:I n x0 x5 x6 x7 S):j0 Tryz.prog E w0 x (.loop b7e) (j9 36 [0,5,6,7] [x0,x5,x6,x7]) S (b6V E w0 x Q):=
 o3 (k:=36) (n:=n) (I:=fun n T S=>I n (T.getD 0 d9) (T.getD 5 d9) (T.getD 6 d9) (T.getD 7 d9) S) (fun n T S hl hI=>o5 [0,5,6,7] hl (j0.mono (c7X (step n _ _ _ _ S hI)) fun ex T' S' _ hq=>by cases ex<;>exact hq)) (l8 ..) (Eq.mp (by kernel_rfl) h)
def d0T(E:j6)(w0:World)(x:Bool)(Q:D→b9→Prop)(a0:D)(S:b9):Prop:=
 j0 Tryz.prog E w0 x (.loop b7e) (j9 36 [0,5,6,7] [a0, .nilSlc, .nilSlc,(.int .i64 0)]) S (b6V E w0 x Q)
theorem d2G{a0:D}{S:b9}(h:d0T E w0 x (i9 E Q) a0 S):o9 Tryz.prog E w0 x c2U [a0] S Q:=
 l7 b9p b9E (fn:=Tryz.f83) (c:=Tryz.f83.body.getD .skip) m7 Tryz.func83 (by kernel_rfl) (by kernel_rfl) h
def R0:List (Nat×List Nat):=[(16,[0,3,5,6])]
def Q4:List (Nat×List Nat):=[(28,[0,3,5])]
noncomputable def b1u:Code:=(j4 [1,1,1,1,1,1,1] (Tryz.f107.body.getD .skip))
def b0g(E:j6)(w0:World)(x:Bool)(Q:D→b9→Prop):o6→List D→b9→Prop:=
 (z7 Tryz.prog Tryz.f107 Q)
def a2n(E:j6)(w0:World)(x:Bool)(Q:D→b9→Prop)(x0 x3 x5:D)(S:b9):Prop:=
 b7 (j2 S 4 x3) fun v48=>
 b7 (E7 .i64 x5) fun v49=>
 o9 Tryz.prog E w0 x U1 [v48,v49] S fun v50 S51=>
 b7 (unD .not v50) fun v52=>
 j1 v52
 (b7 (a1v x0) fun v53=>
 b7 (i5 2 v53) fun v54=>
 j7 S51 1 v54 (.int .i64 120) fun v55 S56=>
 Q (.int .i64 0) S56)
 (b7 (E7 .i64 x5) fun v57=>
 Q v57 S51)
def M7(E:j6)(w0:World)(x:Bool)(Q:D→b9→Prop)(x0 x3 x5:D)(S:b9):Prop:=j0 Tryz.prog E w0 x b1u (j9 94 [0,3,5] [x0,x3,x5]) S (b0g E w0 x Q)
theorem a7s{x0 x3 x5:D}{S:b9}(h:a2n E w0 x Q x0 x3 x5 S):M7 E w0 x Q x0 x3 x5 S:=j3 R0 Q4 m7 (by kernel_rfl) h
noncomputable def a0b:Code:=(j4 [1,1,1,1,0,1,0,0] (Tryz.f107.body.getD .skip))
def a0a(E:j6)(w0:World)(x:Bool)(Q:D→b9→Prop):o6→List D→b9→Prop:=
 (o8 0 (w6 Tryz.prog E w0 x R0 Q4 (j4 [1,1,1,1,1] (Tryz.f107.body.getD .skip)) (z7 Tryz.prog Tryz.f107 Q)))
def a0c(E:j6)(w0:World)(x:Bool)(N0:D→D→D→D→b9→Prop)(Q:D→b9→Prop)(x0 x3 x5 x6:D)(S:b9):Prop:=
 b7 (i5 0 x3) fun v21=>
 b7 (b8 S v21) fun v22=>
 b7 (i6 .lss x6 v22) fun v23=>
 j1 v23
 (b7 (a1v x0) fun v24=>
 b7 (i5 0 v24) fun v25=>
 b7 (b8 S v25) fun v26=>(True)∧
 b7 (a1v x0) fun v27=>
 b7 (i5 1 v27) fun v28=>
 b7 (b8 S v28) fun v29=>(True)∧
 b7 (i6 .add v29 x6) fun v30=>
 b7 (p6 1 v26 v30) fun v31=>
 b7 (b8 S v31) fun v32=>(True)∧
 b7 (E7 .u64 v32) fun v33=>
 b7 (i6 .mul (.int .i64 8) x6) fun v34=>
 b7 (i6 .shl v33 v34) fun v35=>
 b7 (i6 .or x5 v35) fun v36=>
 b7 (i6 .add x6 (.int .i64 1)) fun v37=>
 N0 x0 x3 v36 v37 S)
 (b7 (a1v x0) fun v38=>
 b7 (i5 1 v38) fun v39=>
 b7 (b8 S v39) fun v40=>(True)∧
 b7 (i5 0 x3) fun v41=>
 b7 (b8 S v41) fun v42=>(True)∧
 b7 (i6 .add v40 v42) fun v43=>
 b7 (a1v x0) fun v44=>
 b7 (i5 1 v44) fun v45=>
 j7 S 1 v45 v43 fun v46 S47=>(True)∧
 b7 (i5 3 x3) fun v58=>
 b7 (b8 S47 v58) fun v59=>
 b7 (i4 (i0 v59 true) (i5 0 x3)) fun v60=>
 b7 (i4 (i0 v59 true) (b8 S47 v60)) fun v61=>
 b7 (i4 (i0 v59 true) (i6 .lss v61 (.int .i64 8))) fun v62=>
 b7 (o7 v59 v62 (.bool false)) fun v63=>
 b7 (i4 (i0 v63 true) (some x5)) fun v64=>
 b7 (i4 (i0 v63 true) (i5 0 x3)) fun v65=>
 b7 (i4 (i0 v63 true) (b8 S47 v65)) fun v66=>
 b7 (i4 (i0 v63 true) (i6 .mul (.int .i64 8) v66)) fun v67=>
 b7 (i4 (i0 v63 true) (i6 .sub v67 (.int .i64 1))) fun v68=>
 b7 (i4 (i0 v63 true) (i6 .shr v64 v68)) fun v69=>
 b7 (i4 (i0 v63 true) (i6 .eql v69 (.int .u64 1))) fun v70=>
 b7 (o7 v63 v70 (.bool false)) fun v71=>
 j1 v71
 (b7 (i5 0 x3) fun v72=>
 b7 (b8 S47 v72) fun v73=>
 b7 (i6 .mul (.int .i64 8) v73) fun v74=>
 b7 (i6 .shl (.int .u64 1) v74) fun v75=>
 b7 (i6 .sub x5 v75) fun v76=>
 M7 E w0 x Q x0 x3 v76 S47)
 (M7 E w0 x Q x0 x3 x5 S47))
theorem a8B{N0:D→D→D→D→b9→Prop}{Q:D→b9→Prop}{x0 x3 x5 x6:D}{S:b9}(h:a0c E w0 x N0 Q x0 x3 x5 x6 S):
  j0 Tryz.prog E w0 x a0b (j9 94 [0,3,5,6] [x0,x3,x5,x6]) S (q8 (fun T S=>N0 (T.getD 0 d9) (T.getD 3 d9) (T.getD 5 d9) (T.getD 6 d9) S) (a0a E w0 x Q)):=j3 R0 Q4 m7 (by kernel_rfl) h
theorem a8Z(I:Nat→D→D→D→D→b9→Prop)
  (step:∀n x0 x3 x5 x6 S,I n x0 x3 x5 x6 S→a0c E w0 x (fun x0 x3 x5 x6 S=>∃m,m<n∧I m x0 x3 x5 x6 S) Q x0 x3 x5 x6 S)
  {n:Nat} {x0 x3 x5 x6:D} {S:b9} (h:I n x0 x3 x5 x6 S):j0 Tryz.prog E w0 x (.loop a0b) (j9 94 [0,3,5,6] [x0,x3,x5,x6]) S (a0a E w0 x Q):=
 o3 (k:=94) (n:=n) (I:=fun n T S=>I n (T.getD 0 d9) (T.getD 3 d9) (T.getD 5 d9) (T.getD 6 d9) S) (fun n T S hl hI=>o5 [0,3,5,6] hl (j0.mono (a8B (step n _ _ _ _ S hI)) fun ex T' S' _ hq=>by cases ex<;>exact hq)) (l8 ..) (Eq.mp (by kernel_rfl) h)
def a4R(E:j6)(w0:World)(x:Bool)(Q:D→b9→Prop)(a0 a1:D)(S:b9):Prop:=
 b7 (q6 a1) fun cs=>m8 S cs fun v0 S1=>
 b7 (a1v a0) fun v2=>
 b7 (i5 2 v2) fun v3=>
 b7 (b8 S1 v3) fun v4=>
 b7 (i6 .neq v4 (.int .i64 0)) fun v5=>
 j1 v5
 (Q (.int .i64 0) S1)
 (b7 (i5 0 v0) fun v6=>
 b7 (b8 S1 v6) fun v7=>(True)∧
 b7 (a1v a0) fun v8=>
 b7 (i5 0 v8) fun v9=>
 b7 (b8 S1 v9) fun v10=>(True)∧
 b7 (l9 v10) fun v11=>(True)∧
 b7 (a1v a0) fun v12=>
 b7 (i5 1 v12) fun v13=>
 b7 (b8 S1 v13) fun v14=>(True)∧
 b7 (i6 .sub v11 v14) fun v15=>
 b7 (i6 .gtr v7 v15) fun v16=>
 j1 v16
 (b7 (a1v a0) fun v17=>
 b7 (i5 2 v17) fun v18=>
 j7 S1 1 v18 (.int .i64 10) fun v19 S20=>
 Q (.int .i64 0) S20)
 (j0 Tryz.prog E w0 x (.loop a0b) (j9 94 [0,3,5,6] [a0,v0,(.int .u64 0),(.int .i64 0)]) S1 (a0a E w0 x Q)))
theorem b1h{a0 a1:D}{S:b9}(h:a4R E w0 x (i9 E Q) a0 a1 S):o9 Tryz.prog E w0 x C6 [a0,a1] S Q:=
 l7 R0 Q4 (fn:=Tryz.f107) (c:=Tryz.f107.body.getD .skip) m7 Tryz.func107 (by kernel_rfl) (by kernel_rfl) h
def W3:List (Nat×List Nat):=[(18,[0,5,7,8,9])]
def W5:List (Nat×List Nat):=[(14,[0,5,7])]
noncomputable def a1d:Code:=(j4 [1,1,1,1,1,1,0,1,0,0] (Tryz.f108.body.getD .skip))
def a1h(E:j6)(w0:World)(x:Bool)(Q:D→b9→Prop):o6→List D→b9→Prop:=
 (o8 0 (w6 Tryz.prog E w0 x W3 W5 (j4 [1,1,1,1,1,1,1] (Tryz.f108.body.getD .skip)) (z7 Tryz.prog Tryz.f108 Q)))
def a1g(E:j6)(w0:World)(x:Bool)(N0:D→D→D→D→D→b9→Prop)(Q:D→b9→Prop)(x0 x5 x7 x8 x9:D)(S:b9):Prop:=
 b7 (i6 .lss x9 x5) fun v12=>
 b7 (i4 (i0 v12 true) (some x0)) fun v13=>
 b7 (i4 (i0 v12 true) (a1v v13)) fun v14=>
 b7 (i4 (i0 v12 true) (i5 2 v14)) fun v15=>
 b7 (i4 (i0 v12 true) (b8 S v15)) fun v16=>
 b7 (i4 (i0 v12 true) (i6 .eql v16 (.int .i64 0))) fun v17=>
 b7 (o7 v12 v17 (.bool false)) fun v18=>
 j1 v18
 (b7 (j2 S 4 x7) fun v19=>
 o9 Tryz.prog E w0 x C6 [x0,v19] S fun v20 S21=>
 o9 Tryz.prog E w0 x a0q [] S21 fun v22 S23=>
 o9 Tryz.prog E w0 x C6 [x0,v22] S23 fun v24 S25=>
 b7 (B8 (s5 [(.int .i64 0),(.int .i64 0)] [(0,1,v20),(1,1,v24)])) fun v26=>
 q7 S25 2 (m9 2 (List.replicate 1 [(.int .i64 0),(.int .i64 0)]) [(0,v26)]) 1 fun v27 S28=>
 r6 S28 2 16 x8 v27 fun v29 S30=>
 b7 (i6 .add x9 (.int .i64 1)) fun v31=>
 N0 x0 x5 x7 v29 v31 S30)
 (Q x8 S)
theorem b0P{N0:D→D→D→D→D→b9→Prop}{Q:D→b9→Prop}{x0 x5 x7 x8 x9:D}{S:b9}(h:a1g E w0 x N0 Q x0 x5 x7 x8 x9 S):
  j0 Tryz.prog E w0 x a1d (j9 59 [0,5,7,8,9] [x0,x5,x7,x8,x9]) S (q8 (fun T S=>N0 (T.getD 0 d9) (T.getD 5 d9) (T.getD 7 d9) (T.getD 8 d9) (T.getD 9 d9) S) (a1h E w0 x Q)):=j3 W3 W5 m7 (by kernel_rfl) h
theorem b1l(I:Nat→D→D→D→D→D→b9→Prop)
  (step:∀n x0 x5 x7 x8 x9 S,I n x0 x5 x7 x8 x9 S→a1g E w0 x (fun x0 x5 x7 x8 x9 S=>∃m,m<n∧I m x0 x5 x7 x8 x9 S) Q x0 x5 x7 x8 x9 S)
  {n:Nat} {x0 x5 x7 x8 x9:D} {S:b9} (h:I n x0 x5 x7 x8 x9 S):j0 Tryz.prog E w0 x (.loop a1d) (j9 59 [0,5,7,8,9] [x0,x5,x7,x8,x9]) S (a1h E w0 x Q):=
 o3 (k:=59) (n:=n) (I:=fun n T S=>I n (T.getD 0 d9) (T.getD 5 d9) (T.getD 7 d9) (T.getD 8 d9) (T.getD 9 d9) S) (fun n T S hl hI=>o5 [0,5,7,8,9] hl (j0.mono (b0P (step n _ _ _ _ _ S hI)) fun ex T' S' _ hq=>by cases ex<;>exact hq)) (l8 ..) (Eq.mp (by kernel_rfl) h)
noncomputable def b3b:Code:=(j4 [1,1,1,1,1] (Tryz.f108.body.getD .skip))
def b2p(E:j6)(w0:World)(x:Bool)(Q:D→b9→Prop):o6→List D→b9→Prop:=
 (z7 Tryz.prog Tryz.f108 Q)
def a4G(E:j6)(w0:World)(x:Bool)(Q:D→b9→Prop)(x0 x5 x7:D)(S:b9):Prop:=
 j0 Tryz.prog E w0 x (.loop a1d) (j9 59 [0,5,7,8,9] [x0,x5,x7, .nilSlc,(.int .i64 0)]) S (a1h E w0 x Q)
def Q5(E:j6)(w0:World)(x:Bool)(Q:D→b9→Prop)(x0 x5 x7:D)(S:b9):Prop:=j0 Tryz.prog E w0 x b3b (j9 59 [0,5,7] [x0,x5,x7]) S (b2p E w0 x Q)
theorem a9T{x0 x5 x7:D}{S:b9}(h:a4G E w0 x Q x0 x5 x7 S):Q5 E w0 x Q x0 x5 x7 S:=j3 W3 W5 m7 (by kernel_rfl) h
def a7c(E:j6)(w0:World)(x:Bool)(Q:D→b9→Prop)(a0 a1:D)(S:b9):Prop:=
 o9 Tryz.prog E w0 x a0O [] S fun v0 S1=>
 o9 Tryz.prog E w0 x C6 [a0,v0] S1 fun v2 S3=>
 b7 (E7 .u8 a1) fun v4=>
 o9 Tryz.prog E w0 x a4n [v4] S3 fun v5 S6=>
 b7 (B8 (s5 [(.int .i64 0),(.int .i64 0),(.int .i64 0),(.bool false)] [(0,1,(.int .i64 8)),(1,1,(.int .i64 (-9223372036854775808))),(2,1,(.int .i64 9223372036854775807)),(3,1,(.bool true))])) fun v7=>
 m8 S6 [(.int .i64 0),(.int .i64 0),(.int .i64 0),(.bool false)] fun v8 S9=>
 j7 S9 4 v8 v7 fun v10 S11=>
 b7 (i6 .gtr v5 (.int .i64 0)) fun v32=>
 b7 (i4 (i0 v32 true) (some v5)) fun v33=>
 b7 (i4 (i0 v32 true) (i6 .lss v33 (.int .i64 64))) fun v34=>
 b7 (o7 v32 v34 (.bool false)) fun v35=>
 j1 v35
 (b7 (i6 .sub v5 (.int .i64 1)) fun v36=>
 b7 (i6 .shl (.int .i64 (-1)) v36) fun v37=>
 b7 (i5 1 v8) fun v38=>
 j7 S11 1 v38 v37 fun v39 S40=>
 b7 (i6 .sub v5 (.int .i64 1)) fun v41=>
 b7 (i6 .shl (.int .i64 1) v41) fun v42=>
 b7 (i6 .sub v42 (.int .i64 1)) fun v43=>
 b7 (i5 2 v8) fun v44=>
 j7 S40 1 v44 v43 fun v45 S46=>
 Q5 E w0 x Q a0 v2 v8 S46)
 (Q5 E w0 x Q a0 v2 v8 S11)
theorem b3s{a0 a1:D}{S:b9}(h:a7c E w0 x (i9 E Q) a0 a1 S):o9 Tryz.prog E w0 x a2f [a0,a1] S Q:=
 l7 W3 W5 (fn:=Tryz.f108) (c:=Tryz.f108.body.getD .skip) m7 Tryz.func108 (by kernel_rfl) (by kernel_rfl) h
def a2I:List (Nat×List Nat):=[]
def a2J:List (Nat×List Nat):=[(20,[4,7,9,10]),(24,[4,9,10]),(30,[4,9,10])]
noncomputable def c0J:Code:=(j4 [1,1,1,1,1,1,1,1,1] (Tryz.f88.body.getD .skip))
def b9H(E:j6)(w0:World)(x:Bool)(Q:D→b9→Prop):o6→List D→b9→Prop:=
 (z7 Tryz.prog Tryz.f88 Q)
def b0I(E:j6)(w0:World)(x:Bool)(Q:D→b9→Prop)(x4 x9 x10:D)(S:b9):Prop:=
 b7 (a1v x9) fun v34=>
 b7 (i5 2 v34) fun v35=>
 b7 (b8 S v35) fun v36=>
 b7 (i6 .neq v36 (.int .i64 0)) fun v37=>
 j1 v37
 (b7 (B8 (s5 [(.int .u8 0),(.int .i64 0),(.int .i64 0), .nilSlc] [])) fun v38=>
 b7 (a1v x9) fun v39=>
 b7 (i5 2 v39) fun v40=>
 b7 (b8 S v40) fun v41=>(True)∧
 j7 S 4 x4 v38 fun v42 S43=>(p7 v40 S S43∧True)∧
 b7 (j2 S43 4 x4) fun v44=>Q (.tup [v44,(.int .i64 0),v41]) S43)
 (b7 (j2 S 4 x10) fun v45=>(True)∧
 b7 (a1v x9) fun v46=>
 b7 (i5 1 v46) fun v47=>
 b7 (b8 S v47) fun v48=>(True)∧
 j7 S 4 x4 v45 fun v49 S50=>(p7 v47 S S50∧True)∧
 b7 (j2 S50 4 x4) fun v51=>Q (.tup [v51,v48,(.int .i64 0)]) S50)
def a1s(E:j6)(w0:World)(x:Bool)(Q:D→b9→Prop)(x4 x9 x10:D)(S:b9):Prop:=j0 Tryz.prog E w0 x c0J (j9 86 [4,9,10] [x4,x9,x10]) S (b9H E w0 x Q)
theorem b6A{x4 x9 x10:D}{S:b9}(h:b0I E w0 x Q x4 x9 x10 S):a1s E w0 x Q x4 x9 x10 S:=j3 a2I a2J m7 (by kernel_rfl) h
noncomputable def c1W:Code:=(j4 [1,1,1,1,1,1,1,1] (Tryz.f88.body.getD .skip))
def b8T(E:j6)(w0:World)(x:Bool)(Q:D→b9→Prop):o6→List D→b9→Prop:=
 (z7 Tryz.prog Tryz.f88 Q)
def b0K(E:j6)(w0:World)(x:Bool)(Q:D→b9→Prop)(x4 x9 x10:D)(S:b9):Prop:=
 b7 (i5 0 x10) fun v52=>
 b7 (b8 S v52) fun v53=>
 b7 (i6 .eql v53 (.int .u8 49)) fun v54=>
 j1 v54
 (b7 (i5 1 x10) fun v55=>
 b7 (b8 S v55) fun v56=>
 o9 Tryz.prog E w0 x a2f [x9,v56] S fun v57 S58=>
 b7 (i5 3 x10) fun v59=>
 j7 S58 1 v59 v57 fun v60 S61=>
 o9 Tryz.prog E w0 x a0q [] S61 fun v62 S63=>
 o9 Tryz.prog E w0 x C6 [x9,v62] S63 fun v64 S65=>
 b7 (i5 2 x10) fun v66=>
 j7 S65 1 v66 v64 fun v67 S68=>
 a1s E w0 x Q x4 x9 x10 S68)
 (a1s E w0 x Q x4 x9 x10 S)
def a1t(E:j6)(w0:World)(x:Bool)(Q:D→b9→Prop)(x4 x9 x10:D)(S:b9):Prop:=j0 Tryz.prog E w0 x c1W (j9 86 [4,9,10] [x4,x9,x10]) S (b8T E w0 x Q)
theorem b6X{x4 x9 x10:D}{S:b9}(h:b0K E w0 x Q x4 x9 x10 S):a1t E w0 x Q x4 x9 x10 S:=j3 a2I a2J m7 (by kernel_rfl) h
noncomputable def c2m:Code:=(j4 [1,1,1,1,1,1,1] (Tryz.f88.body.getD .skip))
def b9T(E:j6)(w0:World)(x:Bool)(Q:D→b9→Prop):o6→List D→b9→Prop:=
 (z7 Tryz.prog Tryz.f88 Q)
def b0p(E:j6)(w0:World)(x:Bool)(Q:D→b9→Prop)(x4 x7 x9 x10:D)(S:b9):Prop:=
 b7 (l9 x7) fun v69=>
 b7 (i6 .gtr v69 (.int .i64 1)) fun v70=>
 j1 v70
 (b7 (p6 4 x7 (.int .i64 1)) fun v71=>
 b7 (j2 S 4 v71) fun v72=>
 o9 Tryz.prog E w0 x C6 [x9,v72] S fun v73 S74=>
 b7 (i5 2 x10) fun v75=>
 j7 S74 1 v75 v73 fun v76 S77=>
 a1t E w0 x Q x4 x9 x10 S77)
 (a1t E w0 x Q x4 x9 x10 S)
def a1n(E:j6)(w0:World)(x:Bool)(Q:D→b9→Prop)(x4 x7 x9 x10:D)(S:b9):Prop:=j0 Tryz.prog E w0 x c2m (j9 86 [4,7,9,10] [x4,x7,x9,x10]) S (b9T E w0 x Q)
theorem b6f{x4 x7 x9 x10:D}{S:b9}(h:b0p E w0 x Q x4 x7 x9 x10 S):a1n E w0 x Q x4 x7 x9 x10 S:=j3 a2I a2J m7 (by kernel_rfl) h
def b7i(E:j6)(w0:World)(x:Bool)(Q:D→b9→Prop)(a0 a1:D)(S:b9):Prop:=
 m8 S [(.int .u8 0),(.int .i64 0),(.int .i64 0), .nilSlc] fun v0 S1=>
 b7 (i6 .lss a1 (.int .i64 0)) fun v2=>
 b7 (i4 (i0 v2 false) (some a1)) fun v3=>
 b7 (i4 (i0 v2 false) (some a0)) fun v4=>
 b7 (i4 (i0 v2 false) (l9 v4)) fun v5=>
 b7 (i4 (i0 v2 false) (i6 .geq v3 v5)) fun v6=>
 b7 (o7 v2 (.bool true) v6) fun v7=>
 j1 v7
 (b7 (B8 (s5 [(.int .u8 0),(.int .i64 0),(.int .i64 0), .nilSlc] [])) fun v8=>
 j7 S1 4 v0 v8 fun v9 S10=>
 b7 (j2 S10 4 v0) fun v11=>Q (.tup [v11,(.int .i64 0),(.int .i64 2)]) S10)
 (b7 (p6 1 a0 a1) fun v12=>
 b7 (b8 S1 v12) fun v13=>
 o9 Tryz.prog E w0 x a5I [v13] S1 fun v14 S15=>
 b7 (o4 v14 0) fun v16=>
 b7 (o4 v14 1) fun v17=>
 b7 (unD .not v17) fun v18=>
 j1 v18
 (b7 (B8 (s5 [(.int .u8 0),(.int .i64 0),(.int .i64 0), .nilSlc] [])) fun v19=>
 j7 S15 4 v0 v19 fun v20 S21=>
 b7 (j2 S21 4 v0) fun v22=>Q (.tup [v22,(.int .i64 0),(.int .i64 120)]) S21)
 (b7 (i6 .add a1 (.int .i64 1)) fun v23=>
 b7 (B8 (s5 [.nilSlc,(.int .i64 0),(.int .i64 0)] [(0,1,a0),(1,1,v23)])) fun v24=>
 b7 (q6 v24) fun cs=>m8 S15 cs fun v25 S26=>
 b7 (p6 1 a0 a1) fun v27=>
 b7 (b8 S26 v27) fun v28=>
 b7 (B8 (s5 [(.int .u8 0),(.int .i64 0),(.int .i64 0), .nilSlc] [(0,1,v28)])) fun v29=>
 m8 S26 [(.int .u8 0),(.int .i64 0),(.int .i64 0), .nilSlc] fun v30 S31=>
 j7 S31 4 v30 v29 fun v32 S33=>
 b7 (l9 v16) fun v78=>
 b7 (i6 .gtr v78 (.int .i64 0)) fun v79=>
 j1 v79
 (b7 (p6 4 v16 (.int .i64 0)) fun v80=>
 b7 (j2 S33 4 v80) fun v81=>
 o9 Tryz.prog E w0 x C6 [v25,v81] S33 fun v82 S83=>
 b7 (i5 1 v30) fun v84=>
 j7 S83 1 v84 v82 fun v85 S86=>
 a1n E w0 x Q v0 v16 v25 v30 S86)
 (a1n E w0 x Q v0 v16 v25 v30 S33)))
theorem c1l{a0 a1:D}{S:b9}(h:b7i E w0 x (i9 E Q) a0 a1 S):o9 Tryz.prog E w0 x a8j [a0,a1] S Q:=
 l7 a2I a2J (fn:=Tryz.f88) (c:=Tryz.f88.body.getD .skip) m7 Tryz.func88 (by kernel_rfl) (by kernel_rfl) h
def b2H:List (Nat×List Nat):=[(8,[0,5,6,7])]
def b3W:List (Nat×List Nat):=[]
noncomputable def b1z:Code:=(j4 [1,1,1,0,1,0,0] (Tryz.f56.body.getD .skip))
def b0Q(E:j6)(w0:World)(x:Bool)(Q:D→b9→Prop):o6→List D→b9→Prop:=
 (o8 0 (w6 Tryz.prog E w0 x b2H b3W (j4 [1,1,1,1] (Tryz.f56.body.getD .skip)) (z7 Tryz.prog Tryz.f56 Q)))
def b1s(E:j6)(w0:World)(x:Bool)(N0:D→D→D→D→b9→Prop)(Q:D→b9→Prop)(x0 x5 x6 x7:D)(S:b9):Prop:=
 b7 (l9 x0) fun v0=>
 b7 (i6 .lss x7 v0) fun v1=>
 j1 v1
 (o9 Tryz.prog E w0 x a8j [x0,x7] S fun v2 S3=>
 b7 (o4 v2 0) fun v4=>
 b7 (o4 v2 1) fun v5=>
 b7 (o4 v2 2) fun v6=>
 m8 S3 [(.int .u8 0),(.int .i64 0),(.int .i64 0), .nilSlc] fun v7 S8=>
 j7 S8 4 v7 v4 fun v9 S10=>
 b7 (i6 .neq v6 (.int .i64 0)) fun v11=>
 j1 v11
 (Q (.tup [.nilSlc, .nilSlc,v6]) S10)
 (b7 (j2 S10 4 v7) fun v12=>
 q7 S10 4 (m9 4 (List.replicate 1 [(.int .u8 0),(.int .i64 0),(.int .i64 0), .nilSlc]) [(0,v12)]) 1 fun v13 S14=>
 r6 S14 4 48 x5 v13 fun v15 S16=>
 q7 S16 1 (m9 1 (List.replicate 1 [(.int .i64 0)]) [(0,x7)]) 1 fun v17 S18=>
 r6 S18 1 8 x6 v17 fun v19 S20=>
 N0 x0 v15 v19 v5 S20))
 (Q (.tup [x5,x6,(.int .i64 0)]) S)
theorem c3T{N0:D→D→D→D→b9→Prop}{Q:D→b9→Prop}{x0 x5 x6 x7:D}{S:b9}(h:b1s E w0 x N0 Q x0 x5 x6 x7 S):
  j0 Tryz.prog E w0 x b1z (j9 36 [0,5,6,7] [x0,x5,x6,x7]) S (q8 (fun T S=>N0 (T.getD 0 d9) (T.getD 5 d9) (T.getD 6 d9) (T.getD 7 d9) S) (b0Q E w0 x Q)):=j3 b2H b3W m7 (by kernel_rfl) h
theorem c3e(I:Nat→D→D→D→D→b9→Prop)
  (step:∀n x0 x5 x6 x7 S,I n x0 x5 x6 x7 S→b1s E w0 x (fun x0 x5 x6 x7 S=>∃m,m<n∧I m x0 x5 x6 x7 S) Q x0 x5 x6 x7 S)
  {n:Nat} {x0 x5 x6 x7:D} {S:b9} (h:I n x0 x5 x6 x7 S):j0 Tryz.prog E w0 x (.loop b1z) (j9 36 [0,5,6,7] [x0,x5,x6,x7]) S (b0Q E w0 x Q):=
 o3 (k:=36) (n:=n) (I:=fun n T S=>I n (T.getD 0 d9) (T.getD 5 d9) (T.getD 6 d9) (T.getD 7 d9) S) (fun n T S hl hI=>o5 [0,5,6,7] hl (j0.mono (c3T (step n _ _ _ _ S hI)) fun ex T' S' _ hq=>by cases ex<;>exact hq)) (l8 ..) (Eq.mp (by kernel_rfl) h)
def c4L(E:j6)(w0:World)(x:Bool)(Q:D→b9→Prop)(a0:D)(S:b9):Prop:=
 j0 Tryz.prog E w0 x (.loop b1z) (j9 36 [0,5,6,7] [a0, .nilSlc, .nilSlc,(.int .i64 0)]) S (b0Q E w0 x Q)
theorem c8b{a0:D}{S:b9}(h:c4L E w0 x (i9 E Q) a0 S):o9 Tryz.prog E w0 x b7d [a0] S Q:=
 l7 b2H b3W (fn:=Tryz.f56) (c:=Tryz.f56.body.getD .skip) m7 Tryz.func56 (by kernel_rfl) (by kernel_rfl) h
end Go.Proofs.YtchnpgddpaonhaaGreat.d
end
section
open Go.Proofs Go Go.Am Go.Op
namespace Go.Proofs.YtchnpgddpaonhaaGreat.d
section
def rdC(bs:List Int)(s:Nat×Int):List D:=[bD bs, .int .i64 (s.1:Int), .int .i64 s.2]
theorem e2h{s:Nat}(h:s<8):(2:Nat)^(8*s)≤2^56:=Nat.pow_le_pow_right (by decide) (by omega)
section
variable{E:j6}{w0:World}{x:Bool}
theorem d4A{bs:List Int}(hb:∀b∈bs,Y9 b)(hl:bs.length<2^60){s:Nat×Int}(hs:s.1≤bs.length){row:List D}{f:Fld}(hf:c9b row f)(h1:1≤f.size)(h8:f.size≤8){S:b9}{k:Nat}{acs:List AV}(hk:S k=some ⟨3,[rdC bs s],acs⟩):
  o9 Tryz.prog E w0 x D1 [.ptr k 0, .agg row] S fun v S'=>v= .int .i64 (C2 bs f s).1∧∃acs',S'=S.set k ⟨3,[rdC bs (C2 bs f s).2],acs'⟩:=by
 obtain⟨fv,rfl,hm⟩:=hf
 refine b5L ?_
 unfold b0s
 rw[J5,oD]
 intro k0 a0 n0
 have d:k≠k0:=b9.ne_of hk n0
 generalize hS1:S.set k0 _=S1
 have bk:S1 k=some ⟨3,[rdC bs s],acs⟩:=by rw[←hS1,b9.set_ne _ _ _ d];exact hk
 have b0:S1 k0=some ⟨2,[[.int .i64 (f.size:Int),fv]],a0⟩:=by rw[←hS1];exact b9.set_same _ _ _
 have drop:∀ {o:K8} {Q:D→b9→Prop} {v:D},i9 E Q v (S.set k o)→i9 E Q v (S1.set k o):=fun{o Q v} h=>by
  rw[←hS1,b9.set_comm _ (Ne.symm d)]
  exact i9.drop (by rw[b9.set_ne _ _ _ (Ne.symm d)];exact n0) h
 have l2:b8 S1 (.ptr k 2)=some (.int .i64 s.2):=D5 bk
 have l1:b8 S1 (.ptr k 1)=some (.int .i64 (s.1:Int)):=D5 bk
 have l0:b8 S1 (.ptr k 0)=some (bD bs):=D5 bk
 have m0:b8 S1 (.ptr k0 0)=some (.int .i64 (f.size:Int)):=D5 b0
 have m1:b8 S1 (.ptr k0 1)=some fv:=D5 b0
 simp only[ndP,u5,oD,Nat.zero_add,l2,l1,l0,m0,b7I]
 rw[c8a,B3]
 refine⟨fun he=> ?_,fun he=> ?_⟩
 ·rw[d1A he, ←hS1]
  exact i9.drop n0 (i9.here ⟨rfl,acs,(b9.set_self hk).symm⟩)
 have he:s.2=0:=Classical.not_not.1 he
 refine⟨by trivial,by trivial,by trivial,(d2P hb hl hs h1 h8).useX ⟨by trivial, ?_⟩⟩
 have hset:∀n m:Int,o0 (rdC bs (s.1,n)) 2 [.int .i64 m]=rdC bs (s.1,m):=fun _ _=>rfl
 have hset1:∀m:Nat,o0 (rdC bs s) 1 [.int .i64 (m:Int)]=rdC bs (m,s.2):=fun _=>rfl
 by_cases hsh:bs.length<s.1+f.size
 ·rw[if_pos hsh]
  have e:C2 bs f s=(0,s.1,10):=by unfold C2;rw[if_neg (by simp[he]),if_pos hsh]
  simp only[exD,List.getElem?_cons_zero,List.getElem?_cons_succ,oD,b7I]
  rw[show((10:Int) != 0)=true from rfl,cdT]
  refine stP bk (clI _ _) ⟨rfl,by decide,by simp[rdC]⟩ fun acs'=>drop (i9.here ?_)
  rw[e]
  exact⟨rfl,acs',rfl⟩
 rw[if_neg hsh]
 simp only[exD,List.getElem?_cons_zero,List.getElem?_cons_succ,oD,b7I,cvI]
 rw[show((0:Int) != 0)=false from rfl,cdF]
 obtain⟨u,hu⟩:∃u,u=leN ((bs.drop s.1).take f.size):=⟨_,rfl⟩
 have hur:C2 bs f s=match rdN f u with|some n=>(n,s.1+f.size,0)|none=>(0,s.1,120):=by
  unfold C2;rw[if_neg (by simp[he]),if_neg hsh, ←hu]
  cases rdN f u<;>rfl
 have hult:u<2^(8*f.size):=by
  rw[hu]
  have hbs:∀b∈(bs.drop s.1).take f.size,Y9 b:=fun b hb'=>hb b (List.mem_of_mem_drop (List.mem_of_mem_take hb'))
  have:=b6d hbs
  rwa [show((bs.drop s.1).take f.size).length=f.size by rw[List.length_take,List.length_drop];omega]at this
 rw[←hu]
 obtain⟨n,hn⟩:∃n,n=IntKind.i64.wrap (u:Int):=⟨_,rfl⟩
 have hn64:I64 n:=by rw[hn];exact d4k _
 rw[←hn,m1,oD]
 have tail:∀n':Int,I64 n'→n'=(if f.may n=false∧f.size<8 then n - 2^(8*f.size) else n)→N7 E w0 x (i9 E fun v S'=>v= .int .i64 (C2 bs f s).1∧∃acs',S'=S.set k ⟨3,[rdC bs (C2 bs f s).2],acs'⟩) (.ptr k 0) (.ptr k0 0) (.int .i64 ((s.1+f.size:Nat):Int)) (.int .i64 n') S1:=fun n' hn' he'=>by
  refine b1Q ?_
  unfold a6f
  simp only[u5,oD,Nat.zero_add,m1]
  refine c8O hm hn' ?_
  rw[unN,oD]
  have hrd:rdN f u=if f.may n'=true then some n' else none:=by
   unfold rdN;simp only;rw[←hn, ←he']
  have hmm:decide (f.lo≤n'∧n'≤f.hi)=f.may n':=rfl
  rw[hmm,cdB]
  refine⟨fun hf=> ?_,fun hf=> ?_⟩
  ·have hf:f.may n'=false:=by simpa using hf
   rw[hf,if_neg (by decide)]at hrd
   rw[hrd]at hur
   simp only[ndP,u5,oD,Nat.zero_add]
   refine stP bk (clI _ _) ⟨rfl,by decide,by simp[rdC]⟩ fun acs'=>drop (i9.here ?_)
   rw[hur]
   exact⟨rfl,acs',rfl⟩
  ·have hf:f.may n'=true:=by simpa using hf
   rw[if_pos hf]at hrd
   rw[hrd]at hur
   simp only[ndP,u5,oD,Nat.zero_add]
   refine stP bk (clI _ _) ⟨rfl,by decide,by simp[rdC]⟩ fun acs'=>drop (i9.here ?_)
   rw[hur,hset1,he]
   exact⟨rfl,acs',rfl⟩
 refine c8O hm hn64 ?_
 have hmm:decide (f.lo≤n∧n≤f.hi)=f.may n:=rfl
 rw[hmm,unN,oD]
 have e8:decide ((f.size:Int)<8)=decide (f.size<8):=decide_eq_decide.2 (by omega)
 have key:(b7 (i6 .mul (.int .i64 8) (.int .i64 (f.size:Int))) fun v49=>b7 (i6 .shl (.int .i64 1) v49) fun v50=>b7 (i6 .sub (.int .i64 n) v50) fun v51=>N7 E w0 x (i9 E fun v S'=>v= .int .i64 (C2 bs f s).1∧∃acs',S'=S.set k ⟨3,[rdC bs (C2 bs f s).2],acs'⟩) (.ptr k 0) (.ptr k0 0) (.int .i64 ((s.1+f.size:Nat):Int)) v51 S1)∨¬(f.may n=false∧f.size<8):=by
  by_cases hc:f.may n=false∧f.size<8
  ·left
   have h56:=e2h hc.2
   have hnu:n=u:=by rw[hn];exact j8 (by omega) (by omega)
   rw[d0Q,oD,j8 (by omega) (by omega),d6p _ _ _ _ (by omega),oD]
   have e1:min (8*(f.size:Int)).toNat IntKind.i64.bits=8*f.size:=by
    have:IntKind.i64.bits=64:=rfl
    omega
   have e2:(1:Int)*2^(8*f.size)=((2^(8*f.size):Nat):Int):=by rw[Int.one_mul];exact_mod_cast rfl
   rw[e1,e2,j8 (by omega) (by omega),a4S,oD,j8 (by omega) (by omega)]
   refine tail _ ⟨by omega,by omega⟩ ?_
   rw[if_pos hc]
   congr 1
  ·exact .inr hc
 cases hmn:f.may n with
 |true=>
  simp only[Bool.not_true,C5,vdF,oD,C3,Bool.false_eq_true,if_false,cdF,show((false==true)=false) from rfl]
  exact tail n hn64 (by rw[if_neg (by rw[hmn];simp)])
 |false=>
  simp only[Bool.not_false,C5,P7,oD,C3,if_true,show((true==true)=true) from rfl,m0,A5,e8]
  rw[B3]
  refine⟨fun h=> ?_,fun h=> ?_⟩
  ·exact key.resolve_right fun hc=>hc ⟨hmn,h⟩
  ·exact tail n hn64 (by rw[if_neg (fun hc=>h hc.2)])
end
end
section
def zC:List D:=[.int .u8 0, .int .i64 0, .int .i64 0, .nilSlc]
def L0(op a b:Int)(t:D):List D:=[.int .u8 op, .int .i64 a, .int .i64 b,t]
def d2r(r:Dat×(Nat×Int))(t:D):D:= .tup [.agg (L0 r.1.1 r.1.2.1 r.1.2.2.1 t), .int .i64 (r.2.1:Int), .int .i64 r.2.2]
section
variable{E:j6}{w0:World}
theorem d6I{x:Bool}{Q:D→b9→Prop}{S:b9}{k4 k7 k10:Nat}{c4:List D}{op a b:Int}{t:D}{bs:List Int}{s:Nat×Int}(h4:w9 S k4 4 c4)(h7:w9 S k7 4 (L0 op a b t))(h10:w9 S k10 3 (rdC bs s))(l4:c4.length=4)(ht:q6 t=some [t])
  (hQ:∀S',(∀j,j≠k4→S' j=S j)→i9 E Q (if s.2=0 then .tup [.agg (L0 op a b t), .int .i64 (s.1:Int), .int .i64 0]else .tup [.agg zC, .int .i64 0, .int .i64 s.2]) S'):a0K E w0 x (i9 E Q) (.ptr k4 0) (.ptr k7 0) (.ptr k10 0) S:=by
 refine b9x ?_
 unfold b4x
 have e410:k10≠k4:=h10.ne h4 (by decide)
 have ld2:(rdC bs s)[2]? =some (.int .i64 s.2):=rfl
 have ld1:(rdC bs s)[1]? =some (.int .i64 (s.1:Int)):=rfl
 simp only[ndP,u5,oD,Nat.zero_add,h10.ld,ld2,ld1,b7I,fiN,agS]
 rw[c8a,B3]
 refine⟨fun he=>⟨by trivial, ?_⟩,fun he=> ?_⟩
 ·refine h4.st (J5 _) ⟨rfl,by decide,by omega⟩ fun a4=>⟨⟨?_,by trivial⟩, ?_⟩
  ·rw[fwP,b9.set_ne _ _ _ e410]
  have hs:o0 c4 0 [D.int .u8 0, .int .i64 0, .int .i64 0, .nilSlc]=zC:=by
   match c4,l4 with
   | [_,_,_,_],_=>rfl
  rw[hs,(w9.new).all (n:=4) (by decide) rfl,oD]
  have:=hQ (S.set k4 ⟨4,[zC],a4⟩) (fun j hj=>b9.set_ne _ _ _ hj)
  rw[if_neg he]at this
  exact this
 ·rw[h7.all (n:=4) (by decide) rfl,oD]
  refine⟨by trivial,by trivial, ?_⟩
  refine h4.st (ds:=L0 op a b t) (J5 _) ⟨rfl,by decide,by omega⟩ fun a4=>⟨⟨?_,by trivial⟩, ?_⟩
  ·rw[fwP,b9.set_ne _ _ _ e410]
  have hs:o0 c4 0 (L0 op a b t)=L0 op a b t:=by
   match c4,l4 with
   | [_,_,_,_],_=>rfl
  rw[hs,(w9.new).all (n:=4) (by decide) rfl,oD]
  have:=hQ (S.set k4 ⟨4,[L0 op a b t],a4⟩) (fun j hj=>b9.set_ne _ _ _ hj)
  rw[if_pos (Classical.not_not.1 he)]at this
  exact this
structure a1r (S:b9) (k4 k7 k10:Nat) (c7:List D) (bs:List Int) (s:Nat×Int) (S':b9):Prop where
 le:S.le S'
 n4:S k4=none
 n7:S k7=none
 n10:S k10=none
 d47:k4≠k7
 h4:w9 S' k4 4 zC
 h7:w9 S' k7 4 c7
 h10:w9 S' k10 3 (rdC bs s)
section
variable{S S':b9}{k4 k7 k10:Nat}{c7:List D}{bs:List Int}{s:Nat×Int}
theorem a1r.d410(h:a1r S k4 k7 k10 c7 bs s S'):k4≠k10:=h.h4.ne h.h10 (by decide)
theorem a1r.d710(h:a1r S k4 k7 k10 c7 bs s S'):k7≠k10:=h.h7.ne h.h10 (by decide)
theorem a1r.set7(h:a1r S k4 k7 k10 c7 bs s S'){c:List D}{a:List AV}:a1r S k4 k7 k10 c bs s (S'.set k7 ⟨4,[c],a⟩):=
 ⟨b9.le_set h.le h.n7,h.n4,h.n7,h.n10,h.d47,h.h4.set_ne h.d47,w9.new,h.h10.set_ne (Ne.symm h.d710)⟩
theorem a1r.set10(h:a1r S k4 k7 k10 c7 bs s S'){s':Nat×Int}{a:List AV}:a1r S k4 k7 k10 c7 bs s' (S'.set k10 ⟨3,[rdC bs s'],a⟩):=
 ⟨b9.le_set h.le h.n10,h.n4,h.n7,h.n10,h.d47,h.h4.set_ne h.d410,h.h7.set_ne h.d710,w9.new⟩
theorem a1r.new(h:a1r S k4 k7 k10 c7 bs s S'){k:Nat}{o:K8}(hk:S' k=none):a1r S k4 k7 k10 c7 bs s (S'.set k o):=
 ⟨b9.le_set h.le (b9.none_of h.le hk),h.n4,h.n7,h.n10,h.d47,h.h4.set hk,h.h7.set hk,h.h10.set hk⟩
theorem a1r.of(h:a1r S k4 k7 k10 c7 bs s S'){S2:b9}(hl:S.le S2)(e:∀j∈[k4,k7,k10],S2 j=S' j):a1r S k4 k7 k10 c7 bs s S2:=
 ⟨hl,h.n4,h.n7,h.n10,h.d47,h.h4.of (e _ (by simp)),h.h7.of (e _ (by simp)),h.h10.of (e _ (by simp))⟩
end
theorem c9b.len{row:List D}{f:Fld}(h:c9b row f):row.length=2:=by obtain⟨fv,rfl,_⟩:=h;rfl
theorem e0n{row:List D}{f:Fld}(h:c9b row f):o0 [D.int .i64 0, .nilFn] 0 row=row:=by obtain⟨fv,rfl,_⟩:=h;rfl
theorem b2y{x:Bool}{S S':b9}{k4 k7 k10:Nat}{c7:List D}{bs:List Int}{s:Nat×Int}(h:a1r S k4 k7 k10 c7 bs s S')(hb:∀b∈bs,Y9 b)(hl:bs.length<2^60)(hs:s.1≤bs.length){row:List D}{f:Fld}(hf:c9b row f)(h1:1≤f.size)(h8:f.size≤8):
  o9 Tryz.prog E w0 x D1 [.ptr k10 0, .agg row] S' fun v S2=>v= .int .i64 (C2 bs f s).1∧a1r S k4 k7 k10 c7 bs (C2 bs f s).2 S2∧∀j,j≠k10→S2 j=S' j:=by
 obtain⟨a,e⟩:=h.h10
 refine(d4A hb hl hs hf h1 h8 e).use fun v S2 ⟨e1,a',e2⟩=>⟨e1, ?_, ?_⟩
 ·rw[e2];exact h.set10
 ·rw[e2];exact fun j hj=>b9.set_ne _ _ _ hj
theorem d6K(bs:List Int)(f:Fld)(s:Nat×Int):(C2 bs f s).1=0∨f.may (C2 bs f s).1=true:=by
 unfold C2
 split
 ·exact .inl rfl
 split
 ·exact .inl rfl
 ·split
  ·rename_i m hm
   unfold rdN at hm
   simp only[Option.ite_none_right_eq_some,Option.some.injEq]at hm
   obtain⟨h1,h2⟩:=hm
   right;rw[←h2];exact h1
  ·exact .inl rfl
theorem e0M{x:Bool}{Q:D→b9→Prop}{S:b9}{k4 k7 k10 k13 k14:Nat}{op a:Int}{bs:List Int}{s:Nat×Int}{S':b9}(hb:∀b∈bs,Y9 b)(hl:bs.length<2^30)(h:a1r S k4 k7 k10 (L0 op a 0 .nilSlc) bs s S')(hs:s.1≤bs.length)
  (h13:w9 S' k13 2 [.int .i64 4,a0F 0 4294967295]) (h14:w9 S' k14 2 [.int .i64 8,a9Y (IntKind.u8.wrap a)]) (n13:S k13=none) (n14:S k14=none) (d7:k7≠k13∧k7≠k14)
  (hQ:∀t S',Grw S t ((b0z bs op a s).1.2.2.2.map a0g) 2 S'→i9 E Q (if(b0z bs op a s).2.2=0 then .tup [.agg (L0 op a (b0z bs op a s).1.2.2.1 t), .int .i64 ((b0z bs op a s).2.1:Int), .int .i64 0]else .tup [.agg zC, .int .i64 0, .int .i64 (b0z bs op a s).2.2]) S'):
  w4 E w0 x (i9 E Q) (.ptr k4 0) (.ptr k7 0) (.ptr k10 0) (.ptr k13 0) (.ptr k14 0) S':=by
 refine b8W ?_
 unfold b4w
 refine I4.use ?_
 rw[a5P (b8v _ _),oD]
 have hl60:bs.length<2^60:=by omega
 refine(b2y h hb hl60 hs (row:=[.int .i64 2,a0F 0 65535]) (f:=fIx) ⟨_,rfl,c5G.bet _ _⟩ (by decide) (by decide)).use ?_
 rintro v S2 ⟨rfl,h2,ke⟩
 have hs2:=a6p (f:=fIx) hs
 have hn0:0≤(C2 bs fIx s).1∧(C2 bs fIx s).1≤65535:=by
  rcases d6K bs fIx s with h|h
  ·omega
  ·exact of_decide_eq_true h
 have e13:k13≠k10:=h13.ne h.h10 (by decide)
 have e14:k14≠k10:=h14.ne h.h10 (by decide)
 have h13:=h13.of (ke _ e13)
 have h14:=h14.of (ke _ e14)
 obtain⟨N,hN⟩:∃N:Nat,(C2 bs fIx s).1=(N:Int):=⟨(C2 bs fIx s).1.toNat,by omega⟩
 have hdec:b0z bs op a s=((op,a,(C2 bs K2 (E3 bs (IntKind.u8.wrap a) N (C2 bs fIx s).2 []).2).1,(E3 bs (IntKind.u8.wrap a) N (C2 bs fIx s).2 []).1),(C2 bs K2 (E3 bs (IntKind.u8.wrap a) N (C2 bs fIx s).2 []).2).2):=by
  unfold b0z;rw[hN];rfl
 rw[hN]
 refine c1H (I:=fun n x4 x7 x10 x13 x14 x15 T=>x4= .ptr k4 0∧x7= .ptr k7 0∧x10= .ptr k10 0∧x13= .ptr k13 0∧x14= .ptr k14 0∧x15= .int .i64 (n:Int)∧n≤N∧∃(s':Nat×Int) (acc:List (Int×Int)) (t:D),a1r S k4 k7 k10 (L0 op a 0 t) bs s' T∧s'.1≤bs.length∧
   w9 T k13 2 [.int .i64 4,a0F 0 4294967295]∧w9 T k14 2 [.int .i64 8,a9Y (IntKind.u8.wrap a)]∧GrA S [k4,k7,k10,k13,k14] t (acc.map a0g) 2 T∧acc.length+n=N∧E3 bs (IntKind.u8.wrap a) n s' acc=E3 bs (IntKind.u8.wrap a) N (C2 bs fIx s).2 []) ?_ (n:=N)
  ⟨rfl,rfl,rfl,rfl,rfl,rfl,Nat.le_refl _,_,[], .nilSlc,h2,hs2,h13,h14,GrA.nil,by simp,rfl⟩
 rintro n _ _ _ _ _ _ T ⟨rfl,rfl,rfl,rfl,rfl,rfl,hnN,s',acc,t,hd,hs',g13,g14,hg,hacc,hrd⟩
 unfold a7R
 have ld2:b8 T (.ptr k10 2)=some (.int .i64 s'.2):=hd.h10.ld 2
 have fin:(n=0∨s'.2≠0)→(b7 (j2 T 2 (.ptr k13 0)) fun v107=>o9 Tryz.prog E w0 x D1 [.ptr k10 0,v107] T fun v108 S109=>b7 (i5 2 (.ptr k7 0)) fun v110=>j7 S109 1 v110 v108 fun v111 S112=>a0K E w0 x (i9 E Q) (.ptr k4 0) (.ptr k7 0) (.ptr k10 0) S112):=fun hend=>by
  have hrd':E3 bs (IntKind.u8.wrap a) N (C2 bs fIx s).2 []=(acc,s'):=by
   rw[←hrd]
   rcases hend with rfl|h
   ·rfl
   ·exact b9i h
  rw[hrd']at hdec
  rw[g13.all (n:=2) (by decide) rfl,oD]
  refine(b2y hd hb hl60 hs' (row:=[.int .i64 4,a0F 0 4294967295]) (f:=K2) ⟨_,rfl,c5G.bet _ _⟩ (by decide) (by decide)).use ?_
  rintro v T2 ⟨rfl,hd2,ke2⟩
  rw[u5,oD]
  refine hd2.h7.st (clI _ _) ⟨rfl,by decide,by simp[L0]⟩ fun a7=> ?_
  have hd3:=hd2.set7 (c:=L0 op a (C2 bs K2 s').1 t) (a:=a7)
  have hg3:GrA S [k4,k7,k10,k13,k14] t (acc.map a0g) 2 (T2.set k7 ⟨4,[L0 op a (C2 bs K2 s').1 t],a7⟩):=(hg.of fun k o hk e=>by rw[ke2 k (fun e=>hk (by simp[e]))];exact e).set (.inl (by simp))
  refine d6I hd3.h4 hd3.h7 hd3.h10 rfl hg.cells fun S'' hS''=> ?_
  have hg4:GrA S [k4,k7,k10,k13,k14] t (acc.map a0g) 2 S'':=hg3.of fun k o hk e=>by rw[hS'' k (fun e=>hk (by simp[e]))];exact e
  have hle:S.le S'':=fun j o e=>by rw[hS'' j (fun e'=>by rw[e',hd.n4]at e;cases e)];exact hd3.le _ _ e
  obtain⟨S3,l3,g3⟩:=hg4.grw hle
  refine i9.less l3 ?_
  have:=hQ t S3 (by rw[hdec];exact g3)
  rw[hdec]at this
  exact this
 simp only[a4I,oD,ndP,u5,Nat.zero_add,ld2,Y4]
 by_cases h0:n=0
 ·subst h0
  simp only[Int.natCast_zero,gt_iff_lt,Int.lt_irrefl,decide_false,C5,vdF,oD,C3,Bool.false_eq_true,if_false,cdF,show((false==true)=false) from rfl]
  exact fin (.inl rfl)
 have hpos:decide ((n:Int)>0)=true:=decide_eq_true (by omega)
 simp only[hpos,C5,P7,oD,C3,if_true,show((true==true)=true) from rfl,ndP,u5,Nat.zero_add,ld2,Y4]
 rw[cdB]
 refine⟨fun h0'=> ?_,fun h0'=> ?_⟩
 ·have hs0:s'.2=0:=by simpa using h0'
  rw[g14.all (n:=2) (by decide) rfl,oD]
  refine(b2y hd hb hl60 hs' (row:=[.int .i64 8,a9Y (IntKind.u8.wrap a)]) (f:=vF (IntKind.u8.wrap a)) ⟨_,rfl,c5G.fit _⟩ (by show 1≤8;decide) (by show 8≤8;decide)).use ?_
  rintro v T2 ⟨rfl,hd2,ke2⟩
  have hs2':=a6p (f:=vF (IntKind.u8.wrap a)) hs'
  have f13:=g13.of (ke2 _ e13)
  have f14:=g14.of (ke2 _ e14)
  have ld3:b8 T2 (.ptr k7 3)=some t:=hd2.h7.ld 3
  rw[ld3,oD]
  refine⟨by trivial, ?_⟩
  rw[f13.all (n:=2) (by decide) rfl,oD]
  refine⟨by trivial,o9.toX (b2y hd2 hb hl60 hs2' (row:=[.int .i64 4,a0F 0 4294967295]) (f:=K2) ⟨_,rfl,c5G.bet _ _⟩ (by decide) (by decide)) ?_⟩
  rintro v T3 ⟨rfl,hd3,ke3⟩
  have k7e:T3 k7=T2 k7:=ke3 _ hd.d710
  rw[fwP]
  refine⟨⟨k7e,by trivial⟩, ?_⟩
  have hfa:B8 (s5 [D.int .i64 0, .int .i64 0] [(0,1, .int .i64 (C2 bs (vF (IntKind.u8.wrap a)) s').1),(1,1, .int .i64 (C2 bs K2 (C2 bs (vF (IntKind.u8.wrap a)) s').2).1)])=some (.agg (a0g ((C2 bs (vF (IntKind.u8.wrap a)) s').1,(C2 bs K2 (C2 bs (vF (IntKind.u8.wrap a)) s').2).1))):=rfl
  rw[hfa,oD]
  refine F5 (rows:=[a0g _]) rfl ?_
  refine⟨⟨k7e,by trivial⟩, ?_⟩
  have hg2:GrA S [k4,k7,k10,k13,k14] t (acc.map a0g) 2 T2:=hg.of fun k o hk e=>by rw[ke2 k (fun e=>hk (by simp[e]))];exact e
  have hg3:GrA S [k4,k7,k10,k13,k14] t (acc.map a0g) 2 T3:=hg2.of fun k o hk e=>by rw[ke3 k (fun e=>hk (by simp[e]))];exact e
  have q13:=f13.of (ke3 _ e13)
  have q14:=f14.of (ke3 _ e14)
  refine hg3.push hd3.le (fun j hj=> ?_) (news:=[a0g ((C2 bs (vF (IntKind.u8.wrap a)) s').1,(C2 bs K2 (C2 bs (vF (IntKind.u8.wrap a)) s').2).1)]) (by simp[rowsS,L2]) (by simp) (by simp;omega) fun t' T4 hle4 he4 hg4=> ?_
  ·simp only[List.mem_cons,List.not_mem_nil,or_false]at hj
   rcases hj with rfl|rfl|rfl|rfl|rfl
   ·exact hd3.h4.there
   ·exact hd3.h7.there
   ·exact hd3.h10.there
   ·exact q13.there
   ·exact q14.there
  refine⟨by trivial, ?_⟩
  have hd4:a1r S k4 k7 k10 (L0 op a 0 t) bs _ T4:=hd3.of hle4 fun j hj=>he4 j (by simp only[List.mem_cons,List.not_mem_nil,or_false]at hj ⊢;rcases hj with rfl|rfl|rfl<;>simp)
  refine hd4.h7.st (hg4.cells) ⟨rfl,by decide,by simp[L0]⟩ fun a7=> ?_
  refine⟨by trivial, ?_⟩
  rw[a4S,oD,j8 (by omega) (by omega)]
  obtain⟨m,rfl⟩:∃m,n=m+1:=⟨n - 1,by omega⟩
  rw[E3,if_neg (by simpa using hs0)]at hrd
  refine⟨m,by omega,by trivial,by trivial,by trivial,by trivial,by trivial,by congr 1;omega,by omega,_,acc++[_],t',hd4.set7 (c:=L0 op a 0 t'),a6p hs2', ?_, ?_, ?_,by simp;omega,hrd⟩
  ·exact(q13.of (he4 _ (by simp))).set_ne (Ne.symm d7.1)
  ·exact(q14.of (he4 _ (by simp))).set_ne (Ne.symm d7.2)
  ·rw[List.map_append]
   exact hg4.set (.inl (by simp))
 ·exact fin (.inr (by simpa using h0'))
end
end
section
section
variable{E:j6}{w0:World}
theorem e3l(T:b9){k l:Nat}(h:k≠l)(z z' A B:K8):(((T.set k z).set l z').set k A).set l B=(T.set k A).set l B:=by
 rw[b9.set_in _ h,b9.set_set]
theorem e3h(T:b9){k l:Nat}(h:k≠l)(z z' A B:K8):(((T.set k z).set l z').set l B).set k A=(T.set k A).set l B:=by
 rw[b9.set_set,b9.set_in _ h]
theorem d4W{bs:List Int}{j:Nat}{a b:Int}{s:Nat×Int}{f:Fld}{l:List Fld}(h:l[j]? =some f):c9h bs j a b s (l.drop j)=c9h bs (j+1) (if j=0 then(C2 bs f s).1 else a) (if j=0 then b else(C2 bs f s).1) (C2 bs f s).2 (l.drop (j+1)):=by
 obtain⟨hj,rfl⟩:=List.getElem?_eq_some_iff.1 h
 rw[List.drop_eq_getElem_cons hj,c9h]
theorem c7g{bs:List Int}(hb:∀b∈bs,Y9 b)(hl:bs.length<2^30){n:Int}{S:b9}:o9 Tryz.prog E w0 false a7p [bD bs, .int .i64 n] S fun v S'=>∃t,v=d2r (B6 bs n) t∧Grw S t ((B6 bs n).1.2.2.2.map a0g) 2 S':=by
 refine c5N ?_
 unfold c0l
 intro k4 a4 n4
 have h4:w9 (S.set k4 ⟨4,[zC],a4⟩) k4 4 zC:=w9.new
 change b7 _ _
 have le4:S.le (S.set k4 ⟨4,[zC],a4⟩):=b9.le_new n4
 by_cases hn:n<0∨n≥bs.length
 ·have e:B6 bs n=(d0w,(0,2)):=by unfold B6;rw[if_pos hn]
  have fin:(b7 (B8 (s5 [(D.int .u8 0),(.int .i64 0),(.int .i64 0), .nilSlc] [])) fun v8=>j7 (S.set k4 ⟨4,[zC],a4⟩) 4 (.ptr k4 0) v8 fun v9 S10=>b7 (j2 S10 4 (.ptr k4 0)) fun v11=>i9 E (fun v S'=>∃t,v=d2r (B6 bs n) t∧Grw S t ((B6 bs n).1.2.2.2.map a0g) 2 S') (.tup [v11,(.int .i64 0),(.int .i64 2)]) S10):=by
   rw[fiN,agS,oD]
   refine h4.st (J5 _) ⟨rfl,by decide,by decide⟩ fun a=> ?_
   rw[(w9.new).all (n:=4) (by decide) rfl,oD,b9.set_set]
   refine i9.drop n4 (i9.here ⟨.nilSlc, ?_, ?_⟩)
   ·rw[e];rfl
   ·rw[e];exact Grw.nil _ _
  rw[A5,oD]
  by_cases h1:n<0
  ·rw[decide_eq_true h1]
   simp only[C5,vdF,oD,C3,if_true,cdT,show((true==false)=false) from rfl]
   exact fin
  ·have h2:decide (n≥(bs.length:Int))=true:=decide_eq_true (hn.resolve_left h1)
   rw[decide_eq_false h1]
   simp only[C5,P7,oD,C3,Bool.false_eq_true,if_false,I8,a3H,h2,cdT,show((false==false)=true) from rfl]
   exact fin
 have hn0:¬n<0:=fun h=>hn (.inl h)
 have hn1:¬n≥(bs.length:Int):=fun h=>hn (.inr h)
 obtain⟨p,rfl⟩:∃p:Nat,n=(p:Int):=⟨n.toNat,by omega⟩
 have hp:p<bs.length:=by omega
 have edT:B6 bs (p:Int)=c2u bs p:=by unfold B6;rw[if_neg hn];rfl
 obtain⟨op,hop⟩:∃op,op=bs[p]:=⟨_,rfl⟩
 have hj:bs[p]? =some op:=by rw[List.getElem?_eq_getElem hp,hop]
 have hbop:Y9 op:=hb op (by rw[hop];exact List.getElem_mem _)
 have egd:bs.getD p 0=op:=by rw[List.getD_eq_getElem?_getD,hj];rfl
 rw[A5,oD,decide_eq_false hn0]
 simp only[C5,P7,oD,C3,Bool.false_eq_true,if_false,I8,a3H,decide_eq_false hn1,cdF,show((false==false)=true) from rfl]
 rw[c4I hj,oD,lsE,List.getElem?_cons_zero,oD]
 have hag:B8 (s5 [(D.int .u8 0),(.int .i64 0),(.int .i64 0), .nilSlc] [(0,1, .int .u8 op)])=some (.agg (L0 op 0 0 .nilSlc)):=rfl
 rw[hag,oD]
 intro k7 a7 n7
 have d47:k4≠k7:=h4.none n7
 have n7':S k7=none:=b9.none_of le4 n7
 have h7z:w9 ((S.set k4 ⟨4,[zC],a4⟩).set k7 ⟨4,[zC],a7⟩) k7 4 zC:=w9.new
 refine h7z.st (ds:=L0 op 0 0 .nilSlc) (J5 _) ⟨rfl,by decide,by decide⟩ fun a7=> ?_
 rw[b9.set_set,show o0 zC 0 (L0 op 0 0 .nilSlc)=L0 op 0 0 .nilSlc from rfl]
 have h7:w9 ((S.set k4 ⟨4,[zC],a4⟩).set k7 ⟨4,[L0 op 0 0 .nilSlc],a7⟩) k7 4 (L0 op 0 0 .nilSlc):=w9.new
 have h4':=h4.set (o:=⟨4,[L0 op 0 0 .nilSlc],a7⟩) n7
 have le7:S.le ((S.set k4 ⟨4,[zC],a4⟩).set k7 ⟨4,[L0 op 0 0 .nilSlc],a7⟩):=b9.le_set le4 n7'
 generalize (S.set k4 ⟨4,[zC],a4⟩).set k7 ⟨4,[L0 op 0 0 .nilSlc],a7⟩=T7 at*
 rw[u5,oD,h7.ld,show(L0 op 0 0 .nilSlc)[0+0]? =some (.int .u8 op) from rfl,oD]
 refine b8H.use ?_
 simp only[exD,List.getElem?_cons_zero,List.getElem?_cons_succ,oD,unN]
 cases hlay:lay op with
 |none=>
  rw[show(!(none:Option (List Fld)).isSome)=true from rfl,cdT,fiN,agS,oD]
  have e:B6 bs (p:Int)=(d0w,(0,120)):=by rw[edT];unfold c2u;rw[egd,if_pos hlay]
  refine h4'.st (J5 _) ⟨rfl,by decide,by decide⟩ fun a=> ?_
  rw[(w9.new).all (n:=4) (by decide) rfl,oD]
  refine i9.less (b9.le_set le7 n4) (i9.here ⟨.nilSlc, ?_, ?_⟩)
  ·rw[e];rfl
  ·rw[e];exact Grw.nil _ _
 |some l=>
 rw[show(!(some l).isSome)=false from rfl,cdF,s8,oD,j8 (by omega) (by omega)]
 have hag2:B8 (s5 [.nilSlc,(D.int .i64 0),(.int .i64 0)] [(0,1,bD bs),(1,1, .int .i64 ((p:Int)+1))])=some (.agg (rdC bs (p+1,0))):=rfl
 rw[hag2,oD,J5,oD]
 intro k10 a10 n10
 have hst:a1r S k4 k7 k10 (L0 op 0 0 .nilSlc) bs (p+1,0) (T7.set k10 ⟨3,[rdC bs (p+1,0)],a10⟩):=
  ⟨b9.le_set le7 (b9.none_of le7 n10),n4,n7',b9.none_of le7 n10,d47,h4'.set n10,h7.set n10,w9.new⟩
 have hl2:l.length≤2:=by have:=a8k (op:=op);rw[hlay]at this;exact this
 have hgood:∀f∈l,a8p f:=by have:=b7r op;rw[hlay]at this;exact this
 have hgd:(lay op).getD []=l:=by rw[hlay];rfl
 rw[lnL,oD,a7q,hgd]
 have hl60:bs.length<2^60:=by omega
 have edS:c2u bs p=if(b2i bs p).2.2≠0 then(d0w,(0,(b2i bs p).2.2)) else b2i bs p:=by
  unfold c2u;rw[egd,if_neg (by rw[hlay];simp)]
 refine c1D (I:=fun n x4 x7 x10 x45 x46 x47 T=>x4= .ptr k4 0∧x7= .ptr k7 0∧x10= .ptr k10 0∧x45= .lst (a5N op) 2∧x46= .int .i64 (l.length:Int)∧∃(j:Nat) (a b:Int) (s:Nat×Int),x47= .int .i64 (j:Int)∧j+n=l.length∧
   a1r S k4 k7 k10 (L0 op a b .nilSlc) bs s T∧s.1≤bs.length∧c9h bs j a b s (l.drop j)=U8 bs l (p+1,0)) ?_ (n:=l.length)
  ⟨rfl,rfl,rfl,rfl,rfl,0,0,0,(p+1,0),rfl,by omega,hst,by show p+1≤bs.length;omega,d9s hl2⟩
 rintro n _ _ _ _ _ _ T ⟨rfl,rfl,rfl,rfl,rfl,j,a,b,s,rfl,hjn,hd,hs,hfold⟩
 unfold a9n
 rw[A5,oD,B3]
 refine⟨fun hlt=> ?_,fun hge=> ?_⟩
 ·have hlt:j<l.length:=by omega
  obtain⟨f,hf⟩:∃f,f=l[j]:=⟨_,rfl⟩
  have hjf:l[j]? =some f:=by rw[List.getElem?_eq_getElem hlt,hf]
  obtain⟨row,hrow,hfd⟩:=d4J (op:=op) (i:=j) (f:=f) (by rw[hgd];exact hjf)
  have hg:=hgood f (by rw[hf];exact List.getElem_mem _)
  have hg1:=hg.1
  have hg8:=a5v hg
  have hrl:=hfd.len
  rw[b9k hrow,oD,laE,if_pos ⟨by decide,by omega⟩,oD,List.drop_zero,List.take_of_length_le (by omega)]
  intro k ak nk
  refine(w9.new (sz:=2) (c:=[D.int .i64 0, .nilFn])).st (ds:=row) (J5 _) ⟨hrl,by decide,by simp⟩ fun ak=> ?_
  rw[b9.set_set,e0n hfd]
  have hd2:=hd.new (o:=⟨2,[row],ak⟩) nk
  have hc:w9 (T.set k ⟨2,[row],ak⟩) k 2 row:=w9.new
  change b7 _ _
  rw[d4W hjf]at hfold
  have hI:=a6p (f:=f) hs
  rw[Y4,oD,cdB]
  refine⟨fun h0=> ?_,fun h0=> ?_⟩
  ·have h0:j=0:=by have:(j:Int)=0:=by simpa using h0
                   omega
   rw[if_pos h0,if_pos h0]at hfold
   rw[hc.all (n:=2) (by decide) hrl.symm,oD]
   refine(b2y hd2 hb hl60 hs hfd hg1 hg8).use ?_
   rintro v T2 ⟨rfl,hd3,_⟩
   rw[u5,oD]
   refine hd3.h7.st (clI _ _) ⟨rfl,by decide,by simp[L0]⟩ fun a7=> ?_
   rw[s8,oD,j8 (by omega) (by omega)]
   exact⟨n - 1,by omega,rfl,rfl,rfl,rfl,rfl,j+1,_,b,_,rfl,by omega,hd3.set7 (c:=L0 op (C2 bs f s).1 b .nilSlc),hI,hfold⟩
  ·have h0:¬j=0:=by have:¬(j:Int)=0:=by simpa using h0
                    omega
   rw[if_neg h0,if_neg h0]at hfold
   rw[hc.all (n:=2) (by decide) hrl.symm,oD]
   refine(b2y hd2 hb hl60 hs hfd hg1 hg8).use ?_
   rintro v T2 ⟨rfl,hd3,_⟩
   rw[u5,oD]
   refine hd3.h7.st (clI _ _) ⟨rfl,by decide,by simp[L0]⟩ fun a7=> ?_
   rw[s8,oD,j8 (by omega) (by omega)]
   exact⟨n - 1,by omega,rfl,rfl,rfl,rfl,rfl,j+1,a,_,_,rfl,by omega,hd3.set7 (c:=L0 op a (C2 bs f s).1 .nilSlc),hI,hfold⟩
 ·have hj':j=l.length:=by omega
  subst hj'
  rw[List.drop_length,c9h]at hfold
  rw[u5,oD,hd.h7.ld,show(L0 op a b .nilSlc)[0+0]? =some (.int .u8 op) from rfl,oD,Y4,oD,cdB]
  refine⟨fun h49=> ?_,fun h49=> ?_⟩
  ·have h49:op=49:=by simpa using h49
   have hb0:b=0:=by
    have hl1:=d3k hlay h49
    rw[hl1]at hfold
    exact congrArg (fun q:Int×Int×(Nat×Int)=>q.2.1) hfold
   subst hb0
   have edX:b2i bs p=b0z bs 49 a s:=by unfold b2i;rw[egd,if_pos h49,hgd, ←hfold]
   have d7:∀ {k:Nat},T k=none→k7≠k:=fun hk=>hd.h7.none hk
   have hfin:∀ {k l:Nat} {T':b9},T k=none→T l=none→a1r S k4 k7 k10 (L0 op a 0 .nilSlc) bs s T'→w9 T' k 2 [.int .i64 4,a0F 0 4294967295]→w9 T' l 2 [.int .i64 8,a9Y (IntKind.u8.wrap a)]→
     w4 E w0 false (i9 E (fun v S'=>∃t,v=d2r (B6 bs (p:Int)) t∧Grw S t ((B6 bs (p:Int)).1.2.2.2.map a0g) 2 S')) (.ptr k4 0) (.ptr k7 0) (.ptr k10 0) (.ptr k 0) (.ptr l 0) T':=fun{k l T'} nk nl hd' c1 c2=>by
    refine e0M hb hl hd' hs c1 c2 (b9.none_of hd.le nk) (b9.none_of hd.le nl) ⟨d7 nk,d7 nl⟩ fun t S' hg=> ?_
    rw[h49]
    rw[h49]at hg
    by_cases he:(b0z bs 49 a s).2.2=0
    ·rw[if_pos he]
     have e:B6 bs (p:Int)=b0z bs 49 a s:=by rw[edT,edS,edX,if_neg (by simp[he])]
     refine i9.here ⟨t, ?_,by rw[e];exact hg⟩
     rw[e]
     unfold d2r
     rw[he]
     rfl
    ·rw[if_neg he]
     have e:B6 bs (p:Int)=(d0w,(0,(b0z bs 49 a s).2.2)):=by rw[edT,edS,edX,if_pos he]
     refine i9.less hg.le (i9.here ⟨.nilSlc, ?_,by rw[e];exact Grw.nil _ _⟩)
     rw[e];rfl
   have ld1:b8 T (.ptr k7 (0+1))=some (.int .i64 a):=hd.h7.ld 1
   have hA:∀ {k l:Nat} {ak al:List AV},T k=none→(T.set k ⟨2,[[.int .i64 0, .nilFn]],ak⟩) l=none→∀ak al,w4 E w0 false (i9 E (fun v S'=>∃t,v=d2r (B6 bs (p:Int)) t∧Grw S t ((B6 bs (p:Int)).1.2.2.2.map a0g) 2 S')) (.ptr k4 0) (.ptr k7 0) (.ptr k10 0) (.ptr k 0) (.ptr l 0)
     ((T.set k ⟨2,[[.int .i64 4,a0F 0 4294967295]],ak⟩).set l ⟨2,[[.int .i64 8,a9Y (IntKind.u8.wrap a)]],al⟩):=fun{k l _ _} nk nl ak al=>by
    obtain⟨ne,nl'⟩:=b9.fresh nl
    have nl2:(T.set k ⟨2,[[.int .i64 4,a0F 0 4294967295]],ak⟩) l=none:=by rw[b9.set_ne _ _ _ ne];exact nl'
    exact hfin nk nl' ((hd.new nk).new nl2) ((w9.new).set nl2) w9.new
   have hB:∀ {k l:Nat} {ak al:List AV},T k=none→(T.set k ⟨2,[[.int .i64 0, .nilFn]],ak⟩) l=none→∀ak al,w4 E w0 false (i9 E (fun v S'=>∃t,v=d2r (B6 bs (p:Int)) t∧Grw S t ((B6 bs (p:Int)).1.2.2.2.map a0g) 2 S')) (.ptr k4 0) (.ptr k7 0) (.ptr k10 0) (.ptr l 0) (.ptr k 0)
     ((T.set k ⟨2,[[.int .i64 8,a9Y (IntKind.u8.wrap a)]],ak⟩).set l ⟨2,[[.int .i64 4,a0F 0 4294967295]],al⟩):=fun{k l _ _} nk nl ak al=>by
    obtain⟨ne,nl'⟩:=b9.fresh nl
    have nl2:(T.set k ⟨2,[[.int .i64 8,a9Y (IntKind.u8.wrap a)]],ak⟩) l=none:=by rw[b9.set_ne _ _ _ ne];exact nl'
    exact hfin nl' nk ((hd.new nk).new nl2) w9.new ((w9.new).set nl2)
   have l0:∀ {k:Nat} {o:K8},T k=none→(T.set k o) k7=T k7:=fun nk=>b9.set_ne _ _ _ (d7 nk)
   refine⟨rfl, ?_, ?_, ?_, ?_, ?_, ?_, ?_, ?_, ?_, ?_, ?_, ?_,by trivial⟩
   all_goals (repeat (first|refine⟨by trivial, ?_⟩|refine I4.useX ?_|refine a1M.useX ?_|rw[a5P (b8v _ _),oD]|rw[a5P (c7L _),oD]|rw[u5,oD]|rw[ld1,oD]|rw[cvI,oD]|refine⟨⟨⟨by simp[j5,ld1],rfl⟩,by trivial⟩, ?_⟩))
   all_goals (intro k ak nk)
   all_goals (have f1:=l0 (o:=⟨2,[[.int .i64 0, .nilFn]],ak⟩) nk)
   all_goals (repeat (first|refine⟨by trivial, ?_⟩|refine I4.useX ?_|refine a1M.useX ?_|rw[a5P (b8v _ _),oD]|rw[a5P (c7L _),oD]|refine⟨⟨f1,by trivial⟩, ?_⟩))
   all_goals (intro l' al nl)
   all_goals (have f2:∀ {o:K8},((T.set k ⟨2,[[.int .i64 0, .nilFn]],ak⟩).set l' o) k7=T k7:=fun{o}=>by rw[b9.set_ne _ _ _ (d7 (b9.fresh nl).2)];exact f1)
   all_goals (have ne:k≠l':=Ne.symm (b9.fresh nl).1)
   all_goals (repeat (first|refine⟨by trivial, ?_⟩|refine I4.useX ?_|refine a1M.useX ?_|rw[a5P (b8v _ _),oD]|rw[a5P (c7L _),oD]|refine⟨⟨f2,by trivial⟩, ?_⟩))
   all_goals (first
    |refine stP (k:=k) (cs:=[.int .i64 0, .nilFn]) (b9.set_ne _ _ _ ne |>.trans (b9.set_same _ _ _)) (J5 _) ⟨rfl,by decide,by simp⟩ fun a1=> ?_
    |refine stP (k:=l') (cs:=[.int .i64 0, .nilFn]) (b9.set_same _ _ _) (J5 _) ⟨rfl,by decide,by simp⟩ fun a1=> ?_)
   all_goals (refine⟨by trivial, ?_⟩)
   all_goals (first
    |refine stP (k:=l') (cs:=[.int .i64 0, .nilFn]) ((b9.set_ne _ _ _ (Ne.symm ne)).trans (b9.set_same _ _ _)) (J5 _) ⟨rfl,by decide,by simp⟩ fun a2=> ?_
    |refine stP (k:=k) (cs:=[.int .i64 0, .nilFn]) (((b9.set_ne _ _ _ ne).trans (b9.set_ne _ _ _ ne)).trans (b9.set_same _ _ _)) (J5 _) ⟨rfl,by decide,by simp⟩ fun a2=> ?_)
   all_goals (refine⟨by trivial, ?_⟩)
   all_goals (first|rw[e3l _ ne]|rw[e3h _ ne])
   all_goals (first|exact hA (al:=al) nk nl _ _|exact hB (al:=al) nk nl _ _)
  ·have h49:¬op=49:=by simpa using h49
   have edX:b2i bs p=((op,a,b,[]),s):=by unfold b2i;rw[egd,if_neg h49,hgd, ←hfold]
   refine d6I hd.h4 hd.h7 hd.h10 rfl rfl fun S'' hS''=> ?_
   have hle:S.le S'':=fun i o e=>by rw[hS'' i (fun e'=>by rw[e',hd.n4]at e;cases e)];exact hd.le _ _ e
   refine i9.less hle (i9.here ⟨.nilSlc, ?_, ?_⟩)
   ·by_cases he:s.2=0
    ·rw[if_pos he,edT,edS,edX,if_neg (by simp[he])]
     unfold d2r;rw[he]
    ·rw[if_neg he,edT,edS,edX,if_pos (by simpa using he)];rfl
   ·rw[edT,edS,edX]
    by_cases he:s.2=0
    ·rw[if_neg (by simp[he])];exact Grw.nil _ _
    ·rw[if_pos (by simpa using he)];exact Grw.nil _ _
end
end
end Go.Proofs.YtchnpgddpaonhaaGreat.d
end
