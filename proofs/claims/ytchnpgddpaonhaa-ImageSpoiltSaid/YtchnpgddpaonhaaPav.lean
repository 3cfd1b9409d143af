/-
  ImageSpoiltSaid: part Pav of its proof.
-/
import Derived.Test.YtchnpgddpaonhaaRows
import Derived.Test.YtchnpgddpaonhaaPaq
import Derived.KernelRfl
import Derived.Test.YtchnpgddpaonhaaPat
import Derived.Test.YtchnpgddpaonhaaPau
set_option linter.unusedVariables false
set_option linter.unusedSimpArgs false
set_option maxRecDepth 100000
section
open Go.Proofs Go Go.Am
namespace Go.Proofs.Ytchnpgddpaonhaa.d
def a6A:List (Nat×List Nat):=[]
def a6n:List (Nat×List Nat):=[(20,[0,3,6,8])]
def a5u:List (Nat×Arr):=[]
noncomputable def b1K:Code:=(l9 [1,1,1,1,1,1] (Try.f95.body.getD .skip))
def b0E(E:m6)(w0:o3)(Q:D→b7→Prop):r4→List D→b7→Prop:=
 (I4 Try.prog Try.f95 Q)
def a4r(E:m6)(w0:o3)(Q:D→b7→Prop)(x0 x3 x6 x8:D)(S:b7):Prop:=
 a9 (m8 1 x3) fun v25=>
 a9 (c9 S v25) fun v26=>
 a2f Try.prog (o4 Try.prog E w0) S v26 [x8] fun v27 S28=>
 a9 (unD .not v27) fun v29=>
 i9 v29
 (a9 (U4 x0) fun v30=>
 a9 (m8 2 v30) fun v31=>
 f0 S28 1 v31 (.int .i64 120) fun v32 S33=>
 Q (.int .i64 0) S33)
 (a9 (U4 x0) fun v34=>
 a9 (m8 1 v34) fun v35=>
 f0 S28 1 v35 x6 fun v36 S37=>
 Q x8 S37)
def L5(E:m6)(w0:o3)(Q:D→b7→Prop)(x0 x3 x6 x8:D)(S:b7):Prop:=k9 Try.prog E w0 b1K (n9 65 [0,3,6,8] [x0,x3,x6,x8]) S (b0E E w0 Q)
theorem a7W{E:m6}{w0:o3}{Q:D→b7→Prop}{x0 x3 x6 x8:D}{S:b7}(h:a4r E w0 Q x0 x3 x6 x8 S):L5 E w0 Q x0 x3 x6 x8 S:=l8 a6A a6n a5u o9 (by kernel_rfl) h
def a7c(E:m6)(w0:o3)(Q:D→b7→Prop)(a0 a1:D)(S:b7):Prop:=
 a9 (r7 a1) fun cs=>o6 S cs fun v0 S1=>
 a9 (U4 a0) fun v2=>
 a9 (m8 2 v2) fun v3=>
 a9 (c9 S1 v3) fun v4=>
 a9 (d8 .neq v4 (.int .i64 0)) fun v5=>
 i9 v5
 (Q (.int .i64 0) S1)
 (a9 (U4 a0) fun v6=>
 a9 (m8 0 v6) fun v7=>
 a9 (c9 S1 v7) fun v8=>
 a9 (U4 a0) fun v9=>
 a9 (m8 1 v9) fun v10=>
 a9 (c9 S1 v10) fun v11=>
 a9 (m8 0 v0) fun v12=>
 a9 (c9 S1 v12) fun v13=>
 o4 Try.prog E w0 a4y [v8,v11,v13] S1 fun v14 S15=>
 a9 (o5 v14 0) fun v16=>
 a9 (o5 v14 1) fun v17=>
 a9 (o5 v14 2) fun v18=>
 a9 (d8 .neq v18 (.int .i64 0)) fun v19=>
 i9 v19
 (a9 (U4 a0) fun v20=>
 a9 (m8 2 v20) fun v21=>
 f0 S15 1 v21 (.int .i64 10) fun v22 S23=>
 Q (.int .i64 0) S23)
 (a9 (I6 .i64 v16) fun v24=>
 a9 (m8 1 v0) fun v38=>
 a9 (c9 S15 v38) fun v39=>
 a2f Try.prog (o4 Try.prog E w0) S15 v39 [v24] fun v40 S41=>
 a9 (unD .not v40) fun v42=>
 a9 (j9 (d6 v42 true) (m8 0 v0)) fun v43=>
 a9 (j9 (d6 v42 true) (c9 S41 v43)) fun v44=>
 a9 (j9 (d6 v42 true) (d8 .lss v44 (.int .i64 8))) fun v45=>
 a9 (z2 v42 v45 (.bool false)) fun v46=>
 i9 v46
 (a9 (m8 0 v0) fun v47=>
 a9 (c9 S41 v47) fun v48=>
 a9 (d8 .mul (.int .i64 8) v48) fun v49=>
 a9 (d8 .shl (.int .i64 1) v49) fun v50=>
 a9 (d8 .sub v24 v50) fun v51=>
 L5 E w0 Q a0 v0 v17 v51 S41)
 (L5 E w0 Q a0 v0 v17 v24 S41)))
theorem b0X{E:m6}{w0:o3}{Q:D→b7→Prop}{a0 a1:D}{S:b7}(h:a7c E w0 (d9 E Q) a0 a1 S):o4 Try.prog E w0 C2 [a0,a1] S Q:=
 m9 a6A a6n a5u (fn:=Try.f95) (c:=Try.f95.body.getD .skip) o9 Try.func95 (by kernel_rfl) (by kernel_rfl) h
def U3:List (Nat×List Nat):=[(18,[4,7,10,45,46,47]),(36,[4,7,10,13,14,15])]
def W5:List (Nat×List Nat):=[(34,[4,7,10,13,14]),(46,[4,7,10])]
def U6:List (Nat×Arr):=[(16,(.node 0 7 (.node 0 8 (.node 5 7 (.node 5 8 (.node 7 8 (.leaf [2,3,4,0,1,5,6,7,8,9,10]) (.leaf [2,3,4,0,1,5,6,8,7,9,10])) (.leaf [2,3,4,0,1,8,5,6,7,9,10])) (.node 5 8 (.leaf [2,3,4,0,1,7,5,6,8,9,10]) (.node 7 8 (.leaf [2,3,4,0,1,7,8,5,6,9,10]) (.leaf [2,3,4,0,1,8,7,5,6,9,10])))) (.node 5 7 (.leaf [2,3,4,8,0,1,5,6,7,9,10]) (.leaf [2,3,4,8,0,1,7,5,6,9,10]))) (.node 0 8 (.node 5 8 (.leaf [2,3,4,7,0,1,5,6,8,9,10]) (.leaf [2,3,4,7,0,1,8,5,6,9,10])) (.node 7 8 (.leaf [2,3,4,7,8,0,1,5,6,9,10]) (.leaf [2,3,4,8,7,0,1,5,6,9,10])))))]
noncomputable def a4D:Code:=(l9 [1,1,1,1,1,1,1,1] (Try.f83.body.getD .skip))
def b6B(E:m6)(w0:o3)(Q:D→b7→Prop):r4→List D→b7→Prop:=
 (I4 Try.prog Try.f83 Q)
def b0t(E:m6)(w0:o3)(Q:D→b7→Prop)(x4 x7 x10:D)(S:b7):Prop:=
 a9 (U4 x10) fun v57=>
 a9 (m8 2 v57) fun v58=>
 a9 (c9 S v58) fun v59=>
 a9 (d8 .neq v59 (.int .i64 0)) fun v60=>
 i9 v60
 (a9 (E6 (w6 [(.int .u8 0),(.int .i64 0),(.int .i64 0), .nilSlc] [])) fun v61=>
 a9 (U4 x10) fun v62=>
 a9 (m8 2 v62) fun v63=>
 a9 (c9 S v63) fun v64=>
 f0 S 4 x4 v61 fun v65 S66=>
 t6 v63 S S66∧a9 (j0 S66 4 x4) fun v67=>Q (.tup [v67,(.int .i64 0),v64]) S66)
 (a9 (j0 S 4 x7) fun v68=>
 a9 (U4 x10) fun v69=>
 a9 (m8 1 v69) fun v70=>
 a9 (c9 S v70) fun v71=>
 f0 S 4 x4 v68 fun v72 S73=>
 t6 v70 S S73∧a9 (j0 S73 4 x4) fun v74=>Q (.tup [v74,v71,(.int .i64 0)]) S73)
def a0A(E:m6)(w0:o3)(Q:D→b7→Prop)(x4 x7 x10:D)(S:b7):Prop:=k9 Try.prog E w0 a4D (n9 120 [4,7,10] [x4,x7,x10]) S (b6B E w0 Q)
theorem b3N{E:m6}{w0:o3}{Q:D→b7→Prop}{x4 x7 x10:D}{S:b7}(h:b0t E w0 Q x4 x7 x10 S):a0A E w0 Q x4 x7 x10 S:=l8 U3 W5 U6 o9 (by kernel_rfl) h
noncomputable def a5s:Code:=(l9 [1,1,1,1,1,1,1,0,1,0,1,0,1,0,0] (Try.f83.body.getD .skip))
def a6f(E:m6)(w0:o3)(Q:D→b7→Prop):r4→List D→b7→Prop:=
 (t7 2 (I5 Try.prog E w0 U3 W5 U6 (l9 [1,1,1,1,1,1,1,0,1,0,1,1] (Try.f83.body.getD .skip)) (d5g Try.prog E w0 120 [4,7,10] a4D (I4 Try.prog Try.f83 Q))))
def a6g(E:m6)(w0:o3)(N1:D→D→D→D→D→D→b7→Prop)(Q:D→b7→Prop)(x4 x7 x10 x13 x14 x15:D)(S:b7):Prop:=
 a9 (d8 .gtr x15 (.int .i64 0)) fun v83=>
 a9 (j9 (d6 v83 true) (some x10)) fun v84=>
 a9 (j9 (d6 v83 true) (U4 v84)) fun v85=>
 a9 (j9 (d6 v83 true) (m8 2 v85)) fun v86=>
 a9 (j9 (d6 v83 true) (c9 S v86)) fun v87=>
 a9 (j9 (d6 v83 true) (d8 .eql v87 (.int .i64 0))) fun v88=>
 a9 (z2 v83 v88 (.bool false)) fun v89=>
 i9 v89
 (a9 (j0 S 2 x14) fun v90=>
 o4 Try.prog E w0 C2 [x10,v90] S fun v91 S92=>
 a9 (m8 3 x7) fun v93=>
 a9 (c9 S92 v93) fun v94=>
 a9 (j0 S92 2 x13) fun v95=>
 o4 Try.prog E w0 C2 [x10,v95] S92 fun v96 S97=>
 t6 v93 S92 S97∧a9 (E6 (w6 [(.int .i64 0),(.int .i64 0)] [(0,1,v91),(1,1,v96)])) fun v98=>
 u6 S97 2 (p9 2 (List.replicate 1 [(.int .i64 0),(.int .i64 0)]) [(0,v98)]) 1 fun v99 S100=>
 t6 v93 S92 S100∧y9 S100 2 16 v94 v99 fun v101 S102=>
 a9 (m8 3 x7) fun v103=>
 f0 S102 1 v103 v101 fun v104 S105=>
 a9 (d8 .sub x15 (.int .i64 1)) fun v106=>
 N1 x4 x7 x10 x13 x14 v106 S105)
 (a9 (j0 S 2 x13) fun v107=>
 o4 Try.prog E w0 C2 [x10,v107] S fun v108 S109=>
 a9 (m8 2 x7) fun v110=>
 f0 S109 1 v110 v108 fun v111 S112=>
 a0A E w0 Q x4 x7 x10 S112)
theorem b6d{E:m6}{w0:o3}{N1:D→D→D→D→D→D→b7→Prop}{Q:D→b7→Prop}{x4 x7 x10 x13 x14 x15:D}{S:b7}(h:a6g E w0 N1 Q x4 x7 x10 x13 x14 x15 S):
  k9 Try.prog E w0 a5s (n9 120 [4,7,10,13,14,15] [x4,x7,x10,x13,x14,x15]) S (C0 (fun T S=>N1 (T.getD 4 b8) (T.getD 7 b8) (T.getD 10 b8) (T.getD 13 b8) (T.getD 14 b8) (T.getD 15 b8) S) (a6f E w0 Q)):=l8 U3 W5 U6 o9 (by kernel_rfl) h
theorem b5g{E:m6}{w0:o3}{Q:D→b7→Prop}(I:Nat→D→D→D→D→D→D→b7→Prop)
  (step:∀n x4 x7 x10 x13 x14 x15 S,I n x4 x7 x10 x13 x14 x15 S→a6g E w0 (fun x4 x7 x10 x13 x14 x15 S=>∃m,m<n∧I m x4 x7 x10 x13 x14 x15 S) Q x4 x7 x10 x13 x14 x15 S)
  {n:Nat} {x4 x7 x10 x13 x14 x15:D} {S:b7} (h:I n x4 x7 x10 x13 x14 x15 S):k9 Try.prog E w0 (.loop a5s) (n9 120 [4,7,10,13,14,15] [x4,x7,x10,x13,x14,x15]) S (a6f E w0 Q):=
 r8 (k:=120) (n:=n) (I:=fun n T S=>I n (T.getD 4 b8) (T.getD 7 b8) (T.getD 10 b8) (T.getD 13 b8) (T.getD 14 b8) (T.getD 15 b8) S) (fun n T S hl hI=>s6 [4,7,10,13,14,15] hl (k9.mono (b6d (step n _ _ _ _ _ _ S hI)) fun ex T' S' _ hq=>by cases ex<;>exact hq)) (o7 ..) (Eq.mp (by kernel_rfl) h)
noncomputable def b8O:Code:=(l9 [1,1,1,1,1,1,1,0,1,0,1] (Try.f83.body.getD .skip))
def b6r(E:m6)(w0:o3)(Q:D→b7→Prop):r4→List D→b7→Prop:=
 (d5g Try.prog E w0 120 [4,7,10] a4D (I4 Try.prog Try.f83 Q))
def b0v(E:m6)(w0:o3)(Q:D→b7→Prop)(x4 x7 x10 x13 x14:D)(S:b7):Prop:=
 o4 Try.prog E w0 u5 [(.int .i64 0),(.int .i64 65535)] S fun v78 S79=>
 a9 (E6 (w6 [(.int .i64 0), .nilFn] [(0,1,(.int .i64 2)),(1,1,v78)])) fun v80=>
 o4 Try.prog E w0 C2 [x10,v80] S79 fun v81 S82=>
 k9 Try.prog E w0 (.loop a5s) (n9 120 [4,7,10,13,14,15] [x4,x7,x10,x13,x14,v81]) S82 (a6f E w0 Q)
def u7(E:m6)(w0:o3)(Q:D→b7→Prop)(x4 x7 x10 x13 x14:D)(S:b7):Prop:=k9 Try.prog E w0 b8O (n9 120 [4,7,10,13,14] [x4,x7,x10,x13,x14]) S (b6r E w0 Q)
theorem b4t{E:m6}{w0:o3}{Q:D→b7→Prop}{x4 x7 x10 x13 x14:D}{S:b7}(h:b0v E w0 Q x4 x7 x10 x13 x14 S):u7 E w0 Q x4 x7 x10 x13 x14 S:=l8 U3 W5 U6 o9 (by kernel_rfl) h
noncomputable def a5q:Code:=(l9 [1,1,1,1,1,1,0,1,0,0] (Try.f83.body.getD .skip))
def a5I(E:m6)(w0:o3)(Q:D→b7→Prop):r4→List D→b7→Prop:=
 (t7 0 (I5 Try.prog E w0 U3 W5 U6 (l9 [1,1,1,1,1,1,1] (Try.f83.body.getD .skip)) (I4 Try.prog Try.f83 Q)))
def a6c(E:m6)(w0:o3)(N0:D→D→D→D→D→D→b7→Prop)(Q:D→b7→Prop)(x4 x7 x10 x45 x46 x47:D)(S:b7):Prop:=
 a9 (d8 .lss x47 x46) fun v35=>
 i9 v35
 (a9 (A7 2 x45 x47) fun v36=>
 a9 (j0 S 2 v36) fun v37=>
 o6 S [(.int .i64 0), .nilFn] fun v38 S39=>
 f0 S39 2 v38 v37 fun v40 S41=>
 a9 (d8 .eql x47 (.int .i64 0)) fun v42=>
 i9 v42
 (a9 (j0 S41 2 v38) fun v43=>
 o4 Try.prog E w0 C2 [x10,v43] S41 fun v44 S45=>
 a9 (m8 1 x7) fun v46=>
 f0 S45 1 v46 v44 fun v47 S48=>
 a9 (d8 .add x47 (.int .i64 1)) fun v49=>
 N0 x4 x7 x10 x45 x46 v49 S48)
 (a9 (j0 S41 2 v38) fun v50=>
 o4 Try.prog E w0 C2 [x10,v50] S41 fun v51 S52=>
 a9 (m8 2 x7) fun v53=>
 f0 S52 1 v53 v51 fun v54 S55=>
 a9 (d8 .add x47 (.int .i64 1)) fun v56=>
 N0 x4 x7 x10 x45 x46 v56 S55))
 (a9 (m8 0 x7) fun v75=>
 a9 (c9 S v75) fun v76=>
 a9 (d8 .eql v76 (.int .u8 49)) fun v77=>
 i9 v77
 ((((((a9 (m8 1 x7) fun v113=>
 a9 (c9 S v113) fun v114=>
 a9 (I6 .u8 v114) fun v115=>
 o4 Try.prog E w0 u5 [(.int .i64 0),(.int .i64 4294967295)] S fun v116 S117=>
 t6 v113 S S117∧a9 (E6 (w6 [(.int .i64 0), .nilFn] [(0,1,(.int .i64 4)),(1,1,v116)])) fun v118=>
 o4 Try.prog E w0 E0 [v115] S117 fun v119 S120=>
 a9 (E6 (w6 [(.int .i64 0), .nilFn] [(0,1,(.int .i64 8)),(1,1,v119)])) fun v121=>
 o6 S120 [(.int .i64 0), .nilFn] fun v122 S123=>
 o6 S123 [(.int .i64 0), .nilFn] fun v124 S125=>
 f0 S125 2 v122 v118 fun v126 S127=>
 f0 S127 2 v124 v121 fun v128 S129=>
 u7 E w0 Q x4 x7 x10 v122 v124 S129)∧
 (a9 (m8 1 x7) fun v130=>
 a9 (c9 S v130) fun v131=>
 a9 (I6 .u8 v131) fun v132=>
 o4 Try.prog E w0 u5 [(.int .i64 0),(.int .i64 4294967295)] S fun v133 S134=>
 t6 v130 S S134∧a9 (E6 (w6 [(.int .i64 0), .nilFn] [(0,1,(.int .i64 4)),(1,1,v133)])) fun v135=>
 o4 Try.prog E w0 E0 [v132] S134 fun v136 S137=>
 a9 (E6 (w6 [(.int .i64 0), .nilFn] [(0,1,(.int .i64 8)),(1,1,v136)])) fun v138=>
 o6 S137 [(.int .i64 0), .nilFn] fun v139 S140=>
 o6 S140 [(.int .i64 0), .nilFn] fun v141 S142=>
 f0 S142 2 v141 v135 fun v143 S144=>
 f0 S144 2 v139 v138 fun v145 S146=>
 u7 E w0 Q x4 x7 x10 v141 v139 S146))∧
 (a9 (m8 1 x7) fun v147=>
 a9 (c9 S v147) fun v148=>
 a9 (I6 .u8 v148) fun v149=>
 o4 Try.prog E w0 u5 [(.int .i64 0),(.int .i64 4294967295)] S fun v150 S151=>
 t6 v147 S S151∧a9 (E6 (w6 [(.int .i64 0), .nilFn] [(0,1,(.int .i64 4)),(1,1,v150)])) fun v152=>
 o6 S151 [(.int .i64 0), .nilFn] fun v153 S154=>
 t6 v147 S S154∧o4 Try.prog E w0 E0 [v149] S154 fun v155 S156=>
 a9 (E6 (w6 [(.int .i64 0), .nilFn] [(0,1,(.int .i64 8)),(1,1,v155)])) fun v157=>
 o6 S156 [(.int .i64 0), .nilFn] fun v158 S159=>
 f0 S159 2 v158 v152 fun v160 S161=>
 f0 S161 2 v153 v157 fun v162 S163=>
 u7 E w0 Q x4 x7 x10 v158 v153 S163))∧
 ((a9 (m8 1 x7) fun v164=>
 a9 (c9 S v164) fun v165=>
 a9 (I6 .u8 v165) fun v166=>
 o4 Try.prog E w0 u5 [(.int .i64 0),(.int .i64 4294967295)] S fun v167 S168=>
 t6 v164 S S168∧a9 (E6 (w6 [(.int .i64 0), .nilFn] [(0,1,(.int .i64 4)),(1,1,v167)])) fun v169=>
 o6 S168 [(.int .i64 0), .nilFn] fun v170 S171=>
 t6 v164 S S171∧o4 Try.prog E w0 E0 [v166] S171 fun v172 S173=>
 a9 (E6 (w6 [(.int .i64 0), .nilFn] [(0,1,(.int .i64 8)),(1,1,v172)])) fun v174=>
 o6 S173 [(.int .i64 0), .nilFn] fun v175 S176=>
 f0 S176 2 v170 v169 fun v177 S178=>
 f0 S178 2 v175 v174 fun v179 S180=>
 u7 E w0 Q x4 x7 x10 v170 v175 S180)∧
 ((a9 (m8 1 x7) fun v181=>
 a9 (c9 S v181) fun v182=>
 a9 (I6 .u8 v182) fun v183=>
 o4 Try.prog E w0 u5 [(.int .i64 0),(.int .i64 4294967295)] S fun v184 S185=>
 t6 v181 S S185∧a9 (E6 (w6 [(.int .i64 0), .nilFn] [(0,1,(.int .i64 4)),(1,1,v184)])) fun v186=>
 o6 S185 [(.int .i64 0), .nilFn] fun v187 S188=>
 t6 v181 S S188∧o6 S188 [(.int .i64 0), .nilFn] fun v189 S190=>
 t6 v181 S S190∧o4 Try.prog E w0 E0 [v183] S190 fun v191 S192=>
 a9 (E6 (w6 [(.int .i64 0), .nilFn] [(0,1,(.int .i64 8)),(1,1,v191)])) fun v193=>
 f0 S192 2 v187 v186 fun v194 S195=>
 f0 S195 2 v189 v193 fun v196 S197=>
 u7 E w0 Q x4 x7 x10 v187 v189 S197)∧
 (a9 (m8 1 x7) fun v198=>
 a9 (c9 S v198) fun v199=>
 a9 (I6 .u8 v199) fun v200=>
 o4 Try.prog E w0 u5 [(.int .i64 0),(.int .i64 4294967295)] S fun v201 S202=>
 t6 v198 S S202∧a9 (E6 (w6 [(.int .i64 0), .nilFn] [(0,1,(.int .i64 4)),(1,1,v201)])) fun v203=>
 o6 S202 [(.int .i64 0), .nilFn] fun v204 S205=>
 t6 v198 S S205∧o6 S205 [(.int .i64 0), .nilFn] fun v206 S207=>
 t6 v198 S S207∧o4 Try.prog E w0 E0 [v200] S207 fun v208 S209=>
 a9 (E6 (w6 [(.int .i64 0), .nilFn] [(0,1,(.int .i64 8)),(1,1,v208)])) fun v210=>
 f0 S209 2 v206 v203 fun v211 S212=>
 f0 S212 2 v204 v210 fun v213 S214=>
 u7 E w0 Q x4 x7 x10 v206 v204 S214))))∧
 ((a9 (m8 1 x7) fun v215=>
 a9 (c9 S v215) fun v216=>
 a9 (I6 .u8 v216) fun v217=>
 o6 S [(.int .i64 0), .nilFn] fun v218 S219=>
 t6 v215 S S219∧o4 Try.prog E w0 u5 [(.int .i64 0),(.int .i64 4294967295)] S219 fun v220 S221=>
 t6 v215 S S221∧a9 (E6 (w6 [(.int .i64 0), .nilFn] [(0,1,(.int .i64 4)),(1,1,v220)])) fun v222=>
 o4 Try.prog E w0 E0 [v217] S221 fun v223 S224=>
 a9 (E6 (w6 [(.int .i64 0), .nilFn] [(0,1,(.int .i64 8)),(1,1,v223)])) fun v225=>
 o6 S224 [(.int .i64 0), .nilFn] fun v226 S227=>
 f0 S227 2 v226 v222 fun v228 S229=>
 f0 S229 2 v218 v225 fun v230 S231=>
 u7 E w0 Q x4 x7 x10 v226 v218 S231)∧
 (a9 (m8 1 x7) fun v232=>
 a9 (c9 S v232) fun v233=>
 a9 (I6 .u8 v233) fun v234=>
 o6 S [(.int .i64 0), .nilFn] fun v235 S236=>
 t6 v232 S S236∧o4 Try.prog E w0 u5 [(.int .i64 0),(.int .i64 4294967295)] S236 fun v237 S238=>
 t6 v232 S S238∧a9 (E6 (w6 [(.int .i64 0), .nilFn] [(0,1,(.int .i64 4)),(1,1,v237)])) fun v239=>
 o6 S238 [(.int .i64 0), .nilFn] fun v240 S241=>
 t6 v232 S S241∧o4 Try.prog E w0 E0 [v234] S241 fun v242 S243=>
 a9 (E6 (w6 [(.int .i64 0), .nilFn] [(0,1,(.int .i64 8)),(1,1,v242)])) fun v244=>
 f0 S243 2 v240 v239 fun v245 S246=>
 f0 S246 2 v235 v244 fun v247 S248=>
 u7 E w0 Q x4 x7 x10 v240 v235 S248)))∧
 (((a9 (m8 1 x7) fun v249=>
 a9 (c9 S v249) fun v250=>
 a9 (I6 .u8 v250) fun v251=>
 o6 S [(.int .i64 0), .nilFn] fun v252 S253=>
 t6 v249 S S253∧o4 Try.prog E w0 u5 [(.int .i64 0),(.int .i64 4294967295)] S253 fun v254 S255=>
 t6 v249 S S255∧a9 (E6 (w6 [(.int .i64 0), .nilFn] [(0,1,(.int .i64 4)),(1,1,v254)])) fun v256=>
 o4 Try.prog E w0 E0 [v251] S255 fun v257 S258=>
 a9 (E6 (w6 [(.int .i64 0), .nilFn] [(0,1,(.int .i64 8)),(1,1,v257)])) fun v259=>
 o6 S258 [(.int .i64 0), .nilFn] fun v260 S261=>
 f0 S261 2 v252 v256 fun v262 S263=>
 f0 S263 2 v260 v259 fun v264 S265=>
 u7 E w0 Q x4 x7 x10 v252 v260 S265)∧
 (a9 (m8 1 x7) fun v266=>
 a9 (c9 S v266) fun v267=>
 a9 (I6 .u8 v267) fun v268=>
 o6 S [(.int .i64 0), .nilFn] fun v269 S270=>
 t6 v266 S S270∧o4 Try.prog E w0 u5 [(.int .i64 0),(.int .i64 4294967295)] S270 fun v271 S272=>
 t6 v266 S S272∧a9 (E6 (w6 [(.int .i64 0), .nilFn] [(0,1,(.int .i64 4)),(1,1,v271)])) fun v273=>
 o6 S272 [(.int .i64 0), .nilFn] fun v274 S275=>
 t6 v266 S S275∧o4 Try.prog E w0 E0 [v268] S275 fun v276 S277=>
 a9 (E6 (w6 [(.int .i64 0), .nilFn] [(0,1,(.int .i64 8)),(1,1,v276)])) fun v278=>
 f0 S277 2 v269 v273 fun v279 S280=>
 f0 S280 2 v274 v278 fun v281 S282=>
 u7 E w0 Q x4 x7 x10 v269 v274 S282))∧
 ((a9 (m8 1 x7) fun v283=>
 a9 (c9 S v283) fun v284=>
 a9 (I6 .u8 v284) fun v285=>
 o6 S [(.int .i64 0), .nilFn] fun v286 S287=>
 t6 v283 S S287∧o6 S287 [(.int .i64 0), .nilFn] fun v288 S289=>
 t6 v283 S S289∧o4 Try.prog E w0 u5 [(.int .i64 0),(.int .i64 4294967295)] S289 fun v290 S291=>
 t6 v283 S S291∧a9 (E6 (w6 [(.int .i64 0), .nilFn] [(0,1,(.int .i64 4)),(1,1,v290)])) fun v292=>
 o4 Try.prog E w0 E0 [v285] S291 fun v293 S294=>
 a9 (E6 (w6 [(.int .i64 0), .nilFn] [(0,1,(.int .i64 8)),(1,1,v293)])) fun v295=>
 f0 S294 2 v286 v292 fun v296 S297=>
 f0 S297 2 v288 v295 fun v298 S299=>
 u7 E w0 Q x4 x7 x10 v286 v288 S299)∧
 (a9 (m8 1 x7) fun v300=>
 a9 (c9 S v300) fun v301=>
 a9 (I6 .u8 v301) fun v302=>
 o6 S [(.int .i64 0), .nilFn] fun v303 S304=>
 t6 v300 S S304∧o6 S304 [(.int .i64 0), .nilFn] fun v305 S306=>
 t6 v300 S S306∧o4 Try.prog E w0 u5 [(.int .i64 0),(.int .i64 4294967295)] S306 fun v307 S308=>
 t6 v300 S S308∧a9 (E6 (w6 [(.int .i64 0), .nilFn] [(0,1,(.int .i64 4)),(1,1,v307)])) fun v309=>
 o4 Try.prog E w0 E0 [v302] S308 fun v310 S311=>
 a9 (E6 (w6 [(.int .i64 0), .nilFn] [(0,1,(.int .i64 8)),(1,1,v310)])) fun v312=>
 f0 S311 2 v305 v309 fun v313 S314=>
 f0 S314 2 v303 v312 fun v315 S316=>
 u7 E w0 Q x4 x7 x10 v305 v303 S316))))
 (a0A E w0 Q x4 x7 x10 S))
theorem b4P{E:m6}{w0:o3}{N0:D→D→D→D→D→D→b7→Prop}{Q:D→b7→Prop}{x4 x7 x10 x45 x46 x47:D}{S:b7}(h:a6c E w0 N0 Q x4 x7 x10 x45 x46 x47 S):
  k9 Try.prog E w0 a5q (n9 120 [4,7,10,45,46,47] [x4,x7,x10,x45,x46,x47]) S (C0 (fun T S=>N0 (T.getD 4 b8) (T.getD 7 b8) (T.getD 10 b8) (T.getD 45 b8) (T.getD 46 b8) (T.getD 47 b8) S) (a5I E w0 Q)):=l8 U3 W5 U6 o9 (by kernel_rfl) h
theorem b5C{E:m6}{w0:o3}{Q:D→b7→Prop}(I:Nat→D→D→D→D→D→D→b7→Prop)
  (step:∀n x4 x7 x10 x45 x46 x47 S,I n x4 x7 x10 x45 x46 x47 S→a6c E w0 (fun x4 x7 x10 x45 x46 x47 S=>∃m,m<n∧I m x4 x7 x10 x45 x46 x47 S) Q x4 x7 x10 x45 x46 x47 S)
  {n:Nat} {x4 x7 x10 x45 x46 x47:D} {S:b7} (h:I n x4 x7 x10 x45 x46 x47 S):k9 Try.prog E w0 (.loop a5q) (n9 120 [4,7,10,45,46,47] [x4,x7,x10,x45,x46,x47]) S (a5I E w0 Q):=
 r8 (k:=120) (n:=n) (I:=fun n T S=>I n (T.getD 4 b8) (T.getD 7 b8) (T.getD 10 b8) (T.getD 45 b8) (T.getD 46 b8) (T.getD 47 b8) S) (fun n T S hl hI=>s6 [4,7,10,45,46,47] hl (k9.mono (b4P (step n _ _ _ _ _ _ S hI)) fun ex T' S' _ hq=>by cases ex<;>exact hq)) (o7 ..) (Eq.mp (by kernel_rfl) h)
def b5p(E:m6)(w0:o3)(Q:D→b7→Prop)(a0 a1:D)(S:b7):Prop:=
 o6 S [(.int .u8 0),(.int .i64 0),(.int .i64 0), .nilSlc] fun v0 S1=>
 a9 (d8 .lss a1 (.int .i64 0)) fun v2=>
 a9 (j9 (d6 v2 false) (some a1)) fun v3=>
 a9 (j9 (d6 v2 false) (some a0)) fun v4=>
 a9 (j9 (d6 v2 false) (r6 v4)) fun v5=>
 a9 (j9 (d6 v2 false) (d8 .geq v3 v5)) fun v6=>
 a9 (z2 v2 (.bool true) v6) fun v7=>
 i9 v7
 (a9 (E6 (w6 [(.int .u8 0),(.int .i64 0),(.int .i64 0), .nilSlc] [])) fun v8=>
 f0 S1 4 v0 v8 fun v9 S10=>
 a9 (j0 S10 4 v0) fun v11=>Q (.tup [v11,(.int .i64 0),(.int .i64 2)]) S10)
 (a9 (A7 1 a0 a1) fun v12=>
 a9 (c9 S1 v12) fun v13=>
 a9 (E6 (w6 [(.int .u8 0),(.int .i64 0),(.int .i64 0), .nilSlc] [(0,1,v13)])) fun v14=>
 o6 S1 [(.int .u8 0),(.int .i64 0),(.int .i64 0), .nilSlc] fun v15 S16=>
 f0 S16 4 v15 v14 fun v17 S18=>
 a9 (m8 0 v15) fun v19=>
 a9 (c9 S18 v19) fun v20=>
 o4 Try.prog E w0 a5f [v20] S18 fun v21 S22=>
 a9 (o5 v21 0) fun v23=>
 a9 (o5 v21 1) fun v24=>
 a9 (unD .not v24) fun v25=>
 i9 v25
 (a9 (E6 (w6 [(.int .u8 0),(.int .i64 0),(.int .i64 0), .nilSlc] [])) fun v26=>
 f0 S22 4 v0 v26 fun v27 S28=>
 a9 (j0 S28 4 v0) fun v29=>Q (.tup [v29,(.int .i64 0),(.int .i64 120)]) S28)
 (a9 (d8 .add a1 (.int .i64 1)) fun v30=>
 a9 (E6 (w6 [.nilSlc,(.int .i64 0),(.int .i64 0)] [(0,1,a0),(1,1,v30)])) fun v31=>
 a9 (r7 v31) fun cs=>o6 S22 cs fun v32 S33=>
 a9 (r6 v23) fun v34=>
 k9 Try.prog E w0 (.loop a5q) (n9 120 [4,7,10,45,46,47] [v0,v15,v32,v23,v34,(.int .i64 0)]) S33 (a5I E w0 Q)))
theorem b8p{E:m6}{w0:o3}{Q:D→b7→Prop}{a0 a1:D}{S:b7}(h:b5p E w0 (d9 E Q) a0 a1 S):o4 Try.prog E w0 a5d [a0,a1] S Q:=
 m9 U3 W5 U6 (fn:=Try.f83) (c:=Try.f83.body.getD .skip) o9 Try.func83 (by kernel_rfl) (by kernel_rfl) h
def b4q:List (Nat×List Nat):=[(8,[0,5,6,7])]
def b3P:List (Nat×List Nat):=[]
def b4h:List (Nat×Arr):=[]
noncomputable def b1q:Code:=(l9 [1,1,1,0,1,0,0] (Try.f74.body.getD .skip))
def b1G(E:m6)(w0:o3)(Q:D→b7→Prop):r4→List D→b7→Prop:=
 (t7 0 (I5 Try.prog E w0 b4q b3P b4h (l9 [1,1,1,1] (Try.f74.body.getD .skip)) (I4 Try.prog Try.f74 Q)))
def b2b(E:m6)(w0:o3)(N0:D→D→D→D→b7→Prop)(Q:D→b7→Prop)(x0 x5 x6 x7:D)(S:b7):Prop:=
 a9 (r6 x0) fun v0=>
 a9 (d8 .lss x7 v0) fun v1=>
 i9 v1
 (o4 Try.prog E w0 a5d [x0,x7] S fun v2 S3=>
 a9 (o5 v2 0) fun v4=>
 a9 (o5 v2 1) fun v5=>
 a9 (o5 v2 2) fun v6=>
 o6 S3 [(.int .u8 0),(.int .i64 0),(.int .i64 0), .nilSlc] fun v7 S8=>
 f0 S8 4 v7 v4 fun v9 S10=>
 a9 (d8 .neq v6 (.int .i64 0)) fun v11=>
 i9 v11
 (Q (.tup [.nilSlc, .nilSlc,v6]) S10)
 (a9 (j0 S10 4 v7) fun v12=>
 u6 S10 4 (p9 4 (List.replicate 1 [(.int .u8 0),(.int .i64 0),(.int .i64 0), .nilSlc]) [(0,v12)]) 1 fun v13 S14=>
 y9 S14 4 48 x5 v13 fun v15 S16=>
 u6 S16 1 (p9 1 (List.replicate 1 [(.int .i64 0)]) [(0,x7)]) 1 fun v17 S18=>
 y9 S18 1 8 x6 v17 fun v19 S20=>
 N0 x0 v15 v19 v5 S20))
 (Q (.tup [x5,x6,(.int .i64 0)]) S)
theorem b9O{E:m6}{w0:o3}{N0:D→D→D→D→b7→Prop}{Q:D→b7→Prop}{x0 x5 x6 x7:D}{S:b7}(h:b2b E w0 N0 Q x0 x5 x6 x7 S):
  k9 Try.prog E w0 b1q (n9 36 [0,5,6,7] [x0,x5,x6,x7]) S (C0 (fun T S=>N0 (T.getD 0 b8) (T.getD 5 b8) (T.getD 6 b8) (T.getD 7 b8) S) (b1G E w0 Q)):=l8 b4q b3P b4h o9 (by kernel_rfl) h
theorem b9C{E:m6}{w0:o3}{Q:D→b7→Prop}(I:Nat→D→D→D→D→b7→Prop)
  (step:∀n x0 x5 x6 x7 S,I n x0 x5 x6 x7 S→b2b E w0 (fun x0 x5 x6 x7 S=>∃m,m<n∧I m x0 x5 x6 x7 S) Q x0 x5 x6 x7 S)
  {n:Nat} {x0 x5 x6 x7:D} {S:b7} (h:I n x0 x5 x6 x7 S):k9 Try.prog E w0 (.loop b1q) (n9 36 [0,5,6,7] [x0,x5,x6,x7]) S (b1G E w0 Q):=
 r8 (k:=36) (n:=n) (I:=fun n T S=>I n (T.getD 0 b8) (T.getD 5 b8) (T.getD 6 b8) (T.getD 7 b8) S) (fun n T S hl hI=>s6 [0,5,6,7] hl (k9.mono (b9O (step n _ _ _ _ S hI)) fun ex T' S' _ hq=>by cases ex<;>exact hq)) (o7 ..) (Eq.mp (by kernel_rfl) h)
def c3b(E:m6)(w0:o3)(Q:D→b7→Prop)(a0:D)(S:b7):Prop:=
 k9 Try.prog E w0 (.loop b1q) (n9 36 [0,5,6,7] [a0, .nilSlc, .nilSlc,(.int .i64 0)]) S (b1G E w0 Q)
theorem c4c{E:m6}{w0:o3}{Q:D→b7→Prop}{a0:D}{S:b7}(h:c3b E w0 (d9 E Q) a0 S):o4 Try.prog E w0 b6M [a0] S Q:=
 m9 b4q b3P b4h (fn:=Try.f74) (c:=Try.f74.body.getD .skip) o9 Try.func74 (by kernel_rfl) (by kernel_rfl) h
end Go.Proofs.Ytchnpgddpaonhaa.d
end
section
open Go.Proofs Go Go.Am Go.Op
namespace Go.Proofs.Ytchnpgddpaonhaa.d
section
def rdC(bs:List Int)(s:Nat×Int):List D:=[bD bs, .int .i64 (s.1:Int), .int .i64 s.2]
theorem d5V{s:Nat}(h:s<8):(2:Nat)^(8*s)≤2^56:=Nat.pow_le_pow_right (by decide) (by omega)
section
variable{E:m6}{w0:o3}
theorem c5u{bs:List Int}(hb:∀b∈bs,H6 b)(hl:bs.length<2^60){s:Nat×Int}(hs:s.1≤bs.length){row:List D}{f:Fld}(hf:c1w row f)(h1:1≤f.size)(h8:f.size≤8){S:b7}{k:Nat}{acs:List AV}(hk:S k=some ⟨3,[rdC bs s],acs⟩):
  o4 Try.prog E w0 C2 [.ptr k 0, .agg row] S fun v S'=>v= .int .i64 (H5 bs f s).1∧∃acs',S'=S.set k ⟨3,[rdC bs (H5 bs f s).2],acs'⟩:=by
 obtain⟨fv,rfl,hm⟩:=hf
 refine b0X ?_
 unfold a7c
 rw[clA,oD]
 intro k0 a0 n0
 have d:k≠k0:=b7.ne_of hk n0
 generalize hS1:S.set k0 _=S1
 have bk:S1 k=some ⟨3,[rdC bs s],acs⟩:=by rw[←hS1,b7.set_ne _ _ _ d];exact hk
 have b0:S1 k0=some ⟨2,[[.int .i64 (f.size:Int),fv]],a0⟩:=by rw[←hS1];exact b7.set_same _ _ _
 have drop:∀ {o:L7} {Q:D→b7→Prop} {v:D},d9 E Q v (S.set k o)→d9 E Q v (S1.set k o):=fun{o Q v} h=>by
  rw[←hS1,b7.set_comm _ (Ne.symm d)]
  exact d9.drop (by rw[b7.set_ne _ _ _ (Ne.symm d)];exact n0) h
 have l2:c9 S1 (.ptr k 2)=some (.int .i64 s.2):=ldP bk
 have l1:c9 S1 (.ptr k 1)=some (.int .i64 (s.1:Int)):=ldP bk
 have l0:c9 S1 (.ptr k 0)=some (bD bs):=ldP bk
 have m0:c9 S1 (.ptr k0 0)=some (.int .i64 (f.size:Int)):=ldP b0
 have m1:c9 S1 (.ptr k0 1)=some fv:=ldP b0
 simp only[ndP,I3,oD,Nat.zero_add,l2,l1,l0,m0,b4F]
 rw[d3a,M6]
 refine⟨fun he=> ?_,fun he=> ?_⟩
 ·rw[c9A he, ←hS1]
  exact d9.drop n0 (d9.here ⟨rfl,acs,(b7.set_self hk).symm⟩)
 have he:s.2=0:=Classical.not_not.1 he
 refine(a9D hb hl hs h1 h8).use ?_
 have hset:∀n m:Int,o8 (rdC bs (s.1,n)) 2 [.int .i64 m]=rdC bs (s.1,m):=fun _ _=>rfl
 have hset1:∀m:Nat,o8 (rdC bs s) 1 [.int .i64 (m:Int)]=rdC bs (m,s.2):=fun _=>rfl
 by_cases hsh:bs.length<s.1+f.size
 ·rw[if_pos hsh]
  have e:H5 bs f s=(0,s.1,10):=by unfold H5;rw[if_neg (by simp[he]),if_pos hsh]
  simp only[exD,List.getElem?_cons_zero,List.getElem?_cons_succ,oD,b4F]
  rw[show((10:Int) != 0)=true from rfl,cdT]
  refine stP bk (clI _ _) ⟨rfl,by decide,by simp[rdC]⟩ fun acs'=>drop (d9.here ?_)
  rw[e]
  exact⟨rfl,acs',rfl⟩
 rw[if_neg hsh]
 simp only[exD,List.getElem?_cons_zero,List.getElem?_cons_succ,oD,b4F,cvI]
 rw[show((0:Int) != 0)=false from rfl,cdF]
 obtain⟨u,hu⟩:∃u,u=leN ((bs.drop s.1).take f.size):=⟨_,rfl⟩
 have hur:H5 bs f s=match rdN f u with|some n=>(n,s.1+f.size,0)|none=>(0,s.1,120):=by
  unfold H5;rw[if_neg (by simp[he]),if_neg hsh, ←hu]
  cases rdN f u<;>rfl
 have hult:u<2^(8*f.size):=by
  rw[hu]
  have hbs:∀b∈(bs.drop s.1).take f.size,H6 b:=fun b hb'=>hb b (List.mem_of_mem_drop (List.mem_of_mem_take hb'))
  have:=b1d hbs
  rwa [show((bs.drop s.1).take f.size).length=f.size by rw[List.length_take,List.length_drop];omega]at this
 rw[←hu]
 obtain⟨n,hn⟩:∃n,n=IntKind.i64.wrap (u:Int):=⟨_,rfl⟩
 have hn64:I64 n:=by rw[hn];exact c6e _
 rw[←hn,m1,oD]
 have tail:∀n':Int,I64 n'→n'=(if f.may n=false∧f.size<8 then n - 2^(8*f.size) else n)→L5 E w0 (d9 E fun v S'=>v= .int .i64 (H5 bs f s).1∧∃acs',S'=S.set k ⟨3,[rdC bs (H5 bs f s).2],acs'⟩) (.ptr k 0) (.ptr k0 0) (.int .i64 ((s.1+f.size:Nat):Int)) (.int .i64 n') S1:=fun n' hn' he'=>by
  refine a7W ?_
  unfold a4r
  simp only[I3,oD,Nat.zero_add,m1]
  refine c1n hm hn' ?_
  rw[unN,oD]
  have hrd:rdN f u=if f.may n'=true then some n' else none:=by
   unfold rdN;simp only;rw[←hn, ←he']
  have hmm:decide (f.lo≤n'∧n'≤f.hi)=f.may n':=rfl
  rw[hmm,cdB]
  refine⟨fun hf=> ?_,fun hf=> ?_⟩
  ·have hf:f.may n'=false:=by simpa using hf
   rw[hf,if_neg (by decide)]at hrd
   rw[hrd]at hur
   simp only[ndP,I3,oD,Nat.zero_add]
   refine stP bk (clI _ _) ⟨rfl,by decide,by simp[rdC]⟩ fun acs'=>drop (d9.here ?_)
   rw[hur]
   exact⟨rfl,acs',rfl⟩
  ·have hf:f.may n'=true:=by simpa using hf
   rw[if_pos hf]at hrd
   rw[hrd]at hur
   simp only[ndP,I3,oD,Nat.zero_add]
   refine stP bk (clI _ _) ⟨rfl,by decide,by simp[rdC]⟩ fun acs'=>drop (d9.here ?_)
   rw[hur,hset1,he]
   exact⟨rfl,acs',rfl⟩
 refine c1n hm hn64 ?_
 have hmm:decide (f.lo≤n∧n≤f.hi)=f.may n:=rfl
 rw[hmm,unN,oD]
 have e8:decide ((f.size:Int)<8)=decide (f.size<8):=decide_eq_decide.2 (by omega)
 have key:(a9 (d8 .mul (.int .i64 8) (.int .i64 (f.size:Int))) fun v49=>a9 (d8 .shl (.int .i64 1) v49) fun v50=>a9 (d8 .sub (.int .i64 n) v50) fun v51=>L5 E w0 (d9 E fun v S'=>v= .int .i64 (H5 bs f s).1∧∃acs',S'=S.set k ⟨3,[rdC bs (H5 bs f s).2],acs'⟩) (.ptr k 0) (.ptr k0 0) (.int .i64 ((s.1+f.size:Nat):Int)) v51 S1)∨¬(f.may n=false∧f.size<8):=by
  by_cases hc:f.may n=false∧f.size<8
  ·left
   have h56:=d5V hc.2
   have hnu:n=u:=by rw[hn];exact m7 (by omega) (by omega)
   rw[c8z,oD,m7 (by omega) (by omega),d3B _ _ _ _ (by omega),oD]
   have e1:min (8*(f.size:Int)).toNat IntKind.i64.bits=8*f.size:=by
    have:IntKind.i64.bits=64:=rfl
    omega
   have e2:(1:Int)*2^(8*f.size)=((2^(8*f.size):Nat):Int):=by rw[Int.one_mul];exact_mod_cast rfl
   rw[e1,e2,m7 (by omega) (by omega),b0s,oD,m7 (by omega) (by omega)]
   refine tail _ ⟨by omega,by omega⟩ ?_
   rw[if_pos hc]
   congr 1
  ·exact .inr hc
 cases hmn:f.may n with
 |true=>
  simp only[Bool.not_true,wdB,vdF,oD,pdB,Bool.false_eq_true,if_false,cdF,show((false==true)=false) from rfl]
  exact tail n hn64 (by rw[if_neg (by rw[hmn];simp)])
 |false=>
  simp only[Bool.not_false,wdB,vdT,oD,pdB,if_true,show((true==true)=true) from rfl,m0,K3,e8]
  rw[M6]
  refine⟨fun h=> ?_,fun h=> ?_⟩
  ·exact key.resolve_right fun hc=>hc ⟨hmn,h⟩
  ·exact tail n hn64 (by rw[if_neg (fun hc=>h hc.2)])
end
end
section
def zC:List D:=[.int .u8 0, .int .i64 0, .int .i64 0, .nilSlc]
def a1j(op a b:Int)(t:D):List D:=[.int .u8 op, .int .i64 a, .int .i64 b,t]
def c4N(r:Dat×(Nat×Int))(t:D):D:= .tup [.agg (a1j r.1.1 r.1.2.1 r.1.2.2.1 t), .int .i64 (r.2.1:Int), .int .i64 r.2.2]
section
variable{E:m6}{w0:o3}
theorem c9r{Q:D→b7→Prop}{S:b7}{k4 k7 k10:Nat}{c4:List D}{op a b:Int}{t:D}{bs:List Int}{s:Nat×Int}(h4:w9 S k4 4 c4)(h7:w9 S k7 4 (a1j op a b t))(h10:w9 S k10 3 (rdC bs s))(l4:c4.length=4)(ht:r7 t=some [t])
  (hQ:∀S',(∀j,j≠k4→S' j=S j)→d9 E Q (if s.2=0 then .tup [.agg (a1j op a b t), .int .i64 (s.1:Int), .int .i64 0]else .tup [.agg zC, .int .i64 0, .int .i64 s.2]) S'):a0A E w0 (d9 E Q) (.ptr k4 0) (.ptr k7 0) (.ptr k10 0) S:=by
 refine b3N ?_
 unfold b0t
 have e410:k10≠k4:=h10.ne h4 (by decide)
 have ld2:(rdC bs s)[2]? =some (.int .i64 s.2):=rfl
 have ld1:(rdC bs s)[1]? =some (.int .i64 (s.1:Int)):=rfl
 simp only[ndP,I3,oD,Nat.zero_add,h10.ld,ld2,ld1,b4F,fiN,agS]
 rw[d3a,M6]
 refine⟨fun he=> ?_,fun he=> ?_⟩
 ·refine h4.st (clA _) ⟨rfl,by decide,by omega⟩ fun a4=>⟨by rw[fwP,b7.set_ne _ _ _ e410], ?_⟩
  have hs:o8 c4 0 [D.int .u8 0, .int .i64 0, .int .i64 0, .nilSlc]=zC:=by
   match c4,l4 with
   | [_,_,_,_],_=>rfl
  rw[hs,(w9.new).all (n:=4) (by decide) rfl,oD]
  have:=hQ (S.set k4 ⟨4,[zC],a4⟩) (fun j hj=>b7.set_ne _ _ _ hj)
  rw[if_neg he]at this
  exact this
 ·rw[h7.all (n:=4) (by decide) rfl,oD]
  refine h4.st (ds:=a1j op a b t) (clA _) ⟨rfl,by decide,by omega⟩ fun a4=>⟨by rw[fwP,b7.set_ne _ _ _ e410], ?_⟩
  have hs:o8 c4 0 (a1j op a b t)=a1j op a b t:=by
   match c4,l4 with
   | [_,_,_,_],_=>rfl
  rw[hs,(w9.new).all (n:=4) (by decide) rfl,oD]
  have:=hQ (S.set k4 ⟨4,[a1j op a b t],a4⟩) (fun j hj=>b7.set_ne _ _ _ hj)
  rw[if_pos (Classical.not_not.1 he)]at this
  exact this
structure a0Q (S:b7) (k4 k7 k10:Nat) (c7:List D) (bs:List Int) (s:Nat×Int) (S':b7):Prop where
 le:S.le S'
 n4:S k4=none
 n7:S k7=none
 n10:S k10=none
 d47:k4≠k7
 h4:w9 S' k4 4 zC
 h7:w9 S' k7 4 c7
 h10:w9 S' k10 3 (rdC bs s)
section
variable{S S':b7}{k4 k7 k10:Nat}{c7:List D}{bs:List Int}{s:Nat×Int}
theorem a0Q.d410(h:a0Q S k4 k7 k10 c7 bs s S'):k4≠k10:=h.h4.ne h.h10 (by decide)
theorem a0Q.d710(h:a0Q S k4 k7 k10 c7 bs s S'):k7≠k10:=h.h7.ne h.h10 (by decide)
theorem a0Q.set7(h:a0Q S k4 k7 k10 c7 bs s S'){c:List D}{a:List AV}:a0Q S k4 k7 k10 c bs s (S'.set k7 ⟨4,[c],a⟩):=
 ⟨b7.le_set h.le h.n7,h.n4,h.n7,h.n10,h.d47,h.h4.set_ne h.d47,w9.new,h.h10.set_ne (Ne.symm h.d710)⟩
theorem a0Q.set10(h:a0Q S k4 k7 k10 c7 bs s S'){s':Nat×Int}{a:List AV}:a0Q S k4 k7 k10 c7 bs s' (S'.set k10 ⟨3,[rdC bs s'],a⟩):=
 ⟨b7.le_set h.le h.n10,h.n4,h.n7,h.n10,h.d47,h.h4.set_ne h.d410,h.h7.set_ne h.d710,w9.new⟩
theorem a0Q.new(h:a0Q S k4 k7 k10 c7 bs s S'){k:Nat}{o:L7}(hk:S' k=none):a0Q S k4 k7 k10 c7 bs s (S'.set k o):=
 ⟨b7.le_set h.le (b7.none_of h.le hk),h.n4,h.n7,h.n10,h.d47,h.h4.set hk,h.h7.set hk,h.h10.set hk⟩
theorem a0Q.of(h:a0Q S k4 k7 k10 c7 bs s S'){S2:b7}(hl:S.le S2)(e:∀j∈[k4,k7,k10],S2 j=S' j):a0Q S k4 k7 k10 c7 bs s S2:=
 ⟨hl,h.n4,h.n7,h.n10,h.d47,h.h4.of (e _ (by simp)),h.h7.of (e _ (by simp)),h.h10.of (e _ (by simp))⟩
end
theorem c1w.len{row:List D}{f:Fld}(h:c1w row f):row.length=2:=by obtain⟨fv,rfl,_⟩:=h;rfl
theorem d2V{row:List D}{f:Fld}(h:c1w row f):o8 [D.int .i64 0, .nilFn] 0 row=row:=by obtain⟨fv,rfl,_⟩:=h;rfl
theorem a8q{S S':b7}{k4 k7 k10:Nat}{c7:List D}{bs:List Int}{s:Nat×Int}(h:a0Q S k4 k7 k10 c7 bs s S')(hb:∀b∈bs,H6 b)(hl:bs.length<2^60)(hs:s.1≤bs.length){row:List D}{f:Fld}(hf:c1w row f)(h1:1≤f.size)(h8:f.size≤8):
  o4 Try.prog E w0 C2 [.ptr k10 0, .agg row] S' fun v S2=>v= .int .i64 (H5 bs f s).1∧a0Q S k4 k7 k10 c7 bs (H5 bs f s).2 S2∧∀j,j≠k10→S2 j=S' j:=by
 obtain⟨a,e⟩:=h.h10
 refine(c5u hb hl hs hf h1 h8 e).use fun v S2 ⟨e1,a',e2⟩=>⟨e1, ?_, ?_⟩
 ·rw[e2];exact h.set10
 ·rw[e2];exact fun j hj=>b7.set_ne _ _ _ hj
theorem d2N(bs:List Int)(f:Fld)(s:Nat×Int):(H5 bs f s).1=0∨f.may (H5 bs f s).1=true:=by
 unfold H5
 split
 ·exact .inl rfl
 split
 ·exact .inl rfl
 ·split
  ·rename_i m hm
   unfold rdN at hm
   simp only[Option.ite_none_right_eq_some,Option.some.injEq]at hm
   obtain⟨h1,h2⟩:=hm
   right;rw[←h2];exact h1
  ·exact .inl rfl
theorem d3R{Q:D→b7→Prop}{S:b7}{k4 k7 k10 k13 k14:Nat}{op a:Int}{bs:List Int}{s:Nat×Int}{S':b7}(hb:∀b∈bs,H6 b)(hl:bs.length<2^30)(h:a0Q S k4 k7 k10 (a1j op a 0 .nilSlc) bs s S')(hs:s.1≤bs.length)
  (h13:w9 S' k13 2 [.int .i64 4,a0u 0 4294967295]) (h14:w9 S' k14 2 [.int .i64 8,a6G (IntKind.u8.wrap a)]) (n13:S k13=none) (n14:S k14=none) (d7:k7≠k13∧k7≠k14)
  (hQ:∀t S',Grw S t ((a7R bs op a s).1.2.2.2.map a2w) 2 S'→d9 E Q (if(a7R bs op a s).2.2=0 then .tup [.agg (a1j op a (a7R bs op a s).1.2.2.1 t), .int .i64 ((a7R bs op a s).2.1:Int), .int .i64 0]else .tup [.agg zC, .int .i64 0, .int .i64 (a7R bs op a s).2.2]) S'):
  u7 E w0 (d9 E Q) (.ptr k4 0) (.ptr k7 0) (.ptr k10 0) (.ptr k13 0) (.ptr k14 0) S':=by
 refine b4t ?_
 unfold b0v
 refine F9.use ?_
 rw[a4k (b3u _ _),oD]
 have hl60:bs.length<2^60:=by omega
 refine(a8q h hb hl60 hs (row:=[.int .i64 2,a0u 0 65535]) (f:=fIx) ⟨_,rfl,b8J.bet _ _⟩ (by decide) (by decide)).use ?_
 rintro v S2 ⟨rfl,h2,ke⟩
 have hs2:=c4p (f:=fIx) hs
 have hn0:0≤(H5 bs fIx s).1∧(H5 bs fIx s).1≤65535:=by
  rcases d2N bs fIx s with h|h
  ·omega
  ·exact of_decide_eq_true h
 have e13:k13≠k10:=h13.ne h.h10 (by decide)
 have e14:k14≠k10:=h14.ne h.h10 (by decide)
 have h13:=h13.of (ke _ e13)
 have h14:=h14.of (ke _ e14)
 obtain⟨N,hN⟩:∃N:Nat,(H5 bs fIx s).1=(N:Int):=⟨(H5 bs fIx s).1.toNat,by omega⟩
 have hdec:a7R bs op a s=((op,a,(H5 bs R5 (Q3 bs (IntKind.u8.wrap a) N (H5 bs fIx s).2 []).2).1,(Q3 bs (IntKind.u8.wrap a) N (H5 bs fIx s).2 []).1),(H5 bs R5 (Q3 bs (IntKind.u8.wrap a) N (H5 bs fIx s).2 []).2).2):=by
  unfold a7R;rw[hN];rfl
 rw[hN]
 refine b5g (I:=fun n x4 x7 x10 x13 x14 x15 T=>x4= .ptr k4 0∧x7= .ptr k7 0∧x10= .ptr k10 0∧x13= .ptr k13 0∧x14= .ptr k14 0∧x15= .int .i64 (n:Int)∧n≤N∧∃(s':Nat×Int) (acc:List (Int×Int)) (t:D),a0Q S k4 k7 k10 (a1j op a 0 t) bs s' T∧s'.1≤bs.length∧
   w9 T k13 2 [.int .i64 4,a0u 0 4294967295]∧w9 T k14 2 [.int .i64 8,a6G (IntKind.u8.wrap a)]∧GrA S [k4,k7,k10,k13,k14] t (acc.map a2w) 2 T∧acc.length+n=N∧Q3 bs (IntKind.u8.wrap a) n s' acc=Q3 bs (IntKind.u8.wrap a) N (H5 bs fIx s).2 []) ?_ (n:=N)
  ⟨rfl,rfl,rfl,rfl,rfl,rfl,Nat.le_refl _,_,[], .nilSlc,h2,hs2,h13,h14,GrA.nil,by simp,rfl⟩
 rintro n _ _ _ _ _ _ T ⟨rfl,rfl,rfl,rfl,rfl,rfl,hnN,s',acc,t,hd,hs',g13,g14,hg,hacc,hrd⟩
 unfold a6g
 have ld2:c9 T (.ptr k10 2)=some (.int .i64 s'.2):=hd.h10.ld 2
 have fin:(n=0∨s'.2≠0)→(a9 (j0 T 2 (.ptr k13 0)) fun v107=>o4 Try.prog E w0 C2 [.ptr k10 0,v107] T fun v108 S109=>a9 (m8 2 (.ptr k7 0)) fun v110=>f0 S109 1 v110 v108 fun v111 S112=>a0A E w0 (d9 E Q) (.ptr k4 0) (.ptr k7 0) (.ptr k10 0) S112):=fun hend=>by
  have hrd':Q3 bs (IntKind.u8.wrap a) N (H5 bs fIx s).2 []=(acc,s'):=by
   rw[←hrd]
   rcases hend with rfl|h
   ·rfl
   ·exact c1K h
  rw[hrd']at hdec
  rw[g13.all (n:=2) (by decide) rfl,oD]
  refine(a8q hd hb hl60 hs' (row:=[.int .i64 4,a0u 0 4294967295]) (f:=R5) ⟨_,rfl,b8J.bet _ _⟩ (by decide) (by decide)).use ?_
  rintro v T2 ⟨rfl,hd2,ke2⟩
  rw[I3,oD]
  refine hd2.h7.st (clI _ _) ⟨rfl,by decide,by simp[a1j]⟩ fun a7=> ?_
  have hd3:=hd2.set7 (c:=a1j op a (H5 bs R5 s').1 t) (a:=a7)
  have hg3:GrA S [k4,k7,k10,k13,k14] t (acc.map a2w) 2 (T2.set k7 ⟨4,[a1j op a (H5 bs R5 s').1 t],a7⟩):=(hg.of fun k o hk e=>by rw[ke2 k (fun e=>hk (by simp[e]))];exact e).set (.inl (by simp))
  refine c9r hd3.h4 hd3.h7 hd3.h10 rfl hg.cells fun S'' hS''=> ?_
  have hg4:GrA S [k4,k7,k10,k13,k14] t (acc.map a2w) 2 S'':=hg3.of fun k o hk e=>by rw[hS'' k (fun e=>hk (by simp[e]))];exact e
  have hle:S.le S'':=fun j o e=>by rw[hS'' j (fun e'=>by rw[e',hd.n4]at e;cases e)];exact hd3.le _ _ e
  obtain⟨S3,l3,g3⟩:=hg4.grw hle
  refine d9.less l3 ?_
  have:=hQ t S3 (by rw[hdec];exact g3)
  rw[hdec]at this
  exact this
 simp only[a3z,oD,ndP,I3,Nat.zero_add,ld2,a1T]
 by_cases h0:n=0
 ·subst h0
  simp only[Int.natCast_zero,gt_iff_lt,Int.lt_irrefl,decide_false,wdB,vdF,oD,pdB,Bool.false_eq_true,if_false,cdF,show((false==true)=false) from rfl]
  exact fin (.inl rfl)
 have hpos:decide ((n:Int)>0)=true:=decide_eq_true (by omega)
 simp only[hpos,wdB,vdT,oD,pdB,if_true,show((true==true)=true) from rfl,ndP,I3,Nat.zero_add,ld2,a1T]
 rw[cdB]
 refine⟨fun h0'=> ?_,fun h0'=> ?_⟩
 ·have hs0:s'.2=0:=by simpa using h0'
  rw[g14.all (n:=2) (by decide) rfl,oD]
  refine(a8q hd hb hl60 hs' (row:=[.int .i64 8,a6G (IntKind.u8.wrap a)]) (f:=vF (IntKind.u8.wrap a)) ⟨_,rfl,b8J.fit _⟩ (by show 1≤8;decide) (by show 8≤8;decide)).use ?_
  rintro v T2 ⟨rfl,hd2,ke2⟩
  have hs2':=c4p (f:=vF (IntKind.u8.wrap a)) hs'
  have f13:=g13.of (ke2 _ e13)
  have f14:=g14.of (ke2 _ e14)
  have ld3:c9 T2 (.ptr k7 3)=some t:=hd2.h7.ld 3
  rw[ld3,oD]
  rw[f13.all (n:=2) (by decide) rfl,oD]
  refine(a8q hd2 hb hl60 hs2' (row:=[.int .i64 4,a0u 0 4294967295]) (f:=R5) ⟨_,rfl,b8J.bet _ _⟩ (by decide) (by decide)).use ?_
  rintro v T3 ⟨rfl,hd3,ke3⟩
  have k7e:T3 k7=T2 k7:=ke3 _ hd.d710
  refine⟨by rw[fwP,k7e], ?_⟩
  have hfa:E6 (w6 [D.int .i64 0, .int .i64 0] [(0,1, .int .i64 (H5 bs (vF (IntKind.u8.wrap a)) s').1),(1,1, .int .i64 (H5 bs R5 (H5 bs (vF (IntKind.u8.wrap a)) s').2).1)])=some (.agg (a2w ((H5 bs (vF (IntKind.u8.wrap a)) s').1,(H5 bs R5 (H5 bs (vF (IntKind.u8.wrap a)) s').2).1))):=rfl
  rw[hfa,oD]
  refine M7 (rows:=[a2w _]) rfl ⟨by rw[fwP,k7e], ?_⟩
  have hg2:GrA S [k4,k7,k10,k13,k14] t (acc.map a2w) 2 T2:=hg.of fun k o hk e=>by rw[ke2 k (fun e=>hk (by simp[e]))];exact e
  have hg3:GrA S [k4,k7,k10,k13,k14] t (acc.map a2w) 2 T3:=hg2.of fun k o hk e=>by rw[ke3 k (fun e=>hk (by simp[e]))];exact e
  have q13:=f13.of (ke3 _ e13)
  have q14:=f14.of (ke3 _ e14)
  refine hg3.push hd3.le (fun j hj=> ?_) (news:=[a2w ((H5 bs (vF (IntKind.u8.wrap a)) s').1,(H5 bs R5 (H5 bs (vF (IntKind.u8.wrap a)) s').2).1)]) (by simp[rowsS,J5]) (by simp) (by simp;omega) fun t' T4 hle4 he4 hg4=> ?_
  ·simp only[List.mem_cons,List.not_mem_nil,or_false]at hj
   rcases hj with rfl|rfl|rfl|rfl|rfl
   ·exact hd3.h4.there
   ·exact hd3.h7.there
   ·exact hd3.h10.there
   ·exact q13.there
   ·exact q14.there
  have hd4:a0Q S k4 k7 k10 (a1j op a 0 t) bs _ T4:=hd3.of hle4 fun j hj=>he4 j (by simp only[List.mem_cons,List.not_mem_nil,or_false]at hj ⊢;rcases hj with rfl|rfl|rfl<;>simp)
  refine hd4.h7.st (hg4.cells) ⟨rfl,by decide,by simp[a1j]⟩ fun a7=> ?_
  rw[b0s,oD,m7 (by omega) (by omega)]
  obtain⟨m,rfl⟩:∃m,n=m+1:=⟨n - 1,by omega⟩
  rw[Q3,if_neg (by simpa using hs0)]at hrd
  refine⟨m,by omega,by trivial,by trivial,by trivial,by trivial,by trivial,by congr 1;omega,by omega,_,acc++[_],t',hd4.set7 (c:=a1j op a 0 t'),c4p hs2', ?_, ?_, ?_,by simp;omega,hrd⟩
  ·exact(q13.of (he4 _ (by simp))).set_ne (Ne.symm d7.1)
  ·exact(q14.of (he4 _ (by simp))).set_ne (Ne.symm d7.2)
  ·rw[List.map_append]
   exact hg4.set (.inl (by simp))
 ·exact fin (.inr (by simpa using h0'))
end
end
end Go.Proofs.Ytchnpgddpaonhaa.d
end
