/-
  ImageOnceSaid: part Naw of its proof.
-/
import Derived.Test.YtchnpgddpaonhaaRows
import Derived.Test.YtchnpgddpaonhaaNaq
import Derived.KernelRfl
set_option linter.unusedVariables false
set_option linter.unusedSimpArgs false
set_option maxRecDepth 100000
section
open Go.Proofs Go Go.Am
namespace Go.Proofs.Ytchnpgddpaonhaa.d
def c2K:List (Nat×List Nat):=[]
def c3O:List (Nat×List Nat):=[]
def c2x:List (Nat×Arr):=[]
def b6R(E:l9)(w0:o0)(Q:D→b7→Prop)(a0 a1 a2:D)(S:b7):Prop:=
 a9 (r4 a0) fun cs=>o4 S cs fun v0 S1=>
 o4 S1 [(.int .u8 0),(.str []), .nilSlc,(.int .i64 0),(.int .i64 0)] fun v2 S3=>
 a9 (d9 .lss a1 (.int .i64 16)) fun v4=>
 a9 (j8 (d6 v4 false) (some a1)) fun v5=>
 a9 (j8 (d6 v4 false) (d9 .sub v5 (.int .i64 16))) fun v6=>
 a9 (j8 (d6 v4 false) (m7 0 v0)) fun v7=>
 a9 (j8 (d6 v4 false) (c9 S3 v7)) fun v8=>
 a9 (j8 (d6 v4 false) (r6 v8)) fun v9=>
 a9 (j8 (d6 v4 false) (d9 .geq v6 v9)) fun v10=>
 a9 (w8 v4 (.bool true) v10) fun v11=>
 j0 v11
 (a9 (E0 (u6 [(.int .u8 0),(.str []), .nilSlc,(.int .i64 0),(.int .i64 0)] [])) fun v12=>
 f0 S3 5 v2 v12 fun v13 S14=>
 a9 (i9 S14 5 v2) fun v15=>Q (.tup [v15,(.bool false)]) S14)
 (a9 (m7 0 v0) fun v16=>
 a9 (c9 S3 v16) fun v17=>
 a9 (d9 .sub a1 (.int .i64 16)) fun v18=>
 a9 (D1 5 v17 v18) fun v19=>
 a9 (i9 S3 5 v19) fun v20=>
 o4 S3 [(.int .u8 0),(.str []), .nilSlc,(.int .i64 0),(.int .i64 0)] fun v21 S22=>
 f0 S22 5 v21 v20 fun v23 S24=>
 a9 (i9 S24 5 v21) fun v25=>
 a9 (m7 0 v21) fun v26=>
 a9 (c9 S24 v26) fun v27=>
 n9 Try.prog E w0 Y1 [a2,v27] S24 fun v28 S29=>
 r9 v21 S24 S29∧f0 S29 5 v2 v25 fun v30 S31=>
 a9 (i9 S31 5 v2) fun v32=>Q (.tup [v32,v28]) S31)
theorem b9T{E:l9}{w0:o0}{Q:D→b7→Prop}{a0 a1 a2:D}{S:b7}(h:b6R E w0 (d8 E Q) a0 a1 a2 S):n9 Try.prog E w0 Y6 [a0,a1,a2] S Q:=
 m6 c2K c3O c2x (fn:=Try.f96) (c:=Try.f96.body.getD .skip) o7 Try.func96 (by kernel_rfl) (by kernel_rfl) h
def c8z:List (Nat×List Nat):=[]
def c8T:List (Nat×List Nat):=[]
def c8S:List (Nat×Arr):=[]
def c4b(E:l9)(w0:o0)(Q:D→b7→Prop)(a0:D)(S:b7):Prop:=
 o4 S [.nilSlc, .nilSlc,(.bool false)] fun v0 S1=>
 a9 (E0 (u6 [.nilSlc, .nilSlc,(.bool false)] [(0,1,a0),(2,1,(.bool true))])) fun v2=>
 f0 S1 3 v0 v2 fun v3 S4=>
 a9 (i9 S4 3 v0) fun v5=>Q v5 S4
theorem c4a{E:l9}{w0:o0}{Q:D→b7→Prop}{a0:D}{S:b7}(h:c4b E w0 (d8 E Q) a0 S):n9 Try.prog E w0 r7 [a0] S Q:=
 m6 c8z c8T c8S (fn:=Try.f86) (c:=Try.f86.body.getD .skip) o7 Try.func86 (by kernel_rfl) (by kernel_rfl) h
def b2c:List (Nat×List Nat):=[]
def b2r:List (Nat×List Nat):=[]
def b2u:List (Nat×Arr):=[]
def a5y(E:l9)(w0:o0)(Q:D→b7→Prop)(a0 a1:D)(S:b7):Prop:=
 a9 (r4 a0) fun cs=>o4 S cs fun v0 S1=>
 o4 S1 [.nilSlc, .nilSlc,(.bool false)] fun v2 S3=>
 a9 (m7 1 v0) fun v4=>
 f0 S3 1 v4 a1 fun v5 S6=>
 a9 (i9 S6 3 v0) fun v7=>
 f0 S6 3 v2 v7 fun v8 S9=>
 a9 (i9 S9 3 v2) fun v10=>Q v10 S9
theorem a9Y{E:l9}{w0:o0}{Q:D→b7→Prop}{a0 a1:D}{S:b7}(h:a5y E w0 (d8 E Q) a0 a1 S):n9 Try.prog E w0 f9 [a0,a1] S Q:=
 m6 b2c b2r b2u (fn:=Try.f87) (c:=Try.f87.body.getD .skip) o7 Try.func87 (by kernel_rfl) (by kernel_rfl) h
def b2n:List (Nat×List Nat):=[]
def b2l:List (Nat×List Nat):=[]
def b2f:List (Nat×Arr):=[]
def a5a(E:l9)(w0:o0)(Q:D→b7→Prop)(a0 a1:D)(S:b7):Prop:=
 a9 (r4 a0) fun cs=>o4 S cs fun v0 S1=>
 o4 S1 [.nilSlc, .nilSlc,(.bool false)] fun v2 S3=>
 a9 (m7 2 v0) fun v4=>
 f0 S3 1 v4 a1 fun v5 S6=>
 a9 (i9 S6 3 v0) fun v7=>
 f0 S6 3 v2 v7 fun v8 S9=>
 a9 (i9 S9 3 v2) fun v10=>Q v10 S9
theorem a9O{E:l9}{w0:o0}{Q:D→b7→Prop}{a0 a1:D}{S:b7}(h:a5a E w0 (d8 E Q) a0 a1 S):n9 Try.prog E w0 p9 [a0,a1] S Q:=
 m6 b2n b2l b2f (fn:=Try.f88) (c:=Try.f88.body.getD .skip) o7 Try.func88 (by kernel_rfl) (by kernel_rfl) h
def a0L:List (Nat×List Nat):=[(20,[4,5,7,8,42,43,44])]
def a0J:List (Nat×List Nat):=[(25,[2,3,4,5,25,26])]
def a0I:List (Nat×Arr):=[(32,(.node 1 5 (.node 2 5 (.leaf [0,3,4,7,1,2,5,6,8,9]) (.leaf [0,3,4,7,1,5,2,6,8,9])) (.leaf [0,3,4,7,5,1,2,6,8,9]))),(36,(.node 1 5 (.node 2 5 (.leaf [0,3,4,7,1,2,5,6,8,9]) (.leaf [0,3,4,7,1,5,2,6,8,9])) (.leaf [0,3,4,7,5,1,2,6,8,9])))]
noncomputable def a8G:Code:=(l8 [1,1,0,1,0,1,0,1,0,1,0,1,0,1,0,0] (Try.f90.body.getD .skip))
def a8o(E:l9)(w0:o0)(Q:D→b7→Prop):r0→List D→b7→Prop:=
 (t7 1 (K4 Try.prog E w0 a0L a0J a0I (l8 [1,1,0,1,0,1,0,1,0,1,0,1,1] (Try.f90.body.getD .skip)) (K4 Try.prog E w0 a0L a0J a0I (l8 [1,1,0,1,0,1,0,1,1] (Try.f90.body.getD .skip)) (t7 0 (K4 Try.prog E w0 a0L a0J a0I (l8 [1,1,1] (Try.f90.body.getD .skip)) (J6 Try.prog Try.f90 Q))))))
def a9d(E:l9)(w0:o0)(N0:D→D→D→D→D→D→D→b7→Prop)(Q:D→b7→Prop)(x4 x5 x7 x8 x42 x43 x44:D)(S:b7):Prop:=
 a9 (d9 .lss x44 x43) fun v29=>
 j0 v29
 (a9 (D1 2 x42 x44) fun v30=>
 a9 (i9 S 2 v30) fun v31=>
 o4 S [(.str []),(.int .i64 0)] fun v32 S33=>
 f0 S33 2 v32 v31 fun v34 S35=>
 a9 (m7 1 v32) fun v36=>
 a9 (c9 S35 v36) fun v37=>
 u4 S35 1 (p7 1 (List.replicate 1 [(.int .i64 0)]) [(0,v37)]) 1 fun v38 S39=>
 y8 S39 1 8 x8 v38 fun v40 S41=>
 a9 (d9 .add x44 (.int .i64 1)) fun v42=>
 N0 x4 x5 x7 v40 x42 x43 v42 S41)
 (n9 Try.prog E w0 r7 [x8] S fun v43 S44=>
 u4 S44 1 (p7 1 (List.replicate 1 [(.int .i64 0)]) [(0,x5)]) 1 fun v45 S46=>
 n9 Try.prog E w0 f9 [v43,v45] S46 fun v47 S48=>
 n9 Try.prog E w0 p9 [v47,x7] S48 fun v49 S50=>
 f0 S50 3 x4 v49 fun v51 S52=>
 a9 (i9 S52 3 x4) fun v53=>Q v53 S52)
theorem b7y{E:l9}{w0:o0}{N0:D→D→D→D→D→D→D→b7→Prop}{Q:D→b7→Prop}{x4 x5 x7 x8 x42 x43 x44:D}{S:b7}(h:a9d E w0 N0 Q x4 x5 x7 x8 x42 x43 x44 S):
  j9 Try.prog E w0 a8G (m9 200 [4,5,7,8,42,43,44] [x4,x5,x7,x8,x42,x43,x44]) S (D8 (fun T S=>N0 (T.getD 4 b8) (T.getD 5 b8) (T.getD 7 b8) (T.getD 8 b8) (T.getD 42 b8) (T.getD 43 b8) (T.getD 44 b8) S) (a8o E w0 Q)):=k9 a0L a0J a0I o7 (by kernel_rfl) h
theorem b7T{E:l9}{w0:o0}{Q:D→b7→Prop}(I:Nat→D→D→D→D→D→D→D→b7→Prop)
  (step:∀n x4 x5 x7 x8 x42 x43 x44 S,I n x4 x5 x7 x8 x42 x43 x44 S→a9d E w0 (fun x4 x5 x7 x8 x42 x43 x44 S=>∃m,m<n∧I m x4 x5 x7 x8 x42 x43 x44 S) Q x4 x5 x7 x8 x42 x43 x44 S)
  {n:Nat} {x4 x5 x7 x8 x42 x43 x44:D} {S:b7} (h:I n x4 x5 x7 x8 x42 x43 x44 S):j9 Try.prog E w0 (.loop a8G) (m9 200 [4,5,7,8,42,43,44] [x4,x5,x7,x8,x42,x43,x44]) S (a8o E w0 Q):=
 s0 (k:=200) (n:=n) (I:=fun n T S=>I n (T.getD 4 b8) (T.getD 5 b8) (T.getD 7 b8) (T.getD 8 b8) (T.getD 42 b8) (T.getD 43 b8) (T.getD 44 b8) S) (fun n T S hl hI=>s5 [4,5,7,8,42,43,44] hl (j9.mono (b7y (step n _ _ _ _ _ _ _ S hI)) fun ex T' S' _ hq=>by cases ex<;>exact hq)) (o8 ..) (Eq.mp (by kernel_rfl) h)
noncomputable def c0W:Code:=(l8 [1,1,0,1,0,1] (Try.f90.body.getD .skip))
def b8K(E:l9)(w0:o0)(Q:D→b7→Prop):r0→List D→b7→Prop:=
 (t7 0 (K4 Try.prog E w0 a0L a0J a0I (l8 [1,1,1] (Try.f90.body.getD .skip)) (J6 Try.prog Try.f90 Q)))
def b2N(E:l9)(w0:o0)(Q:D→b7→Prop)(x2 x3 x4 x5 x25 x26:D)(S:b7):Prop:=
 j0 x26
 (a9 (i9 S 3 x3) fun v10=>
 a9 (m7 1 x2) fun v11=>
 a9 (c9 S v11) fun v12=>
 u4 S 1 (p7 1 (List.replicate 1 [(.int .u8 0)]) [(0,(.int .u8 6))]) 1 fun v13 S14=>
 n9 Try.prog E w0 Y6 [v10,v12,v13] S14 fun v15 S16=>
 a9 (o6 v15 0) fun v17=>
 a9 (o6 v15 1) fun v18=>
 o4 S16 [(.int .u8 0),(.str []), .nilSlc,(.int .i64 0),(.int .i64 0)] fun v19 S20=>
 f0 S20 5 v19 v17 fun v21 S22=>
 a9 (m7 0 x2) fun v23=>
 a9 (c9 S22 v23) fun v24=>
 a9 (d9 .eql v24 (.int .u8 36)) fun v25=>
 j0 v25
 (a9 (m7 2 v19) fun v26=>
 a9 (c9 S22 v26) fun v27=>
 a9 (r6 v27) fun v28=>
 j9 Try.prog E w0 (.loop a8G) (m9 200 [4,5,7,8,42,43,44] [x4,x5,v18, .nilSlc,v27,v28,(.int .i64 0)]) S22 (a8o E w0 Q))
 (a9 (unD .not v18) fun v54=>
 a9 (j8 (d6 v54 false) (m7 2 x2)) fun v55=>
 a9 (j8 (d6 v54 false) (c9 S22 v55)) fun v56=>
 a9 (j8 (d6 v54 false) (m7 2 v19)) fun v57=>
 a9 (j8 (d6 v54 false) (c9 S22 v57)) fun v58=>
 a9 (j8 (d6 v54 false) (r6 v58)) fun v59=>
 a9 (j8 (d6 v54 false) (d9 .geq v56 v59)) fun v60=>
 a9 (w8 v54 (.bool true) v60) fun v61=>
 j0 v61
 (a9 (E0 (u6 [.nilSlc, .nilSlc,(.bool false)] [])) fun v62=>
 f0 S22 3 x4 v62 fun v63 S64=>
 a9 (i9 S64 3 x4) fun v65=>Q v65 S64)
 (a9 (m7 2 v19) fun v66=>
 a9 (c9 S22 v66) fun v67=>
 a9 (m7 2 x2) fun v68=>
 a9 (c9 S22 v68) fun v69=>
 a9 (D1 2 v67 v69) fun v70=>
 a9 (m7 1 v70) fun v71=>
 a9 (c9 S22 v71) fun v72=>
 a9 (m7 0 x2) fun v73=>
 a9 (c9 S22 v73) fun v74=>
 a9 (d9 .eql v74 (.int .u8 38)) fun v75=>
 j0 v75
 (u4 S22 1 (p7 1 (List.replicate 2 [(.int .i64 0)]) [(0,x5),(1,v72)]) 2 fun v76 S77=>
 n9 Try.prog E w0 r7 [v76] S77 fun v78 S79=>
 f0 S79 3 x4 v78 fun v80 S81=>
 a9 (i9 S81 3 x4) fun v82=>Q v82 S81)
 (u4 S22 1 (p7 1 (List.replicate 1 [(.int .i64 0)]) [(0,x5)]) 1 fun v83 S84=>
 n9 Try.prog E w0 r7 [v83] S84 fun v85 S86=>
 u4 S86 1 (p7 1 (List.replicate 1 [(.int .i64 0)]) [(0,v72)]) 1 fun v87 S88=>
 n9 Try.prog E w0 f9 [v85,v87] S88 fun v89 S90=>
 f0 S90 3 x4 v89 fun v91 S92=>
 a9 (i9 S92 3 x4) fun v93=>Q v93 S92))))
 (a9 (d9 .eql x25 (.int .u8 39)) fun v94=>
 j0 v94
 (a9 (i9 S 3 x3) fun v95=>
 a9 (m7 1 x2) fun v96=>
 a9 (c9 S v96) fun v97=>
 u4 S 1 (p7 1 (List.replicate 1 [(.int .u8 0)]) [(0,(.int .u8 7))]) 1 fun v98 S99=>
 n9 Try.prog E w0 Y6 [v95,v97,v98] S99 fun v100 S101=>
 a9 (o6 v100 0) fun v102=>
 a9 (o6 v100 1) fun v103=>
 o4 S101 [(.int .u8 0),(.str []), .nilSlc,(.int .i64 0),(.int .i64 0)] fun v104 S105=>
 f0 S105 5 v104 v102 fun v106 S107=>
 a9 (m7 3 v104) fun v108=>
 a9 (c9 S107 v108) fun v109=>
 u4 S107 1 (p7 1 (List.replicate 1 [(.int .i64 0)]) [(0,v109)]) 1 fun v110 S111=>
 n9 Try.prog E w0 r7 [v110] S111 fun v112 S113=>
 u4 S113 1 (p7 1 (List.replicate 1 [(.int .i64 0)]) [(0,x5)]) 1 fun v114 S115=>
 n9 Try.prog E w0 f9 [v112,v114] S115 fun v116 S117=>
 n9 Try.prog E w0 p9 [v116,v103] S117 fun v118 S119=>
 f0 S119 3 x4 v118 fun v120 S121=>
 a9 (i9 S121 3 x4) fun v122=>Q v122 S121)
 (a9 (d9 .eql x25 (.int .u8 40)) fun v123=>
 j0 v123
 (a9 (i9 S 3 x3) fun v124=>
 a9 (m7 1 x2) fun v125=>
 a9 (c9 S v125) fun v126=>
 u4 S 1 (p7 1 (List.replicate 1 [(.int .u8 0)]) [(0,(.int .u8 8))]) 1 fun v127 S128=>
 n9 Try.prog E w0 Y6 [v124,v126,v127] S128 fun v129 S130=>
 a9 (o6 v129 0) fun v131=>
 a9 (o6 v129 1) fun v132=>
 o4 S130 [(.int .u8 0),(.str []), .nilSlc,(.int .i64 0),(.int .i64 0)] fun v133 S134=>
 f0 S134 5 v133 v131 fun v135 S136=>
 n9 Try.prog E w0 r7 [.nilSlc] S136 fun v137 S138=>
 u4 S138 1 (p7 1 (List.replicate 1 [(.int .i64 0)]) [(0,x5)]) 1 fun v139 S140=>
 n9 Try.prog E w0 f9 [v137,v139] S140 fun v141 S142=>
 n9 Try.prog E w0 p9 [v141,v132] S142 fun v143 S144=>
 f0 S144 3 x4 v143 fun v145 S146=>
 a9 (i9 S146 3 x4) fun v147=>Q v147 S146)
 (a9 (d9 .eql x25 (.int .u8 44)) fun v148=>
 j0 v148
 (a9 (i9 S 3 x3) fun v149=>
 a9 (m7 1 x2) fun v150=>
 a9 (c9 S v150) fun v151=>
 u4 S 1 (p7 1 (List.replicate 1 [(.int .u8 0)]) [(0,(.int .u8 8))]) 1 fun v152 S153=>
 n9 Try.prog E w0 Y6 [v149,v151,v152] S153 fun v154 S155=>
 a9 (o6 v154 0) fun v156=>
 a9 (o6 v154 1) fun v157=>
 o4 S155 [(.int .u8 0),(.str []), .nilSlc,(.int .i64 0),(.int .i64 0)] fun v158 S159=>
 f0 S159 5 v158 v156 fun v160 S161=>
 a9 (m7 3 v158) fun v162=>
 a9 (c9 S161 v162) fun v163=>
 u4 S161 1 (p7 1 (List.replicate 2 [(.int .i64 0)]) [(0,x5),(1,v163)]) 2 fun v164 S165=>
 n9 Try.prog E w0 r7 [v164] S165 fun v166 S167=>
 n9 Try.prog E w0 p9 [v166,v157] S167 fun v168 S169=>
 f0 S169 3 x4 v168 fun v170 S171=>
 a9 (i9 S171 3 x4) fun v172=>Q v172 S171)
 (a9 (d9 .eql x25 (.int .u8 45)) fun v173=>
 j0 v173
 (a9 (i9 S 3 x3) fun v174=>
 a9 (m7 1 x2) fun v175=>
 a9 (c9 S v175) fun v176=>
 u4 S 1 (p7 1 (List.replicate 1 [(.int .u8 0)]) [(0,(.int .u8 8))]) 1 fun v177 S178=>
 n9 Try.prog E w0 Y6 [v174,v176,v177] S178 fun v179 S180=>
 a9 (o6 v179 0) fun v181=>
 a9 (o6 v179 1) fun v182=>
 o4 S180 [(.int .u8 0),(.str []), .nilSlc,(.int .i64 0),(.int .i64 0)] fun v183 S184=>
 f0 S184 5 v183 v181 fun v185 S186=>
 ((a9 (m7 3 v183) fun v187=>
 a9 (c9 S186 v187) fun v188=>
 u4 S186 1 (p7 1 (List.replicate 1 [(.int .i64 0)]) [(0,x5)]) 1 fun v189 S190=>
 r9 v187 S186 S190∧n9 Try.prog E w0 r7 [v189] S190 fun v191 S192=>
 r9 v187 S186 S192∧u4 S192 1 (p7 1 (List.replicate 1 [(.int .i64 0)]) [(0,v188)]) 1 fun v193 S194=>
 n9 Try.prog E w0 f9 [v191,v193] S194 fun v195 S196=>
 n9 Try.prog E w0 p9 [v195,v182] S196 fun v197 S198=>
 f0 S198 3 x4 v197 fun v199 S200=>
 a9 (i9 S200 3 x4) fun v201=>Q v201 S200)∧
 (a9 (m7 3 v183) fun v202=>
 a9 (c9 S186 v202) fun v203=>
 u4 S186 1 (p7 1 (List.replicate 1 [(.int .i64 0)]) [(0,x5)]) 1 fun v204 S205=>
 r9 v202 S186 S205∧u4 S205 1 (p7 1 (List.replicate 1 [(.int .i64 0)]) [(0,v203)]) 1 fun v206 S207=>
 n9 Try.prog E w0 r7 [v204] S207 fun v208 S209=>
 n9 Try.prog E w0 f9 [v208,v206] S209 fun v210 S211=>
 n9 Try.prog E w0 p9 [v210,v182] S211 fun v212 S213=>
 f0 S213 3 x4 v212 fun v214 S215=>
 a9 (i9 S215 3 x4) fun v216=>Q v216 S215))∧
 (a9 (m7 3 v183) fun v217=>
 a9 (c9 S186 v217) fun v218=>
 u4 S186 1 (p7 1 (List.replicate 1 [(.int .i64 0)]) [(0,v218)]) 1 fun v219 S220=>
 u4 S220 1 (p7 1 (List.replicate 1 [(.int .i64 0)]) [(0,x5)]) 1 fun v221 S222=>
 n9 Try.prog E w0 r7 [v221] S222 fun v223 S224=>
 n9 Try.prog E w0 f9 [v223,v219] S224 fun v225 S226=>
 n9 Try.prog E w0 p9 [v225,v182] S226 fun v227 S228=>
 f0 S228 3 x4 v227 fun v229 S230=>
 a9 (i9 S230 3 x4) fun v231=>Q v231 S230))
 (a9 (i9 S 3 x3) fun v232=>
 a9 (m7 1 x2) fun v233=>
 a9 (c9 S v233) fun v234=>
 u4 S 1 (p7 1 (List.replicate 2 [(.int .u8 0)]) [(0,(.int .u8 7)),(1,(.int .u8 8))]) 2 fun v235 S236=>
 n9 Try.prog E w0 Y6 [v232,v234,v235] S236 fun v237 S238=>
 a9 (o6 v237 0) fun v239=>
 a9 (o6 v237 1) fun v240=>
 o4 S238 [(.int .u8 0),(.str []), .nilSlc,(.int .i64 0),(.int .i64 0)] fun v241 S242=>
 f0 S242 5 v241 v239 fun v243 S244=>
 a9 (m7 0 x2) fun v245=>
 a9 (c9 S244 v245) fun v246=>
 a9 (d9 .eql v246 (.int .u8 41)) fun v247=>
 j0 v247
 (((a9 (m7 3 v241) fun v248=>
 a9 (c9 S244 v248) fun v249=>
 u4 S244 1 (p7 1 (List.replicate 2 [(.int .i64 0)]) [(0,x5),(1,(.int .i64 3))]) 2 fun v250 S251=>
 r9 v248 S244 S251∧n9 Try.prog E w0 r7 [v250] S251 fun v252 S253=>
 r9 v248 S244 S253∧u4 S253 1 (p7 1 (List.replicate 1 [(.int .i64 0)]) [(0,v249)]) 1 fun v254 S255=>
 n9 Try.prog E w0 f9 [v252,v254] S255 fun v256 S257=>
 n9 Try.prog E w0 p9 [v256,v240] S257 fun v258 S259=>
 f0 S259 3 x4 v258 fun v260 S261=>
 a9 (i9 S261 3 x4) fun v262=>Q v262 S261)∧
 (a9 (m7 3 v241) fun v263=>
 a9 (c9 S244 v263) fun v264=>
 u4 S244 1 (p7 1 (List.replicate 2 [(.int .i64 0)]) [(0,x5),(1,(.int .i64 3))]) 2 fun v265 S266=>
 r9 v263 S244 S266∧u4 S266 1 (p7 1 (List.replicate 1 [(.int .i64 0)]) [(0,v264)]) 1 fun v267 S268=>
 n9 Try.prog E w0 r7 [v265] S268 fun v269 S270=>
 n9 Try.prog E w0 f9 [v269,v267] S270 fun v271 S272=>
 n9 Try.prog E w0 p9 [v271,v240] S272 fun v273 S274=>
 f0 S274 3 x4 v273 fun v275 S276=>
 a9 (i9 S276 3 x4) fun v277=>Q v277 S276))∧
 (a9 (m7 3 v241) fun v278=>
 a9 (c9 S244 v278) fun v279=>
 u4 S244 1 (p7 1 (List.replicate 1 [(.int .i64 0)]) [(0,v279)]) 1 fun v280 S281=>
 u4 S281 1 (p7 1 (List.replicate 2 [(.int .i64 0)]) [(0,x5),(1,(.int .i64 3))]) 2 fun v282 S283=>
 n9 Try.prog E w0 r7 [v282] S283 fun v284 S285=>
 n9 Try.prog E w0 f9 [v284,v280] S285 fun v286 S287=>
 n9 Try.prog E w0 p9 [v286,v240] S287 fun v288 S289=>
 f0 S289 3 x4 v288 fun v290 S291=>
 a9 (i9 S291 3 x4) fun v292=>Q v292 S291))
 (a9 (d9 .eql v246 (.int .u8 42)) fun v293=>
 j0 v293
 (a9 (m7 3 v241) fun v294=>
 a9 (c9 S244 v294) fun v295=>
 u4 S244 1 (p7 1 (List.replicate 3 [(.int .i64 0)]) [(0,x5),(1,(.int .i64 3)),(2,v295)]) 3 fun v296 S297=>
 n9 Try.prog E w0 r7 [v296] S297 fun v298 S299=>
 n9 Try.prog E w0 p9 [v298,v240] S299 fun v300 S301=>
 f0 S301 3 x4 v300 fun v302 S303=>
 a9 (i9 S303 3 x4) fun v304=>Q v304 S303)
 (u4 S244 1 (p7 1 (List.replicate 1 [(.int .i64 0)]) [(0,x5)]) 1 fun v305 S306=>
 n9 Try.prog E w0 r7 [v305] S306 fun v307 S308=>
 u4 S308 1 (p7 1 (List.replicate 1 [(.int .i64 0)]) [(0,(.int .i64 3))]) 1 fun v309 S310=>
 n9 Try.prog E w0 f9 [v307,v309] S310 fun v311 S312=>
 n9 Try.prog E w0 p9 [v311,v240] S312 fun v313 S314=>
 f0 S314 3 x4 v313 fun v315 S316=>
 a9 (i9 S316 3 x4) fun v317=>Q v317 S316)))))))
def a0l(E:l9)(w0:o0)(Q:D→b7→Prop)(x2 x3 x4 x5 x25 x26:D)(S:b7):Prop:=j9 Try.prog E w0 c0W (m9 200 [2,3,4,5,25,26] [x2,x3,x4,x5,x25,x26]) S (b8K E w0 Q)
theorem b6D{E:l9}{w0:o0}{Q:D→b7→Prop}{x2 x3 x4 x5 x25 x26:D}{S:b7}(h:b2N E w0 Q x2 x3 x4 x5 x25 x26 S):a0l E w0 Q x2 x3 x4 x5 x25 x26 S:=k9 a0L a0J a0I o7 (by kernel_rfl) h
def b9b(E:l9)(w0:o0)(Q:D→b7→Prop)(a0 a1:D)(S:b7):Prop:=
 a9 (r4 a0) fun cs=>o4 S cs fun v0 S1=>
 a9 (r4 a1) fun cs=>o4 S1 cs fun v2 S3=>
 o4 S3 [.nilSlc, .nilSlc,(.bool false)] fun v4 S5=>
 a9 (m7 1 v0) fun v6=>
 a9 (c9 S5 v6) fun v7=>
 a9 (m7 0 v0) fun v8=>
 a9 (c9 S5 v8) fun v9=>
 a9 (d9 .eql v9 (.int .u8 36)) fun v318=>
 j0 v318
 (a0l E w0 Q v0 v2 v4 v7 v9 v318 S5)
 (a9 (d9 .eql v9 (.int .u8 37)) fun v319=>
 j0 v319
 (a0l E w0 Q v0 v2 v4 v7 v9 v319 S5)
 (a9 (d9 .eql v9 (.int .u8 38)) fun v320=>
 a0l E w0 Q v0 v2 v4 v7 v9 v320 S5))
theorem c0N{E:l9}{w0:o0}{Q:D→b7→Prop}{a0 a1:D}{S:b7}(h:b9b E w0 (d8 E Q) a0 a1 S):n9 Try.prog E w0 b2W [a0,a1] S Q:=
 m6 a0L a0J a0I (fn:=Try.f90) (c:=Try.f90.body.getD .skip) o7 Try.func90 (by kernel_rfl) (by kernel_rfl) h
def C3:List (Nat×List Nat):=[]
def C0:List (Nat×List Nat):=[(25,[1,2,3,7,8]),(37,[1,2,3,7,18]),(57,[1,2,3,7,29]),(77,[1,2,3,7,40]),(105,[1,2,3,7,49]),(173,[2,3,7,107]),(197,[2,3,117])]
def C2:List (Nat×Arr):=[(6,(.node 0 4 (.leaf [1,2,3,0,4,5,6]) (.leaf [1,2,3,4,0,5,6]))),(28,(.node 1 5 (.node 2 5 (.leaf [0,3,4,1,2,5,6,7]) (.leaf [0,3,4,1,5,2,6,7])) (.leaf [0,3,4,5,1,2,6,7])))]
noncomputable def b8d:Code:=(l8 [1,1,0,1,0,1,1,1,1,1,1,1,1,1,1,1,1,1,1,1,1,1,1,1,1,1,1,1,1,1,1,1,1,1,1,1,1,1] (Try.f91.body.getD .skip))
def b5O(E:l9)(w0:o0)(Q:D→b7→Prop):r0→List D→b7→Prop:=
 (t7 0 (K4 Try.prog E w0 C3 C0 C2 (l8 [1,1,1] (Try.f91.body.getD .skip)) (J6 Try.prog Try.f91 Q)))
def a9G(E:l9)(w0:o0)(Q:D→b7→Prop)(x2 x3 x117:D)(S:b7):Prop:=
 j0 x117
 (n9 Try.prog E w0 r7 [.nilSlc] S fun v219 S220=>
 f0 S220 3 x2 v219 fun v221 S222=>
 a9 (i9 S222 3 x2) fun v223=>Q v223 S222)
 (u4 S 1 (p7 1 (List.replicate 2 [(.int .i64 0)]) [(0,x3),(1,x3)]) 2 fun v224 S225=>
 n9 Try.prog E w0 r7 [v224] S225 fun v226 S227=>
 u4 S227 1 (p7 1 (List.replicate 1 [(.int .i64 0)]) [(0,x3)]) 1 fun v228 S229=>
 n9 Try.prog E w0 f9 [v226,v228] S229 fun v230 S231=>
 f0 S231 3 x2 v230 fun v232 S233=>
 a9 (i9 S233 3 x2) fun v234=>Q v234 S233)
def P2(E:l9)(w0:o0)(Q:D→b7→Prop)(x2 x3 x117:D)(S:b7):Prop:=j9 Try.prog E w0 b8d (m9 129 [2,3,117] [x2,x3,x117]) S (b5O E w0 Q)
theorem b3C{E:l9}{w0:o0}{Q:D→b7→Prop}{x2 x3 x117:D}{S:b7}(h:a9G E w0 Q x2 x3 x117 S):P2 E w0 Q x2 x3 x117 S:=k9 C3 C0 C2 o7 (by kernel_rfl) h
noncomputable def b8g:Code:=(l8 [1,1,0,1,0,1,1,1,1,1,1,1,1,1,1,1,1,1,1,1,1,1,1,1,1,1,1,1,1,1,1,1,1,1] (Try.f91.body.getD .skip))
def b5R(E:l9)(w0:o0)(Q:D→b7→Prop):r0→List D→b7→Prop:=
 (t7 0 (K4 Try.prog E w0 C3 C0 C2 (l8 [1,1,1] (Try.f91.body.getD .skip)) (J6 Try.prog Try.f91 Q)))
def a9x(E:l9)(w0:o0)(Q:D→b7→Prop)(x2 x3 x7 x107:D)(S:b7):Prop:=
 j0 x107
 (u4 S 1 (p7 1 (List.replicate 1 [(.int .i64 0)]) [(0,(.int .i64 4))]) 1 fun v204 S205=>
 n9 Try.prog E w0 r7 [v204] S205 fun v206 S207=>
 f0 S207 3 x2 v206 fun v208 S209=>
 a9 (i9 S209 3 x2) fun v210=>Q v210 S209)
 (a9 (d9 .eql x7 (.int .u8 49)) fun v211=>
 j0 v211
 (u4 S 1 (p7 1 (List.replicate 1 [(.int .i64 0)]) [(0,x3)]) 1 fun v212 S213=>
 n9 Try.prog E w0 r7 [v212] S213 fun v214 S215=>
 f0 S215 3 x2 v214 fun v216 S217=>
 a9 (i9 S217 3 x2) fun v218=>Q v218 S217)
 (a9 (d9 .eql x7 (.int .u8 46)) fun v235=>
 j0 v235
 (P2 E w0 Q x2 x3 v235 S)
 (a9 (d9 .eql x7 (.int .u8 51)) fun v236=>
 j0 v236
 (P2 E w0 Q x2 x3 v236 S)
 (a9 (d9 .eql x7 (.int .u8 52)) fun v237=>
 P2 E w0 Q x2 x3 v237 S))))
def a0i(E:l9)(w0:o0)(Q:D→b7→Prop)(x2 x3 x7 x107:D)(S:b7):Prop:=j9 Try.prog E w0 b8g (m9 129 [2,3,7,107] [x2,x3,x7,x107]) S (b5R E w0 Q)
theorem b3f{E:l9}{w0:o0}{Q:D→b7→Prop}{x2 x3 x7 x107:D}{S:b7}(h:a9x E w0 Q x2 x3 x7 x107 S):a0i E w0 Q x2 x3 x7 x107 S:=k9 C3 C0 C2 o7 (by kernel_rfl) h
noncomputable def b8b:Code:=(l8 [1,1,0,1,0,1,1,1,1,1,1,1,1,1,1,1,1,1] (Try.f91.body.getD .skip))
def b6t(E:l9)(w0:o0)(Q:D→b7→Prop):r0→List D→b7→Prop:=
 (t7 0 (K4 Try.prog E w0 C3 C0 C2 (l8 [1,1,1] (Try.f91.body.getD .skip)) (J6 Try.prog Try.f91 Q)))
def a9t(E:l9)(w0:o0)(Q:D→b7→Prop)(x1 x2 x3 x7 x49:D)(S:b7):Prop:=
 j0 x49
 (u4 S 1 (p7 1 (List.replicate 2 [(.int .i64 0)]) [(0,x3),(1,x3)]) 2 fun v81 S82=>
 n9 Try.prog E w0 r7 [v81] S82 fun v83 S84=>
 u4 S84 1 (p7 1 (List.replicate 1 [(.int .i64 0)]) [(0,(.int .i64 4))]) 1 fun v85 S86=>
 n9 Try.prog E w0 f9 [v83,v85] S86 fun v87 S88=>
 f0 S88 3 x2 v87 fun v89 S90=>
 a9 (i9 S90 3 x2) fun v91=>Q v91 S90)
 (a9 (d9 .eql x7 (.int .u8 29)) fun v92=>
 j0 v92
 (((a9 (m7 2 x1) fun v93=>
 a9 (c9 S v93) fun v94=>
 u4 S 1 (p7 1 (List.replicate 1 [(.int .i64 0)]) [(0,x3)]) 1 fun v95 S96=>
 r9 v93 S S96∧n9 Try.prog E w0 r7 [v95] S96 fun v97 S98=>
 r9 v93 S S98∧u4 S98 1 (p7 1 (List.replicate 1 [(.int .i64 0)]) [(0,v94)]) 1 fun v99 S100=>
 n9 Try.prog E w0 f9 [v97,v99] S100 fun v101 S102=>
 f0 S102 3 x2 v101 fun v103 S104=>
 a9 (i9 S104 3 x2) fun v105=>Q v105 S104)∧
 (a9 (m7 2 x1) fun v106=>
 a9 (c9 S v106) fun v107=>
 u4 S 1 (p7 1 (List.replicate 1 [(.int .i64 0)]) [(0,x3)]) 1 fun v108 S109=>
 r9 v106 S S109∧u4 S109 1 (p7 1 (List.replicate 1 [(.int .i64 0)]) [(0,v107)]) 1 fun v110 S111=>
 n9 Try.prog E w0 r7 [v108] S111 fun v112 S113=>
 n9 Try.prog E w0 f9 [v112,v110] S113 fun v114 S115=>
 f0 S115 3 x2 v114 fun v116 S117=>
 a9 (i9 S117 3 x2) fun v118=>Q v118 S117))∧
 (a9 (m7 2 x1) fun v119=>
 a9 (c9 S v119) fun v120=>
 u4 S 1 (p7 1 (List.replicate 1 [(.int .i64 0)]) [(0,v120)]) 1 fun v121 S122=>
 u4 S122 1 (p7 1 (List.replicate 1 [(.int .i64 0)]) [(0,x3)]) 1 fun v123 S124=>
 n9 Try.prog E w0 r7 [v123] S124 fun v125 S126=>
 n9 Try.prog E w0 f9 [v125,v121] S126 fun v127 S128=>
 f0 S128 3 x2 v127 fun v129 S130=>
 a9 (i9 S130 3 x2) fun v131=>Q v131 S130))
 (a9 (d9 .eql x7 (.int .u8 30)) fun v132=>
 j0 v132
 (u4 S 1 (p7 1 (List.replicate 1 [(.int .i64 0)]) [(0,(.int .i64 4))]) 1 fun v133 S134=>
 n9 Try.prog E w0 r7 [v133] S134 fun v135 S136=>
 u4 S136 1 (p7 1 (List.replicate 1 [(.int .i64 0)]) [(0,(.int .i64 4))]) 1 fun v137 S138=>
 n9 Try.prog E w0 f9 [v135,v137] S138 fun v139 S140=>
 f0 S140 3 x2 v139 fun v141 S142=>
 a9 (i9 S142 3 x2) fun v143=>Q v143 S142)
 (a9 (d9 .eql x7 (.int .u8 31)) fun v144=>
 j0 v144
 (u4 S 1 (p7 1 (List.replicate 2 [(.int .i64 0)]) [(0,(.int .i64 5)),(1,(.int .i64 5))]) 2 fun v145 S146=>
 n9 Try.prog E w0 r7 [v145] S146 fun v147 S148=>
 u4 S148 1 (p7 1 (List.replicate 1 [(.int .i64 0)]) [(0,(.int .i64 5))]) 1 fun v149 S150=>
 n9 Try.prog E w0 f9 [v147,v149] S150 fun v151 S152=>
 f0 S152 3 x2 v151 fun v153 S154=>
 a9 (i9 S154 3 x2) fun v155=>Q v155 S154)
 (a9 (d9 .eql x7 (.int .u8 32)) fun v156=>
 j0 v156
 (u4 S 1 (p7 1 (List.replicate 1 [(.int .i64 0)]) [(0,(.int .i64 5))]) 1 fun v157 S158=>
 n9 Try.prog E w0 r7 [v157] S158 fun v159 S160=>
 u4 S160 1 (p7 1 (List.replicate 1 [(.int .i64 0)]) [(0,(.int .i64 3))]) 1 fun v161 S162=>
 n9 Try.prog E w0 f9 [v159,v161] S162 fun v163 S164=>
 f0 S164 3 x2 v163 fun v165 S166=>
 a9 (i9 S166 3 x2) fun v167=>Q v167 S166)
 (a9 (d9 .eql x7 (.int .u8 33)) fun v168=>
 j0 v168
 (u4 S 1 (p7 1 (List.replicate 2 [(.int .i64 0)]) [(0,(.int .i64 5)),(1,(.int .i64 3))]) 2 fun v169 S170=>
 n9 Try.prog E w0 r7 [v169] S170 fun v171 S172=>
 u4 S172 1 (p7 1 (List.replicate 1 [(.int .i64 0)]) [(0,(.int .i64 2))]) 1 fun v173 S174=>
 n9 Try.prog E w0 f9 [v171,v173] S174 fun v175 S176=>
 f0 S176 3 x2 v175 fun v177 S178=>
 a9 (i9 S178 3 x2) fun v179=>Q v179 S178)
 (a9 (d9 .eql x7 (.int .u8 34)) fun v180=>
 j0 v180
 (u4 S 1 (p7 1 (List.replicate 3 [(.int .i64 0)]) [(0,(.int .i64 5)),(1,(.int .i64 3)),(2,(.int .i64 3))]) 3 fun v181 S182=>
 n9 Try.prog E w0 r7 [v181] S182 fun v183 S184=>
 u4 S184 1 (p7 1 (List.replicate 1 [(.int .i64 0)]) [(0,(.int .i64 5))]) 1 fun v185 S186=>
 n9 Try.prog E w0 f9 [v183,v185] S186 fun v187 S188=>
 f0 S188 3 x2 v187 fun v189 S190=>
 a9 (i9 S190 3 x2) fun v191=>Q v191 S190)
 (a9 (d9 .eql x7 (.int .u8 35)) fun v192=>
 j0 v192
 (u4 S 1 (p7 1 (List.replicate 1 [(.int .i64 0)]) [(0,(.int .i64 2))]) 1 fun v193 S194=>
 n9 Try.prog E w0 r7 [v193] S194 fun v195 S196=>
 u4 S196 1 (p7 1 (List.replicate 1 [(.int .i64 0)]) [(0,(.int .i64 5))]) 1 fun v197 S198=>
 n9 Try.prog E w0 f9 [v195,v197] S198 fun v199 S200=>
 f0 S200 3 x2 v199 fun v201 S202=>
 a9 (i9 S202 3 x2) fun v203=>Q v203 S202)
 (a9 (d9 .eql x7 (.int .u8 47)) fun v238=>
 j0 v238
 (a0i E w0 Q x2 x3 x7 v238 S)
 (a9 (d9 .eql x7 (.int .u8 48)) fun v239=>
 a0i E w0 Q x2 x3 x7 v239 S)))))))))
def F0(E:l9)(w0:o0)(Q:D→b7→Prop)(x1 x2 x3 x7 x49:D)(S:b7):Prop:=j9 Try.prog E w0 b8b (m9 129 [1,2,3,7,49] [x1,x2,x3,x7,x49]) S (b6t E w0 Q)
theorem b3D{E:l9}{w0:o0}{Q:D→b7→Prop}{x1 x2 x3 x7 x49:D}{S:b7}(h:a9t E w0 Q x1 x2 x3 x7 x49 S):F0 E w0 Q x1 x2 x3 x7 x49 S:=k9 C3 C0 C2 o7 (by kernel_rfl) h
noncomputable def c0n:Code:=(l8 [1,1,0,1,0,1,1,1,1,1,1,1,1,1,1,1] (Try.f91.body.getD .skip))
def b8e(E:l9)(w0:o0)(Q:D→b7→Prop):r0→List D→b7→Prop:=
 (t7 0 (K4 Try.prog E w0 C3 C0 C2 (l8 [1,1,1] (Try.f91.body.getD .skip)) (J6 Try.prog Try.f91 Q)))
def b1p(E:l9)(w0:o0)(Q:D→b7→Prop)(x1 x2 x3 x7 x40:D)(S:b7):Prop:=
 j0 x40
 (u4 S 1 (p7 1 (List.replicate 1 [(.int .i64 0)]) [(0,x3)]) 1 fun v70 S71=>
 n9 Try.prog E w0 r7 [v70] S71 fun v72 S73=>
 u4 S73 1 (p7 1 (List.replicate 1 [(.int .i64 0)]) [(0,x3)]) 1 fun v74 S75=>
 n9 Try.prog E w0 f9 [v72,v74] S75 fun v76 S77=>
 f0 S77 3 x2 v76 fun v78 S79=>
 a9 (i9 S79 3 x2) fun v80=>Q v80 S79)
 (a9 (d9 .eql x7 (.int .u8 23)) fun v240=>
 j0 v240
 (F0 E w0 Q x1 x2 x3 x7 v240 S)
 (a9 (d9 .eql x7 (.int .u8 24)) fun v241=>
 j0 v241
 (F0 E w0 Q x1 x2 x3 x7 v241 S)
 (a9 (d9 .eql x7 (.int .u8 25)) fun v242=>
 j0 v242
 (F0 E w0 Q x1 x2 x3 x7 v242 S)
 (a9 (d9 .eql x7 (.int .u8 26)) fun v243=>
 j0 v243
 (F0 E w0 Q x1 x2 x3 x7 v243 S)
 (a9 (d9 .eql x7 (.int .u8 27)) fun v244=>
 j0 v244
 (F0 E w0 Q x1 x2 x3 x7 v244 S)
 (a9 (d9 .eql x7 (.int .u8 28)) fun v245=>
 F0 E w0 Q x1 x2 x3 x7 v245 S))))))
def a0E(E:l9)(w0:o0)(Q:D→b7→Prop)(x1 x2 x3 x7 x40:D)(S:b7):Prop:=j9 Try.prog E w0 c0n (m9 129 [1,2,3,7,40] [x1,x2,x3,x7,x40]) S (b8e E w0 Q)
theorem b4z{E:l9}{w0:o0}{Q:D→b7→Prop}{x1 x2 x3 x7 x40:D}{S:b7}(h:b1p E w0 Q x1 x2 x3 x7 x40 S):a0E E w0 Q x1 x2 x3 x7 x40 S:=k9 C3 C0 C2 o7 (by kernel_rfl) h
noncomputable def b8u:Code:=(l8 [1,1,0,1,0,1,1,1,1,1,1,1] (Try.f91.body.getD .skip))
def b7N(E:l9)(w0:o0)(Q:D→b7→Prop):r0→List D→b7→Prop:=
 (t7 0 (K4 Try.prog E w0 C3 C0 C2 (l8 [1,1,1] (Try.f91.body.getD .skip)) (J6 Try.prog Try.f91 Q)))
def b0k(E:l9)(w0:o0)(Q:D→b7→Prop)(x1 x2 x3 x7 x29:D)(S:b7):Prop:=
 j0 x29
 (u4 S 1 (p7 1 (List.replicate 1 [(.int .i64 0)]) [(0,(.int .i64 0))]) 1 fun v51 S52=>
 n9 Try.prog E w0 r7 [v51] S52 fun v53 S54=>
 f0 S54 3 x2 v53 fun v55 S56=>
 a9 (i9 S56 3 x2) fun v57=>Q v57 S56)
 (a9 (d9 .eql x7 (.int .u8 10)) fun v58=>
 j0 v58
 (u4 S 1 (p7 1 (List.replicate 1 [(.int .i64 0)]) [(0,(.int .i64 0))]) 1 fun v59 S60=>
 n9 Try.prog E w0 r7 [v59] S60 fun v61 S62=>
 u4 S62 1 (p7 1 (List.replicate 2 [(.int .i64 0)]) [(0,(.int .i64 0)),(1,(.int .i64 0))]) 2 fun v63 S64=>
 n9 Try.prog E w0 f9 [v61,v63] S64 fun v65 S66=>
 f0 S66 3 x2 v65 fun v67 S68=>
 a9 (i9 S68 3 x2) fun v69=>Q v69 S68)
 (a9 (d9 .eql x7 (.int .u8 21)) fun v246=>
 j0 v246
 (a0E E w0 Q x1 x2 x3 x7 v246 S)
 (a9 (d9 .eql x7 (.int .u8 22)) fun v247=>
 a0E E w0 Q x1 x2 x3 x7 v247 S)))
def a0F(E:l9)(w0:o0)(Q:D→b7→Prop)(x1 x2 x3 x7 x29:D)(S:b7):Prop:=j9 Try.prog E w0 b8u (m9 129 [1,2,3,7,29] [x1,x2,x3,x7,x29]) S (b7N E w0 Q)
theorem b5z{E:l9}{w0:o0}{Q:D→b7→Prop}{x1 x2 x3 x7 x29:D}{S:b7}(h:b0k E w0 Q x1 x2 x3 x7 x29 S):a0F E w0 Q x1 x2 x3 x7 x29 S:=k9 C3 C0 C2 o7 (by kernel_rfl) h
noncomputable def b9L:Code:=(l8 [1,1,0,1,0,1,1,1] (Try.f91.body.getD .skip))
def b7L(E:l9)(w0:o0)(Q:D→b7→Prop):r0→List D→b7→Prop:=
 (t7 0 (K4 Try.prog E w0 C3 C0 C2 (l8 [1,1,1] (Try.f91.body.getD .skip)) (J6 Try.prog Try.f91 Q)))
def b1m(E:l9)(w0:o0)(Q:D→b7→Prop)(x1 x2 x3 x7 x18:D)(S:b7):Prop:=
 j0 x18
 (n9 Try.prog E w0 r7 [.nilSlc] S fun v32 S33=>
 u4 S33 1 (p7 1 (List.replicate 1 [(.int .i64 0)]) [(0,(.int .i64 4))]) 1 fun v34 S35=>
 n9 Try.prog E w0 f9 [v32,v34] S35 fun v36 S37=>
 f0 S37 3 x2 v36 fun v38 S39=>
 a9 (i9 S39 3 x2) fun v40=>Q v40 S39)
 (a9 (d9 .eql x7 (.int .u8 7)) fun v41=>
 j0 v41
 (n9 Try.prog E w0 r7 [.nilSlc] S fun v42 S43=>
 u4 S43 1 (p7 1 (List.replicate 1 [(.int .i64 0)]) [(0,(.int .i64 0))]) 1 fun v44 S45=>
 n9 Try.prog E w0 f9 [v42,v44] S45 fun v46 S47=>
 f0 S47 3 x2 v46 fun v48 S49=>
 a9 (i9 S49 3 x2) fun v50=>Q v50 S49)
 (a9 (d9 .eql x7 (.int .u8 8)) fun v248=>
 j0 v248
 (a0F E w0 Q x1 x2 x3 x7 v248 S)
 (a9 (d9 .eql x7 (.int .u8 9)) fun v249=>
 a0F E w0 Q x1 x2 x3 x7 v249 S)))
def a1b(E:l9)(w0:o0)(Q:D→b7→Prop)(x1 x2 x3 x7 x18:D)(S:b7):Prop:=j9 Try.prog E w0 b9L (m9 129 [1,2,3,7,18] [x1,x2,x3,x7,x18]) S (b7L E w0 Q)
theorem b5a{E:l9}{w0:o0}{Q:D→b7→Prop}{x1 x2 x3 x7 x18:D}{S:b7}(h:b1m E w0 Q x1 x2 x3 x7 x18 S):a1b E w0 Q x1 x2 x3 x7 x18 S:=k9 C3 C0 C2 o7 (by kernel_rfl) h
noncomputable def b8R:Code:=(l8 [1,1,0,1,0,1] (Try.f91.body.getD .skip))
def b7S(E:l9)(w0:o0)(Q:D→b7→Prop):r0→List D→b7→Prop:=
 (t7 0 (K4 Try.prog E w0 C3 C0 C2 (l8 [1,1,1] (Try.f91.body.getD .skip)) (J6 Try.prog Try.f91 Q)))
def b1G(E:l9)(w0:o0)(Q:D→b7→Prop)(x1 x2 x3 x7 x8:D)(S:b7):Prop:=
 j0 x8
 ((a9 (m7 0 x1) fun v8=>
 a9 (c9 S v8) fun v9=>
 a9 (H7 .i64 v9) fun v10=>
 n9 Try.prog E w0 r7 [.nilSlc] S fun v11 S12=>
 r9 v8 S S12∧u4 S12 1 (p7 1 (List.replicate 1 [(.int .i64 0)]) [(0,v10)]) 1 fun v13 S14=>
 n9 Try.prog E w0 f9 [v11,v13] S14 fun v15 S16=>
 f0 S16 3 x2 v15 fun v17 S18=>
 a9 (i9 S18 3 x2) fun v19=>Q v19 S18)∧
 (a9 (m7 0 x1) fun v20=>
 a9 (c9 S v20) fun v21=>
 a9 (H7 .i64 v21) fun v22=>
 u4 S 1 (p7 1 (List.replicate 1 [(.int .i64 0)]) [(0,v22)]) 1 fun v23 S24=>
 n9 Try.prog E w0 r7 [.nilSlc] S24 fun v25 S26=>
 n9 Try.prog E w0 f9 [v25,v23] S26 fun v27 S28=>
 f0 S28 3 x2 v27 fun v29 S30=>
 a9 (i9 S30 3 x2) fun v31=>Q v31 S30))
 (a9 (d9 .eql x7 (.int .u8 4)) fun v250=>
 j0 v250
 (a1b E w0 Q x1 x2 x3 x7 v250 S)
 (a9 (d9 .eql x7 (.int .u8 5)) fun v251=>
 a1b E w0 Q x1 x2 x3 x7 v251 S))
def X1(E:l9)(w0:o0)(Q:D→b7→Prop)(x1 x2 x3 x7 x8:D)(S:b7):Prop:=j9 Try.prog E w0 b8R (m9 129 [1,2,3,7,8] [x1,x2,x3,x7,x8]) S (b7S E w0 Q)
theorem b5v{E:l9}{w0:o0}{Q:D→b7→Prop}{x1 x2 x3 x7 x8:D}{S:b7}(h:b1G E w0 Q x1 x2 x3 x7 x8 S):X1 E w0 Q x1 x2 x3 x7 x8 S:=k9 C3 C0 C2 o7 (by kernel_rfl) h
def b7l(E:l9)(w0:o0)(Q:D→b7→Prop)(a0:D)(S:b7):Prop:=
 a9 (r4 a0) fun cs=>o4 S cs fun v0 S1=>
 o4 S1 [.nilSlc, .nilSlc,(.bool false)] fun v2 S3=>
 a9 (m7 1 v0) fun v4=>
 a9 (c9 S3 v4) fun v5=>
 a9 (m7 0 v0) fun v6=>
 a9 (c9 S3 v6) fun v7=>
 a9 (d9 .eql v7 (.int .u8 1)) fun v252=>
 j0 v252
 (X1 E w0 Q v0 v2 v5 v7 v252 S3)
 (a9 (d9 .eql v7 (.int .u8 2)) fun v253=>
 j0 v253
 (X1 E w0 Q v0 v2 v5 v7 v253 S3)
 (a9 (d9 .eql v7 (.int .u8 3)) fun v254=>
 X1 E w0 Q v0 v2 v5 v7 v254 S3))
theorem b9Y{E:l9}{w0:o0}{Q:D→b7→Prop}{a0:D}{S:b7}(h:b7l E w0 (d8 E Q) a0 S):n9 Try.prog E w0 b0L [a0] S Q:=
 m6 C3 C0 C2 (fn:=Try.f91) (c:=Try.f91.body.getD .skip) o7 Try.func91 (by kernel_rfl) (by kernel_rfl) h
def b4I:List (Nat×List Nat):=[]
def b4c:List (Nat×List Nat):=[(26,[7])]
def b5r:List (Nat×Arr):=[(6,(.node 0 1 (.leaf [3,4,5,6,7,8,0,1,2,9,10]) (.leaf [3,4,5,6,7,8,1,0,2,9,10]))),(10,(.leaf [0,1,4,5,2,3,6,7,8]))]
noncomputable def b8V:Code:=(l8 [1,1,1,1] (Try.f77.body.getD .skip))
def b7B(E:l9)(w0:o0)(Q:D→b7→Prop):r0→List D→b7→Prop:=
 (J6 Try.prog Try.f77 Q)
def b1z(E:l9)(w0:o0)(Q:D→b7→Prop)(x7:D)(S:b7):Prop:=
 a9 (m7 2 x7) fun v10=>
 a9 (c9 S v10) fun v11=>
 a9 (unD .not v11) fun v12=>
 j0 v12
 (Q (.tup [.nilSlc, .nilSlc,(.int .i64 2)]) S)
 (a9 (m7 0 x7) fun v13=>
 a9 (c9 S v13) fun v14=>
 a9 (m7 1 x7) fun v15=>
 a9 (c9 S v15) fun v16=>
 Q (.tup [v14,v16,(.int .i64 0)]) S)
def H5(E:l9)(w0:o0)(Q:D→b7→Prop)(x7:D)(S:b7):Prop:=j9 Try.prog E w0 b8V (m9 71 [7] [x7]) S (b7B E w0 Q)
theorem b4n{E:l9}{w0:o0}{Q:D→b7→Prop}{x7:D}{S:b7}(h:b1z E w0 Q x7 S):H5 E w0 Q x7 S:=k9 b4I b4c b5r o7 (by kernel_rfl) h
def b7m(E:l9)(w0:o0)(Q:D→b7→Prop)(a0 a1:D)(S:b7):Prop:=
 a9 (r4 a0) fun cs=>o4 S cs fun v0 S1=>
 a9 (r4 a1) fun cs=>o4 S1 cs fun v2 S3=>
 a9 (i9 S3 4 v0) fun v4=>
 n9 Try.prog E w0 b2V [v4] S3 fun v5 S6=>
 a9 (d9 .eql v5 (.int .i64 0)) fun v7=>
 j0 v7
 (Q (.tup [.nilSlc, .nilSlc,(.int .i64 120)]) S6)
 (o4 S6 [.nilSlc, .nilSlc,(.bool false)] fun v8 S9=>
 a9 (m7 0 v0) fun v17=>
 a9 (c9 S9 v17) fun v18=>
 a9 (d9 .eql v18 (.int .u8 6)) fun v19=>
 j0 v19
 ((a9 (m7 1 v0) fun v20=>
 a9 (c9 S9 v20) fun v21=>
 a9 (m7 1 v2) fun v22=>
 a9 (c9 S9 v22) fun v23=>
 a9 (r6 v23) fun v24=>
 a9 (d9 .lss v21 v24) fun v25=>
 n9 Try.prog E w0 r7 [.nilSlc] S9 fun v26 S27=>
 r9 v20 S9 S27∧r9 v22 S9 S27∧u4 S27 1 (p7 1 (List.replicate 1 [(.int .i64 0)]) [(0,(.int .i64 5))]) 1 fun v28 S29=>
 r9 v20 S9 S29∧r9 v22 S9 S29∧n9 Try.prog E w0 f9 [v26,v28] S29 fun v30 S31=>
 r9 v20 S9 S31∧r9 v22 S9 S31∧n9 Try.prog E w0 p9 [v30,v25] S31 fun v32 S33=>
 f0 S33 3 v8 v32 fun v34 S35=>
 H5 E w0 Q v8 S35)∧
 (a9 (m7 1 v0) fun v36=>
 a9 (c9 S9 v36) fun v37=>
 a9 (m7 1 v2) fun v38=>
 a9 (c9 S9 v38) fun v39=>
 a9 (r6 v39) fun v40=>
 a9 (d9 .lss v37 v40) fun v41=>
 u4 S9 1 (p7 1 (List.replicate 1 [(.int .i64 0)]) [(0,(.int .i64 5))]) 1 fun v42 S43=>
 r9 v36 S9 S43∧r9 v38 S9 S43∧n9 Try.prog E w0 r7 [.nilSlc] S43 fun v44 S45=>
 r9 v36 S9 S45∧r9 v38 S9 S45∧n9 Try.prog E w0 f9 [v44,v42] S45 fun v46 S47=>
 r9 v36 S9 S47∧r9 v38 S9 S47∧n9 Try.prog E w0 p9 [v46,v41] S47 fun v48 S49=>
 f0 S49 3 v8 v48 fun v50 S51=>
 H5 E w0 Q v8 S51))
 (a9 (m7 0 v0) fun v52=>
 a9 (c9 S9 v52) fun v53=>
 a9 (d9 .eql v53 (.int .u8 50)) fun v54=>
 j0 v54
 (a9 (m7 1 v0) fun v55=>
 a9 (c9 S9 v55) fun v56=>
 a9 (m7 2 v2) fun v57=>
 a9 (c9 S9 v57) fun v58=>
 a9 (r6 v58) fun v59=>
 a9 (d9 .lss v56 v59) fun v60=>
 j0 v60
 (a9 (m7 2 v2) fun v61=>
 a9 (c9 S9 v61) fun v62=>
 a9 (m7 1 v0) fun v63=>
 a9 (c9 S9 v63) fun v64=>
 a9 (D1 6 v62 v64) fun v65=>
 a9 (i9 S9 6 v65) fun v66=>
 o4 S9 [(.str []), .nilSlc, .nilSlc,(.int .i64 0),(.int .i64 0), .nilSlc] fun v67 S68=>
 f0 S68 6 v67 v66 fun v69 S70=>
 a9 (m7 1 v67) fun v71=>
 a9 (c9 S70 v71) fun v72=>
 a9 (m7 2 v67) fun v73=>
 a9 (c9 S70 v73) fun v74=>
 n9 Try.prog E w0 N7 [v72] S70 fun v75 S76=>
 r9 v73 S70 S76∧n9 Try.prog E w0 r7 [v75] S76 fun v77 S78=>
 r9 v73 S70 S78∧n9 Try.prog E w0 N7 [v74] S78 fun v79 S80=>
 n9 Try.prog E w0 f9 [v77,v79] S80 fun v81 S82=>
 f0 S82 3 v8 v81 fun v83 S84=>
 H5 E w0 Q v8 S84)
 (H5 E w0 Q v8 S9))
 (a9 (m7 0 v0) fun v85=>
 a9 (c9 S9 v85) fun v86=>
 a9 (d9 .geq v86 (.int .u8 36)) fun v87=>
 a9 (j8 (d6 v87 true) (m7 0 v0)) fun v88=>
 a9 (j8 (d6 v87 true) (c9 S9 v88)) fun v89=>
 a9 (j8 (d6 v87 true) (d9 .leq v89 (.int .u8 45))) fun v90=>
 a9 (w8 v87 v90 (.bool false)) fun v91=>
 j0 v91
 (a9 (i9 S9 4 v0) fun v92=>
 a9 (i9 S9 3 v2) fun v93=>
 n9 Try.prog E w0 b2W [v92,v93] S9 fun v94 S95=>
 f0 S95 3 v8 v94 fun v96 S97=>
 H5 E w0 Q v8 S97)
 (a9 (i9 S9 4 v0) fun v98=>
 n9 Try.prog E w0 b0L [v98] S9 fun v99 S100=>
 f0 S100 3 v8 v99 fun v101 S102=>
 H5 E w0 Q v8 S102))))
theorem c0c{E:l9}{w0:o0}{Q:D→b7→Prop}{a0 a1:D}{S:b7}(h:b7m E w0 (d8 E Q) a0 a1 S):n9 Try.prog E w0 a6s [a0,a1] S Q:=
 m6 b4I b4c b5r (fn:=Try.f77) (c:=Try.f77.body.getD .skip) o7 Try.func77 (by kernel_rfl) (by kernel_rfl) h
def b2q:List (Nat×List Nat):=[]
def b2t:List (Nat×List Nat):=[]
def b2a:List (Nat×Arr):=[]
def a1R(E:l9)(w0:o0)(Q:D→b7→Prop)(a0:D)(S:b7):Prop:=
 a9 (b1n .eql (c4u a0 .nilSlc)) fun v0=>
 j0 v0
 (Q .nilSlc S)
 (u4 S 1 (p7 1 (List.replicate 0 [(.int .i64 0)]) []) 0 fun v1 S2=>
 y8 S2 1 8 v1 a0 fun v3 S4=>
 Q v3 S4)
theorem a2W{E:l9}{w0:o0}{Q:D→b7→Prop}{a0:D}{S:b7}(h:a1R E w0 (d8 E Q) a0 S):n9 Try.prog E w0 N7 [a0] S Q:=
 m6 b2q b2t b2a (fn:=Try.f89) (c:=Try.f89.body.getD .skip) o7 Try.func89 (by kernel_rfl) (by kernel_rfl) h
def a6M:List (Nat×List Nat):=[]
def a6Z:List (Nat×List Nat):=[]
def a6X:List (Nat×Arr):=[]
def a2b(E:l9)(w0:o0)(Q:D→b7→Prop)(a0 a1:D)(S:b7):Prop:=
 n9 Try.prog E w0 a0K [a0,a1] S fun v0 S1=>
 a9 (d9 .geq v0 (.int .i64 0)) fun v2=>
 Q v2 S1
theorem a5X{E:l9}{w0:o0}{Q:D→b7→Prop}{a0 a1:D}{S:b7}(h:a2b E w0 (d8 E Q) a0 a1 S):n9 Try.prog E w0 Y1 [a0,a1] S Q:=
 m6 a6M a6Z a6X (fn:=Try.f99) (c:=Try.f99.body.getD .skip) o7 Try.func99 (by kernel_rfl) (by kernel_rfl) h
def a0v:List (Nat×List Nat):=[(4,[0,1,7,8])]
def a0q:List (Nat×List Nat):=[]
def a0u:List (Nat×Arr):=[]
noncomputable def Z4:Code:=(l8 [1,0,1,0,0] (Try.f100.body.getD .skip))
def Y8(E:l9)(w0:o0)(Q:D→b7→Prop):r0→List D→b7→Prop:=
 (t7 0 (K4 Try.prog E w0 a0v a0q a0u (l8 [1,1] (Try.f100.body.getD .skip)) (J6 Try.prog Try.f100 Q)))
def Z8(E:l9)(w0:o0)(N0:D→D→D→D→b7→Prop)(Q:D→b7→Prop)(x0 x1 x7 x8:D)(S:b7):Prop:=
 a9 (d9 .lss x8 x7) fun v1=>
 j0 v1
 (a9 (D1 1 x0 x8) fun v2=>
 a9 (c9 S v2) fun v3=>
 a9 (d9 .eql x1 v3) fun v4=>
 j0 v4
 (Q x8 S)
 (a9 (d9 .add x8 (.int .i64 1)) fun v5=>
 N0 x0 x1 x7 v5 S))
 (Q (.int .i64 (-1)) S)
theorem a6f{E:l9}{w0:o0}{N0:D→D→D→D→b7→Prop}{Q:D→b7→Prop}{x0 x1 x7 x8:D}{S:b7}(h:Z8 E w0 N0 Q x0 x1 x7 x8 S):
  j9 Try.prog E w0 Z4 (m9 19 [0,1,7,8] [x0,x1,x7,x8]) S (D8 (fun T S=>N0 (T.getD 0 b8) (T.getD 1 b8) (T.getD 7 b8) (T.getD 8 b8) S) (Y8 E w0 Q)):=k9 a0v a0q a0u o7 (by kernel_rfl) h
theorem a6h{E:l9}{w0:o0}{Q:D→b7→Prop}(I:Nat→D→D→D→D→b7→Prop)
  (step:∀n x0 x1 x7 x8 S,I n x0 x1 x7 x8 S→Z8 E w0 (fun x0 x1 x7 x8 S=>∃m,m<n∧I m x0 x1 x7 x8 S) Q x0 x1 x7 x8 S)
  {n:Nat} {x0 x1 x7 x8:D} {S:b7} (h:I n x0 x1 x7 x8 S):j9 Try.prog E w0 (.loop Z4) (m9 19 [0,1,7,8] [x0,x1,x7,x8]) S (Y8 E w0 Q):=
 s0 (k:=19) (n:=n) (I:=fun n T S=>I n (T.getD 0 b8) (T.getD 1 b8) (T.getD 7 b8) (T.getD 8 b8) S) (fun n T S hl hI=>s5 [0,1,7,8] hl (j9.mono (a6f (step n _ _ _ _ S hI)) fun ex T' S' _ hq=>by cases ex<;>exact hq)) (o8 ..) (Eq.mp (by kernel_rfl) h)
def a3J(E:l9)(w0:o0)(Q:D→b7→Prop)(a0 a1:D)(S:b7):Prop:=
 a9 (r6 a0) fun v0=>
 j9 Try.prog E w0 (.loop Z4) (m9 19 [0,1,7,8] [a0,a1,v0,(.int .i64 0)]) S (Y8 E w0 Q)
theorem a7G{E:l9}{w0:o0}{Q:D→b7→Prop}{a0 a1:D}{S:b7}(h:a3J E w0 (d8 E Q) a0 a1 S):n9 Try.prog E w0 a0K [a0,a1] S Q:=
 m6 a0v a0q a0u (fn:=Try.f100) (c:=Try.f100.body.getD .skip) o7 Try.func100 (by kernel_rfl) (by kernel_rfl) h
end Go.Proofs.Ytchnpgddpaonhaa.d
end
