/-
  ImageSpoiltSaid: part Pax of its proof.
-/
import Derived.Test.YtchnpgddpaonhaaRows
import Derived.Test.YtchnpgddpaonhaaPaq
import Derived.KernelRfl
set_option linter.unusedVariables false
set_option linter.unusedSimpArgs false
set_option maxRecDepth 100000
section
open Go.Proofs Go Go.Am
namespace Go.Proofs.Ytchnpgddpaonhaa.d
def c5c:List (Nat×List Nat):=[]
def c4R:List (Nat×List Nat):=[]
def c4Q:List (Nat×Arr):=[]
def b7A(E:m6)(w0:o3)(Q:D→b7→Prop)(a0 a1 a2:D)(S:b7):Prop:=
 a9 (r7 a0) fun cs=>o6 S cs fun v0 S1=>
 o6 S1 [(.int .u8 0),(.str []), .nilSlc,(.int .i64 0),(.int .i64 0)] fun v2 S3=>
 a9 (d8 .lss a1 (.int .i64 16)) fun v4=>
 a9 (j9 (d6 v4 false) (some a1)) fun v5=>
 a9 (j9 (d6 v4 false) (d8 .sub v5 (.int .i64 16))) fun v6=>
 a9 (j9 (d6 v4 false) (m8 0 v0)) fun v7=>
 a9 (j9 (d6 v4 false) (c9 S3 v7)) fun v8=>
 a9 (j9 (d6 v4 false) (r6 v8)) fun v9=>
 a9 (j9 (d6 v4 false) (d8 .geq v6 v9)) fun v10=>
 a9 (z2 v4 (.bool true) v10) fun v11=>
 i9 v11
 (a9 (E6 (w6 [(.int .u8 0),(.str []), .nilSlc,(.int .i64 0),(.int .i64 0)] [])) fun v12=>
 f0 S3 5 v2 v12 fun v13 S14=>
 a9 (j0 S14 5 v2) fun v15=>Q (.tup [v15,(.bool false)]) S14)
 (a9 (m8 0 v0) fun v16=>
 a9 (c9 S3 v16) fun v17=>
 a9 (d8 .sub a1 (.int .i64 16)) fun v18=>
 a9 (A7 5 v17 v18) fun v19=>
 a9 (j0 S3 5 v19) fun v20=>
 o6 S3 [(.int .u8 0),(.str []), .nilSlc,(.int .i64 0),(.int .i64 0)] fun v21 S22=>
 f0 S22 5 v21 v20 fun v23 S24=>
 a9 (j0 S24 5 v21) fun v25=>
 a9 (m8 0 v21) fun v26=>
 a9 (c9 S24 v26) fun v27=>
 o4 Try.prog E w0 Y5 [a2,v27] S24 fun v28 S29=>
 t6 v21 S24 S29∧f0 S29 5 v2 v25 fun v30 S31=>
 a9 (j0 S31 5 v2) fun v32=>Q (.tup [v32,v28]) S31)
theorem c1d{E:m6}{w0:o3}{Q:D→b7→Prop}{a0 a1 a2:D}{S:b7}(h:b7A E w0 (d9 E Q) a0 a1 a2 S):o4 Try.prog E w0 a0b [a0,a1,a2] S Q:=
 m9 c5c c4R c4Q (fn:=Try.f96) (c:=Try.f96.body.getD .skip) o9 Try.func96 (by kernel_rfl) (by kernel_rfl) h
def c9U:List (Nat×List Nat):=[]
def c9L:List (Nat×List Nat):=[]
def d0f:List (Nat×Arr):=[]
def c6L(E:m6)(w0:o3)(Q:D→b7→Prop)(a0:D)(S:b7):Prop:=
 o6 S [.nilSlc, .nilSlc,(.bool false)] fun v0 S1=>
 a9 (E6 (w6 [.nilSlc, .nilSlc,(.bool false)] [(0,1,a0),(2,1,(.bool true))])) fun v2=>
 f0 S1 3 v0 v2 fun v3 S4=>
 a9 (j0 S4 3 v0) fun v5=>Q v5 S4
theorem c5G{E:m6}{w0:o3}{Q:D→b7→Prop}{a0:D}{S:b7}(h:c6L E w0 (d9 E Q) a0 S):o4 Try.prog E w0 r9 [a0] S Q:=
 m9 c9U c9L d0f (fn:=Try.f86) (c:=Try.f86.body.getD .skip) o9 Try.func86 (by kernel_rfl) (by kernel_rfl) h
def b2S:List (Nat×List Nat):=[]
def b2Z:List (Nat×List Nat):=[]
def b3f:List (Nat×Arr):=[]
def a6l(E:m6)(w0:o3)(Q:D→b7→Prop)(a0 a1:D)(S:b7):Prop:=
 a9 (r7 a0) fun cs=>o6 S cs fun v0 S1=>
 o6 S1 [.nilSlc, .nilSlc,(.bool false)] fun v2 S3=>
 a9 (m8 1 v0) fun v4=>
 f0 S3 1 v4 a1 fun v5 S6=>
 a9 (j0 S6 3 v0) fun v7=>
 f0 S6 3 v2 v7 fun v8 S9=>
 a9 (j0 S9 3 v2) fun v10=>Q v10 S9
theorem b0C{E:m6}{w0:o3}{Q:D→b7→Prop}{a0 a1:D}{S:b7}(h:a6l E w0 (d9 E Q) a0 a1 S):o4 Try.prog E w0 j8 [a0,a1] S Q:=
 m9 b2S b2Z b3f (fn:=Try.f87) (c:=Try.f87.body.getD .skip) o9 Try.func87 (by kernel_rfl) (by kernel_rfl) h
def b2V:List (Nat×List Nat):=[]
def b3i:List (Nat×List Nat):=[]
def b2U:List (Nat×Arr):=[]
def a5U(E:m6)(w0:o3)(Q:D→b7→Prop)(a0 a1:D)(S:b7):Prop:=
 a9 (r7 a0) fun cs=>o6 S cs fun v0 S1=>
 o6 S1 [.nilSlc, .nilSlc,(.bool false)] fun v2 S3=>
 a9 (m8 2 v0) fun v4=>
 f0 S3 1 v4 a1 fun v5 S6=>
 a9 (j0 S6 3 v0) fun v7=>
 f0 S6 3 v2 v7 fun v8 S9=>
 a9 (j0 S9 3 v2) fun v10=>Q v10 S9
theorem b0N{E:m6}{w0:o3}{Q:D→b7→Prop}{a0 a1:D}{S:b7}(h:a5U E w0 (d9 E Q) a0 a1 S):o4 Try.prog E w0 q9 [a0,a1] S Q:=
 m9 b2V b3i b2U (fn:=Try.f88) (c:=Try.f88.body.getD .skip) o9 Try.func88 (by kernel_rfl) (by kernel_rfl) h
def a0X:List (Nat×List Nat):=[(20,[4,5,7,8,42,43,44])]
def a1d:List (Nat×List Nat):=[(25,[2,3,4,5,25,26])]
def a0U:List (Nat×Arr):=[(32,(.node 1 5 (.node 2 5 (.leaf [0,3,4,7,1,2,5,6,8,9]) (.leaf [0,3,4,7,1,5,2,6,8,9])) (.leaf [0,3,4,7,5,1,2,6,8,9]))),(36,(.node 1 5 (.node 2 5 (.leaf [0,3,4,7,1,2,5,6,8,9]) (.leaf [0,3,4,7,1,5,2,6,8,9])) (.leaf [0,3,4,7,5,1,2,6,8,9])))]
noncomputable def b0i:Code:=(l9 [1,1,0,1,0,1,0,1,0,1,0,1,0,1,0,0] (Try.f90.body.getD .skip))
def a8D(E:m6)(w0:o3)(Q:D→b7→Prop):r4→List D→b7→Prop:=
 (t7 1 (I5 Try.prog E w0 a0X a1d a0U (l9 [1,1,0,1,0,1,0,1,0,1,0,1,1] (Try.f90.body.getD .skip)) (I5 Try.prog E w0 a0X a1d a0U (l9 [1,1,0,1,0,1,0,1,1] (Try.f90.body.getD .skip)) (t7 0 (I5 Try.prog E w0 a0X a1d a0U (l9 [1,1,1] (Try.f90.body.getD .skip)) (I4 Try.prog Try.f90 Q))))))
def a9V(E:m6)(w0:o3)(N0:D→D→D→D→D→D→D→b7→Prop)(Q:D→b7→Prop)(x4 x5 x7 x8 x42 x43 x44:D)(S:b7):Prop:=
 a9 (d8 .lss x44 x43) fun v29=>
 i9 v29
 (a9 (A7 2 x42 x44) fun v30=>
 a9 (j0 S 2 v30) fun v31=>
 o6 S [(.str []),(.int .i64 0)] fun v32 S33=>
 f0 S33 2 v32 v31 fun v34 S35=>
 a9 (m8 1 v32) fun v36=>
 a9 (c9 S35 v36) fun v37=>
 u6 S35 1 (p9 1 (List.replicate 1 [(.int .i64 0)]) [(0,v37)]) 1 fun v38 S39=>
 y9 S39 1 8 x8 v38 fun v40 S41=>
 a9 (d8 .add x44 (.int .i64 1)) fun v42=>
 N0 x4 x5 x7 v40 x42 x43 v42 S41)
 (o4 Try.prog E w0 r9 [x8] S fun v43 S44=>
 u6 S44 1 (p9 1 (List.replicate 1 [(.int .i64 0)]) [(0,x5)]) 1 fun v45 S46=>
 o4 Try.prog E w0 j8 [v43,v45] S46 fun v47 S48=>
 o4 Try.prog E w0 q9 [v47,x7] S48 fun v49 S50=>
 f0 S50 3 x4 v49 fun v51 S52=>
 a9 (j0 S52 3 x4) fun v53=>Q v53 S52)
theorem b8s{E:m6}{w0:o3}{N0:D→D→D→D→D→D→D→b7→Prop}{Q:D→b7→Prop}{x4 x5 x7 x8 x42 x43 x44:D}{S:b7}(h:a9V E w0 N0 Q x4 x5 x7 x8 x42 x43 x44 S):
  k9 Try.prog E w0 b0i (n9 200 [4,5,7,8,42,43,44] [x4,x5,x7,x8,x42,x43,x44]) S (C0 (fun T S=>N0 (T.getD 4 b8) (T.getD 5 b8) (T.getD 7 b8) (T.getD 8 b8) (T.getD 42 b8) (T.getD 43 b8) (T.getD 44 b8) S) (a8D E w0 Q)):=l8 a0X a1d a0U o9 (by kernel_rfl) h
theorem b8S{E:m6}{w0:o3}{Q:D→b7→Prop}(I:Nat→D→D→D→D→D→D→D→b7→Prop)
  (step:∀n x4 x5 x7 x8 x42 x43 x44 S,I n x4 x5 x7 x8 x42 x43 x44 S→a9V E w0 (fun x4 x5 x7 x8 x42 x43 x44 S=>∃m,m<n∧I m x4 x5 x7 x8 x42 x43 x44 S) Q x4 x5 x7 x8 x42 x43 x44 S)
  {n:Nat} {x4 x5 x7 x8 x42 x43 x44:D} {S:b7} (h:I n x4 x5 x7 x8 x42 x43 x44 S):k9 Try.prog E w0 (.loop b0i) (n9 200 [4,5,7,8,42,43,44] [x4,x5,x7,x8,x42,x43,x44]) S (a8D E w0 Q):=
 r8 (k:=200) (n:=n) (I:=fun n T S=>I n (T.getD 4 b8) (T.getD 5 b8) (T.getD 7 b8) (T.getD 8 b8) (T.getD 42 b8) (T.getD 43 b8) (T.getD 44 b8) S) (fun n T S hl hI=>s6 [4,5,7,8,42,43,44] hl (k9.mono (b8s (step n _ _ _ _ _ _ _ S hI)) fun ex T' S' _ hq=>by cases ex<;>exact hq)) (o7 ..) (Eq.mp (by kernel_rfl) h)
noncomputable def c1X:Code:=(l9 [1,1,0,1,0,1] (Try.f90.body.getD .skip))
def c1c(E:m6)(w0:o3)(Q:D→b7→Prop):r4→List D→b7→Prop:=
 (t7 0 (I5 Try.prog E w0 a0X a1d a0U (l9 [1,1,1] (Try.f90.body.getD .skip)) (I4 Try.prog Try.f90 Q)))
def b3l(E:m6)(w0:o3)(Q:D→b7→Prop)(x2 x3 x4 x5 x25 x26:D)(S:b7):Prop:=
 i9 x26
 (a9 (j0 S 3 x3) fun v10=>
 a9 (m8 1 x2) fun v11=>
 a9 (c9 S v11) fun v12=>
 u6 S 1 (p9 1 (List.replicate 1 [(.int .u8 0)]) [(0,(.int .u8 6))]) 1 fun v13 S14=>
 o4 Try.prog E w0 a0b [v10,v12,v13] S14 fun v15 S16=>
 a9 (o5 v15 0) fun v17=>
 a9 (o5 v15 1) fun v18=>
 o6 S16 [(.int .u8 0),(.str []), .nilSlc,(.int .i64 0),(.int .i64 0)] fun v19 S20=>
 f0 S20 5 v19 v17 fun v21 S22=>
 a9 (m8 0 x2) fun v23=>
 a9 (c9 S22 v23) fun v24=>
 a9 (d8 .eql v24 (.int .u8 36)) fun v25=>
 i9 v25
 (a9 (m8 2 v19) fun v26=>
 a9 (c9 S22 v26) fun v27=>
 a9 (r6 v27) fun v28=>
 k9 Try.prog E w0 (.loop b0i) (n9 200 [4,5,7,8,42,43,44] [x4,x5,v18, .nilSlc,v27,v28,(.int .i64 0)]) S22 (a8D E w0 Q))
 (a9 (unD .not v18) fun v54=>
 a9 (j9 (d6 v54 false) (m8 2 x2)) fun v55=>
 a9 (j9 (d6 v54 false) (c9 S22 v55)) fun v56=>
 a9 (j9 (d6 v54 false) (m8 2 v19)) fun v57=>
 a9 (j9 (d6 v54 false) (c9 S22 v57)) fun v58=>
 a9 (j9 (d6 v54 false) (r6 v58)) fun v59=>
 a9 (j9 (d6 v54 false) (d8 .geq v56 v59)) fun v60=>
 a9 (z2 v54 (.bool true) v60) fun v61=>
 i9 v61
 (a9 (E6 (w6 [.nilSlc, .nilSlc,(.bool false)] [])) fun v62=>
 f0 S22 3 x4 v62 fun v63 S64=>
 a9 (j0 S64 3 x4) fun v65=>Q v65 S64)
 (a9 (m8 2 v19) fun v66=>
 a9 (c9 S22 v66) fun v67=>
 a9 (m8 2 x2) fun v68=>
 a9 (c9 S22 v68) fun v69=>
 a9 (A7 2 v67 v69) fun v70=>
 a9 (m8 1 v70) fun v71=>
 a9 (c9 S22 v71) fun v72=>
 a9 (m8 0 x2) fun v73=>
 a9 (c9 S22 v73) fun v74=>
 a9 (d8 .eql v74 (.int .u8 38)) fun v75=>
 i9 v75
 (u6 S22 1 (p9 1 (List.replicate 2 [(.int .i64 0)]) [(0,x5),(1,v72)]) 2 fun v76 S77=>
 o4 Try.prog E w0 r9 [v76] S77 fun v78 S79=>
 f0 S79 3 x4 v78 fun v80 S81=>
 a9 (j0 S81 3 x4) fun v82=>Q v82 S81)
 (u6 S22 1 (p9 1 (List.replicate 1 [(.int .i64 0)]) [(0,x5)]) 1 fun v83 S84=>
 o4 Try.prog E w0 r9 [v83] S84 fun v85 S86=>
 u6 S86 1 (p9 1 (List.replicate 1 [(.int .i64 0)]) [(0,v72)]) 1 fun v87 S88=>
 o4 Try.prog E w0 j8 [v85,v87] S88 fun v89 S90=>
 f0 S90 3 x4 v89 fun v91 S92=>
 a9 (j0 S92 3 x4) fun v93=>Q v93 S92))))
 (a9 (d8 .eql x25 (.int .u8 39)) fun v94=>
 i9 v94
 (a9 (j0 S 3 x3) fun v95=>
 a9 (m8 1 x2) fun v96=>
 a9 (c9 S v96) fun v97=>
 u6 S 1 (p9 1 (List.replicate 1 [(.int .u8 0)]) [(0,(.int .u8 7))]) 1 fun v98 S99=>
 o4 Try.prog E w0 a0b [v95,v97,v98] S99 fun v100 S101=>
 a9 (o5 v100 0) fun v102=>
 a9 (o5 v100 1) fun v103=>
 o6 S101 [(.int .u8 0),(.str []), .nilSlc,(.int .i64 0),(.int .i64 0)] fun v104 S105=>
 f0 S105 5 v104 v102 fun v106 S107=>
 a9 (m8 3 v104) fun v108=>
 a9 (c9 S107 v108) fun v109=>
 u6 S107 1 (p9 1 (List.replicate 1 [(.int .i64 0)]) [(0,v109)]) 1 fun v110 S111=>
 o4 Try.prog E w0 r9 [v110] S111 fun v112 S113=>
 u6 S113 1 (p9 1 (List.replicate 1 [(.int .i64 0)]) [(0,x5)]) 1 fun v114 S115=>
 o4 Try.prog E w0 j8 [v112,v114] S115 fun v116 S117=>
 o4 Try.prog E w0 q9 [v116,v103] S117 fun v118 S119=>
 f0 S119 3 x4 v118 fun v120 S121=>
 a9 (j0 S121 3 x4) fun v122=>Q v122 S121)
 (a9 (d8 .eql x25 (.int .u8 40)) fun v123=>
 i9 v123
 (a9 (j0 S 3 x3) fun v124=>
 a9 (m8 1 x2) fun v125=>
 a9 (c9 S v125) fun v126=>
 u6 S 1 (p9 1 (List.replicate 1 [(.int .u8 0)]) [(0,(.int .u8 8))]) 1 fun v127 S128=>
 o4 Try.prog E w0 a0b [v124,v126,v127] S128 fun v129 S130=>
 a9 (o5 v129 0) fun v131=>
 a9 (o5 v129 1) fun v132=>
 o6 S130 [(.int .u8 0),(.str []), .nilSlc,(.int .i64 0),(.int .i64 0)] fun v133 S134=>
 f0 S134 5 v133 v131 fun v135 S136=>
 o4 Try.prog E w0 r9 [.nilSlc] S136 fun v137 S138=>
 u6 S138 1 (p9 1 (List.replicate 1 [(.int .i64 0)]) [(0,x5)]) 1 fun v139 S140=>
 o4 Try.prog E w0 j8 [v137,v139] S140 fun v141 S142=>
 o4 Try.prog E w0 q9 [v141,v132] S142 fun v143 S144=>
 f0 S144 3 x4 v143 fun v145 S146=>
 a9 (j0 S146 3 x4) fun v147=>Q v147 S146)
 (a9 (d8 .eql x25 (.int .u8 44)) fun v148=>
 i9 v148
 (a9 (j0 S 3 x3) fun v149=>
 a9 (m8 1 x2) fun v150=>
 a9 (c9 S v150) fun v151=>
 u6 S 1 (p9 1 (List.replicate 1 [(.int .u8 0)]) [(0,(.int .u8 8))]) 1 fun v152 S153=>
 o4 Try.prog E w0 a0b [v149,v151,v152] S153 fun v154 S155=>
 a9 (o5 v154 0) fun v156=>
 a9 (o5 v154 1) fun v157=>
 o6 S155 [(.int .u8 0),(.str []), .nilSlc,(.int .i64 0),(.int .i64 0)] fun v158 S159=>
 f0 S159 5 v158 v156 fun v160 S161=>
 a9 (m8 3 v158) fun v162=>
 a9 (c9 S161 v162) fun v163=>
 u6 S161 1 (p9 1 (List.replicate 2 [(.int .i64 0)]) [(0,x5),(1,v163)]) 2 fun v164 S165=>
 o4 Try.prog E w0 r9 [v164] S165 fun v166 S167=>
 o4 Try.prog E w0 q9 [v166,v157] S167 fun v168 S169=>
 f0 S169 3 x4 v168 fun v170 S171=>
 a9 (j0 S171 3 x4) fun v172=>Q v172 S171)
 (a9 (d8 .eql x25 (.int .u8 45)) fun v173=>
 i9 v173
 (a9 (j0 S 3 x3) fun v174=>
 a9 (m8 1 x2) fun v175=>
 a9 (c9 S v175) fun v176=>
 u6 S 1 (p9 1 (List.replicate 1 [(.int .u8 0)]) [(0,(.int .u8 8))]) 1 fun v177 S178=>
 o4 Try.prog E w0 a0b [v174,v176,v177] S178 fun v179 S180=>
 a9 (o5 v179 0) fun v181=>
 a9 (o5 v179 1) fun v182=>
 o6 S180 [(.int .u8 0),(.str []), .nilSlc,(.int .i64 0),(.int .i64 0)] fun v183 S184=>
 f0 S184 5 v183 v181 fun v185 S186=>
 ((a9 (m8 3 v183) fun v187=>
 a9 (c9 S186 v187) fun v188=>
 u6 S186 1 (p9 1 (List.replicate 1 [(.int .i64 0)]) [(0,x5)]) 1 fun v189 S190=>
 t6 v187 S186 S190∧o4 Try.prog E w0 r9 [v189] S190 fun v191 S192=>
 t6 v187 S186 S192∧u6 S192 1 (p9 1 (List.replicate 1 [(.int .i64 0)]) [(0,v188)]) 1 fun v193 S194=>
 o4 Try.prog E w0 j8 [v191,v193] S194 fun v195 S196=>
 o4 Try.prog E w0 q9 [v195,v182] S196 fun v197 S198=>
 f0 S198 3 x4 v197 fun v199 S200=>
 a9 (j0 S200 3 x4) fun v201=>Q v201 S200)∧
 (a9 (m8 3 v183) fun v202=>
 a9 (c9 S186 v202) fun v203=>
 u6 S186 1 (p9 1 (List.replicate 1 [(.int .i64 0)]) [(0,x5)]) 1 fun v204 S205=>
 t6 v202 S186 S205∧u6 S205 1 (p9 1 (List.replicate 1 [(.int .i64 0)]) [(0,v203)]) 1 fun v206 S207=>
 o4 Try.prog E w0 r9 [v204] S207 fun v208 S209=>
 o4 Try.prog E w0 j8 [v208,v206] S209 fun v210 S211=>
 o4 Try.prog E w0 q9 [v210,v182] S211 fun v212 S213=>
 f0 S213 3 x4 v212 fun v214 S215=>
 a9 (j0 S215 3 x4) fun v216=>Q v216 S215))∧
 (a9 (m8 3 v183) fun v217=>
 a9 (c9 S186 v217) fun v218=>
 u6 S186 1 (p9 1 (List.replicate 1 [(.int .i64 0)]) [(0,v218)]) 1 fun v219 S220=>
 u6 S220 1 (p9 1 (List.replicate 1 [(.int .i64 0)]) [(0,x5)]) 1 fun v221 S222=>
 o4 Try.prog E w0 r9 [v221] S222 fun v223 S224=>
 o4 Try.prog E w0 j8 [v223,v219] S224 fun v225 S226=>
 o4 Try.prog E w0 q9 [v225,v182] S226 fun v227 S228=>
 f0 S228 3 x4 v227 fun v229 S230=>
 a9 (j0 S230 3 x4) fun v231=>Q v231 S230))
 (a9 (j0 S 3 x3) fun v232=>
 a9 (m8 1 x2) fun v233=>
 a9 (c9 S v233) fun v234=>
 u6 S 1 (p9 1 (List.replicate 2 [(.int .u8 0)]) [(0,(.int .u8 7)),(1,(.int .u8 8))]) 2 fun v235 S236=>
 o4 Try.prog E w0 a0b [v232,v234,v235] S236 fun v237 S238=>
 a9 (o5 v237 0) fun v239=>
 a9 (o5 v237 1) fun v240=>
 o6 S238 [(.int .u8 0),(.str []), .nilSlc,(.int .i64 0),(.int .i64 0)] fun v241 S242=>
 f0 S242 5 v241 v239 fun v243 S244=>
 a9 (m8 0 x2) fun v245=>
 a9 (c9 S244 v245) fun v246=>
 a9 (d8 .eql v246 (.int .u8 41)) fun v247=>
 i9 v247
 (((a9 (m8 3 v241) fun v248=>
 a9 (c9 S244 v248) fun v249=>
 u6 S244 1 (p9 1 (List.replicate 2 [(.int .i64 0)]) [(0,x5),(1,(.int .i64 3))]) 2 fun v250 S251=>
 t6 v248 S244 S251∧o4 Try.prog E w0 r9 [v250] S251 fun v252 S253=>
 t6 v248 S244 S253∧u6 S253 1 (p9 1 (List.replicate 1 [(.int .i64 0)]) [(0,v249)]) 1 fun v254 S255=>
 o4 Try.prog E w0 j8 [v252,v254] S255 fun v256 S257=>
 o4 Try.prog E w0 q9 [v256,v240] S257 fun v258 S259=>
 f0 S259 3 x4 v258 fun v260 S261=>
 a9 (j0 S261 3 x4) fun v262=>Q v262 S261)∧
 (a9 (m8 3 v241) fun v263=>
 a9 (c9 S244 v263) fun v264=>
 u6 S244 1 (p9 1 (List.replicate 2 [(.int .i64 0)]) [(0,x5),(1,(.int .i64 3))]) 2 fun v265 S266=>
 t6 v263 S244 S266∧u6 S266 1 (p9 1 (List.replicate 1 [(.int .i64 0)]) [(0,v264)]) 1 fun v267 S268=>
 o4 Try.prog E w0 r9 [v265] S268 fun v269 S270=>
 o4 Try.prog E w0 j8 [v269,v267] S270 fun v271 S272=>
 o4 Try.prog E w0 q9 [v271,v240] S272 fun v273 S274=>
 f0 S274 3 x4 v273 fun v275 S276=>
 a9 (j0 S276 3 x4) fun v277=>Q v277 S276))∧
 (a9 (m8 3 v241) fun v278=>
 a9 (c9 S244 v278) fun v279=>
 u6 S244 1 (p9 1 (List.replicate 1 [(.int .i64 0)]) [(0,v279)]) 1 fun v280 S281=>
 u6 S281 1 (p9 1 (List.replicate 2 [(.int .i64 0)]) [(0,x5),(1,(.int .i64 3))]) 2 fun v282 S283=>
 o4 Try.prog E w0 r9 [v282] S283 fun v284 S285=>
 o4 Try.prog E w0 j8 [v284,v280] S285 fun v286 S287=>
 o4 Try.prog E w0 q9 [v286,v240] S287 fun v288 S289=>
 f0 S289 3 x4 v288 fun v290 S291=>
 a9 (j0 S291 3 x4) fun v292=>Q v292 S291))
 (a9 (d8 .eql v246 (.int .u8 42)) fun v293=>
 i9 v293
 (a9 (m8 3 v241) fun v294=>
 a9 (c9 S244 v294) fun v295=>
 u6 S244 1 (p9 1 (List.replicate 3 [(.int .i64 0)]) [(0,x5),(1,(.int .i64 3)),(2,v295)]) 3 fun v296 S297=>
 o4 Try.prog E w0 r9 [v296] S297 fun v298 S299=>
 o4 Try.prog E w0 q9 [v298,v240] S299 fun v300 S301=>
 f0 S301 3 x4 v300 fun v302 S303=>
 a9 (j0 S303 3 x4) fun v304=>Q v304 S303)
 (u6 S244 1 (p9 1 (List.replicate 1 [(.int .i64 0)]) [(0,x5)]) 1 fun v305 S306=>
 o4 Try.prog E w0 r9 [v305] S306 fun v307 S308=>
 u6 S308 1 (p9 1 (List.replicate 1 [(.int .i64 0)]) [(0,(.int .i64 3))]) 1 fun v309 S310=>
 o4 Try.prog E w0 j8 [v307,v309] S310 fun v311 S312=>
 o4 Try.prog E w0 q9 [v311,v240] S312 fun v313 S314=>
 f0 S314 3 x4 v313 fun v315 S316=>
 a9 (j0 S316 3 x4) fun v317=>Q v317 S316)))))))
def a0E(E:m6)(w0:o3)(Q:D→b7→Prop)(x2 x3 x4 x5 x25 x26:D)(S:b7):Prop:=k9 Try.prog E w0 c1X (n9 200 [2,3,4,5,25,26] [x2,x3,x4,x5,x25,x26]) S (c1c E w0 Q)
theorem b7k{E:m6}{w0:o3}{Q:D→b7→Prop}{x2 x3 x4 x5 x25 x26:D}{S:b7}(h:b3l E w0 Q x2 x3 x4 x5 x25 x26 S):a0E E w0 Q x2 x3 x4 x5 x25 x26 S:=l8 a0X a1d a0U o9 (by kernel_rfl) h
def c0a(E:m6)(w0:o3)(Q:D→b7→Prop)(a0 a1:D)(S:b7):Prop:=
 a9 (r7 a0) fun cs=>o6 S cs fun v0 S1=>
 a9 (r7 a1) fun cs=>o6 S1 cs fun v2 S3=>
 o6 S3 [.nilSlc, .nilSlc,(.bool false)] fun v4 S5=>
 a9 (m8 1 v0) fun v6=>
 a9 (c9 S5 v6) fun v7=>
 a9 (m8 0 v0) fun v8=>
 a9 (c9 S5 v8) fun v9=>
 a9 (d8 .eql v9 (.int .u8 36)) fun v318=>
 i9 v318
 (a0E E w0 Q v0 v2 v4 v7 v9 v318 S5)
 (a9 (d8 .eql v9 (.int .u8 37)) fun v319=>
 i9 v319
 (a0E E w0 Q v0 v2 v4 v7 v9 v319 S5)
 (a9 (d8 .eql v9 (.int .u8 38)) fun v320=>
 a0E E w0 Q v0 v2 v4 v7 v9 v320 S5))
theorem c2B{E:m6}{w0:o3}{Q:D→b7→Prop}{a0 a1:D}{S:b7}(h:c0a E w0 (d9 E Q) a0 a1 S):o4 Try.prog E w0 b4D [a0,a1] S Q:=
 m9 a0X a1d a0U (fn:=Try.f90) (c:=Try.f90.body.getD .skip) o9 Try.func90 (by kernel_rfl) (by kernel_rfl) h
def C8:List (Nat×List Nat):=[]
def D4:List (Nat×List Nat):=[(25,[1,2,3,7,8]),(37,[1,2,3,7,18]),(57,[1,2,3,7,29]),(77,[1,2,3,7,40]),(105,[1,2,3,7,49]),(173,[2,3,7,107]),(197,[2,3,117])]
def C9:List (Nat×Arr):=[(6,(.node 0 4 (.leaf [1,2,3,0,4,5,6]) (.leaf [1,2,3,4,0,5,6]))),(28,(.node 1 5 (.node 2 5 (.leaf [0,3,4,1,2,5,6,7]) (.leaf [0,3,4,1,5,2,6,7])) (.leaf [0,3,4,5,1,2,6,7])))]
noncomputable def b8K:Code:=(l9 [1,1,0,1,0,1,1,1,1,1,1,1,1,1,1,1,1,1,1,1,1,1,1,1,1,1,1,1,1,1,1,1,1,1,1,1,1,1] (Try.f91.body.getD .skip))
def b7c(E:m6)(w0:o3)(Q:D→b7→Prop):r4→List D→b7→Prop:=
 (t7 0 (I5 Try.prog E w0 C8 D4 C9 (l9 [1,1,1] (Try.f91.body.getD .skip)) (I4 Try.prog Try.f91 Q)))
def b0n(E:m6)(w0:o3)(Q:D→b7→Prop)(x2 x3 x117:D)(S:b7):Prop:=
 i9 x117
 (o4 Try.prog E w0 r9 [.nilSlc] S fun v219 S220=>
 f0 S220 3 x2 v219 fun v221 S222=>
 a9 (j0 S222 3 x2) fun v223=>Q v223 S222)
 (u6 S 1 (p9 1 (List.replicate 2 [(.int .i64 0)]) [(0,x3),(1,x3)]) 2 fun v224 S225=>
 o4 Try.prog E w0 r9 [v224] S225 fun v226 S227=>
 u6 S227 1 (p9 1 (List.replicate 1 [(.int .i64 0)]) [(0,x3)]) 1 fun v228 S229=>
 o4 Try.prog E w0 j8 [v226,v228] S229 fun v230 S231=>
 f0 S231 3 x2 v230 fun v232 S233=>
 a9 (j0 S233 3 x2) fun v234=>Q v234 S233)
def Q7(E:m6)(w0:o3)(Q:D→b7→Prop)(x2 x3 x117:D)(S:b7):Prop:=k9 Try.prog E w0 b8K (n9 129 [2,3,117] [x2,x3,x117]) S (b7c E w0 Q)
theorem b3Y{E:m6}{w0:o3}{Q:D→b7→Prop}{x2 x3 x117:D}{S:b7}(h:b0n E w0 Q x2 x3 x117 S):Q7 E w0 Q x2 x3 x117 S:=l8 C8 D4 C9 o9 (by kernel_rfl) h
noncomputable def b8u:Code:=(l9 [1,1,0,1,0,1,1,1,1,1,1,1,1,1,1,1,1,1,1,1,1,1,1,1,1,1,1,1,1,1,1,1,1,1] (Try.f91.body.getD .skip))
def b7r(E:m6)(w0:o3)(Q:D→b7→Prop):r4→List D→b7→Prop:=
 (t7 0 (I5 Try.prog E w0 C8 D4 C9 (l9 [1,1,1] (Try.f91.body.getD .skip)) (I4 Try.prog Try.f91 Q)))
def b0p(E:m6)(w0:o3)(Q:D→b7→Prop)(x2 x3 x7 x107:D)(S:b7):Prop:=
 i9 x107
 (u6 S 1 (p9 1 (List.replicate 1 [(.int .i64 0)]) [(0,(.int .i64 4))]) 1 fun v204 S205=>
 o4 Try.prog E w0 r9 [v204] S205 fun v206 S207=>
 f0 S207 3 x2 v206 fun v208 S209=>
 a9 (j0 S209 3 x2) fun v210=>Q v210 S209)
 (a9 (d8 .eql x7 (.int .u8 49)) fun v211=>
 i9 v211
 (u6 S 1 (p9 1 (List.replicate 1 [(.int .i64 0)]) [(0,x3)]) 1 fun v212 S213=>
 o4 Try.prog E w0 r9 [v212] S213 fun v214 S215=>
 f0 S215 3 x2 v214 fun v216 S217=>
 a9 (j0 S217 3 x2) fun v218=>Q v218 S217)
 (a9 (d8 .eql x7 (.int .u8 46)) fun v235=>
 i9 v235
 (Q7 E w0 Q x2 x3 v235 S)
 (a9 (d8 .eql x7 (.int .u8 51)) fun v236=>
 i9 v236
 (Q7 E w0 Q x2 x3 v236 S)
 (a9 (d8 .eql x7 (.int .u8 52)) fun v237=>
 Q7 E w0 Q x2 x3 v237 S))))
def a0B(E:m6)(w0:o3)(Q:D→b7→Prop)(x2 x3 x7 x107:D)(S:b7):Prop:=k9 Try.prog E w0 b8u (n9 129 [2,3,7,107] [x2,x3,x7,x107]) S (b7r E w0 Q)
theorem b4o{E:m6}{w0:o3}{Q:D→b7→Prop}{x2 x3 x7 x107:D}{S:b7}(h:b0p E w0 Q x2 x3 x7 x107 S):a0B E w0 Q x2 x3 x7 x107 S:=l8 C8 D4 C9 o9 (by kernel_rfl) h
noncomputable def b9h:Code:=(l9 [1,1,0,1,0,1,1,1,1,1,1,1,1,1,1,1,1,1] (Try.f91.body.getD .skip))
def b6F(E:m6)(w0:o3)(Q:D→b7→Prop):r4→List D→b7→Prop:=
 (t7 0 (I5 Try.prog E w0 C8 D4 C9 (l9 [1,1,1] (Try.f91.body.getD .skip)) (I4 Try.prog Try.f91 Q)))
def b0u(E:m6)(w0:o3)(Q:D→b7→Prop)(x1 x2 x3 x7 x49:D)(S:b7):Prop:=
 i9 x49
 (u6 S 1 (p9 1 (List.replicate 2 [(.int .i64 0)]) [(0,x3),(1,x3)]) 2 fun v81 S82=>
 o4 Try.prog E w0 r9 [v81] S82 fun v83 S84=>
 u6 S84 1 (p9 1 (List.replicate 1 [(.int .i64 0)]) [(0,(.int .i64 4))]) 1 fun v85 S86=>
 o4 Try.prog E w0 j8 [v83,v85] S86 fun v87 S88=>
 f0 S88 3 x2 v87 fun v89 S90=>
 a9 (j0 S90 3 x2) fun v91=>Q v91 S90)
 (a9 (d8 .eql x7 (.int .u8 29)) fun v92=>
 i9 v92
 (((a9 (m8 2 x1) fun v93=>
 a9 (c9 S v93) fun v94=>
 u6 S 1 (p9 1 (List.replicate 1 [(.int .i64 0)]) [(0,x3)]) 1 fun v95 S96=>
 t6 v93 S S96∧o4 Try.prog E w0 r9 [v95] S96 fun v97 S98=>
 t6 v93 S S98∧u6 S98 1 (p9 1 (List.replicate 1 [(.int .i64 0)]) [(0,v94)]) 1 fun v99 S100=>
 o4 Try.prog E w0 j8 [v97,v99] S100 fun v101 S102=>
 f0 S102 3 x2 v101 fun v103 S104=>
 a9 (j0 S104 3 x2) fun v105=>Q v105 S104)∧
 (a9 (m8 2 x1) fun v106=>
 a9 (c9 S v106) fun v107=>
 u6 S 1 (p9 1 (List.replicate 1 [(.int .i64 0)]) [(0,x3)]) 1 fun v108 S109=>
 t6 v106 S S109∧u6 S109 1 (p9 1 (List.replicate 1 [(.int .i64 0)]) [(0,v107)]) 1 fun v110 S111=>
 o4 Try.prog E w0 r9 [v108] S111 fun v112 S113=>
 o4 Try.prog E w0 j8 [v112,v110] S113 fun v114 S115=>
 f0 S115 3 x2 v114 fun v116 S117=>
 a9 (j0 S117 3 x2) fun v118=>Q v118 S117))∧
 (a9 (m8 2 x1) fun v119=>
 a9 (c9 S v119) fun v120=>
 u6 S 1 (p9 1 (List.replicate 1 [(.int .i64 0)]) [(0,v120)]) 1 fun v121 S122=>
 u6 S122 1 (p9 1 (List.replicate 1 [(.int .i64 0)]) [(0,x3)]) 1 fun v123 S124=>
 o4 Try.prog E w0 r9 [v123] S124 fun v125 S126=>
 o4 Try.prog E w0 j8 [v125,v121] S126 fun v127 S128=>
 f0 S128 3 x2 v127 fun v129 S130=>
 a9 (j0 S130 3 x2) fun v131=>Q v131 S130))
 (a9 (d8 .eql x7 (.int .u8 30)) fun v132=>
 i9 v132
 (u6 S 1 (p9 1 (List.replicate 1 [(.int .i64 0)]) [(0,(.int .i64 4))]) 1 fun v133 S134=>
 o4 Try.prog E w0 r9 [v133] S134 fun v135 S136=>
 u6 S136 1 (p9 1 (List.replicate 1 [(.int .i64 0)]) [(0,(.int .i64 4))]) 1 fun v137 S138=>
 o4 Try.prog E w0 j8 [v135,v137] S138 fun v139 S140=>
 f0 S140 3 x2 v139 fun v141 S142=>
 a9 (j0 S142 3 x2) fun v143=>Q v143 S142)
 (a9 (d8 .eql x7 (.int .u8 31)) fun v144=>
 i9 v144
 (u6 S 1 (p9 1 (List.replicate 2 [(.int .i64 0)]) [(0,(.int .i64 5)),(1,(.int .i64 5))]) 2 fun v145 S146=>
 o4 Try.prog E w0 r9 [v145] S146 fun v147 S148=>
 u6 S148 1 (p9 1 (List.replicate 1 [(.int .i64 0)]) [(0,(.int .i64 5))]) 1 fun v149 S150=>
 o4 Try.prog E w0 j8 [v147,v149] S150 fun v151 S152=>
 f0 S152 3 x2 v151 fun v153 S154=>
 a9 (j0 S154 3 x2) fun v155=>Q v155 S154)
 (a9 (d8 .eql x7 (.int .u8 32)) fun v156=>
 i9 v156
 (u6 S 1 (p9 1 (List.replicate 1 [(.int .i64 0)]) [(0,(.int .i64 5))]) 1 fun v157 S158=>
 o4 Try.prog E w0 r9 [v157] S158 fun v159 S160=>
 u6 S160 1 (p9 1 (List.replicate 1 [(.int .i64 0)]) [(0,(.int .i64 3))]) 1 fun v161 S162=>
 o4 Try.prog E w0 j8 [v159,v161] S162 fun v163 S164=>
 f0 S164 3 x2 v163 fun v165 S166=>
 a9 (j0 S166 3 x2) fun v167=>Q v167 S166)
 (a9 (d8 .eql x7 (.int .u8 33)) fun v168=>
 i9 v168
 (u6 S 1 (p9 1 (List.replicate 2 [(.int .i64 0)]) [(0,(.int .i64 5)),(1,(.int .i64 3))]) 2 fun v169 S170=>
 o4 Try.prog E w0 r9 [v169] S170 fun v171 S172=>
 u6 S172 1 (p9 1 (List.replicate 1 [(.int .i64 0)]) [(0,(.int .i64 2))]) 1 fun v173 S174=>
 o4 Try.prog E w0 j8 [v171,v173] S174 fun v175 S176=>
 f0 S176 3 x2 v175 fun v177 S178=>
 a9 (j0 S178 3 x2) fun v179=>Q v179 S178)
 (a9 (d8 .eql x7 (.int .u8 34)) fun v180=>
 i9 v180
 (u6 S 1 (p9 1 (List.replicate 3 [(.int .i64 0)]) [(0,(.int .i64 5)),(1,(.int .i64 3)),(2,(.int .i64 3))]) 3 fun v181 S182=>
 o4 Try.prog E w0 r9 [v181] S182 fun v183 S184=>
 u6 S184 1 (p9 1 (List.replicate 1 [(.int .i64 0)]) [(0,(.int .i64 5))]) 1 fun v185 S186=>
 o4 Try.prog E w0 j8 [v183,v185] S186 fun v187 S188=>
 f0 S188 3 x2 v187 fun v189 S190=>
 a9 (j0 S190 3 x2) fun v191=>Q v191 S190)
 (a9 (d8 .eql x7 (.int .u8 35)) fun v192=>
 i9 v192
 (u6 S 1 (p9 1 (List.replicate 1 [(.int .i64 0)]) [(0,(.int .i64 2))]) 1 fun v193 S194=>
 o4 Try.prog E w0 r9 [v193] S194 fun v195 S196=>
 u6 S196 1 (p9 1 (List.replicate 1 [(.int .i64 0)]) [(0,(.int .i64 5))]) 1 fun v197 S198=>
 o4 Try.prog E w0 j8 [v195,v197] S198 fun v199 S200=>
 f0 S200 3 x2 v199 fun v201 S202=>
 a9 (j0 S202 3 x2) fun v203=>Q v203 S202)
 (a9 (d8 .eql x7 (.int .u8 47)) fun v238=>
 i9 v238
 (a0B E w0 Q x2 x3 x7 v238 S)
 (a9 (d8 .eql x7 (.int .u8 48)) fun v239=>
 a0B E w0 Q x2 x3 x7 v239 S)))))))))
def G3(E:m6)(w0:o3)(Q:D→b7→Prop)(x1 x2 x3 x7 x49:D)(S:b7):Prop:=k9 Try.prog E w0 b9h (n9 129 [1,2,3,7,49] [x1,x2,x3,x7,x49]) S (b6F E w0 Q)
theorem b4c{E:m6}{w0:o3}{Q:D→b7→Prop}{x1 x2 x3 x7 x49:D}{S:b7}(h:b0u E w0 Q x1 x2 x3 x7 x49 S):G3 E w0 Q x1 x2 x3 x7 x49 S:=l8 C8 D4 C9 o9 (by kernel_rfl) h
noncomputable def b9U:Code:=(l9 [1,1,0,1,0,1,1,1,1,1,1,1,1,1,1,1] (Try.f91.body.getD .skip))
def b8R(E:m6)(w0:o3)(Q:D→b7→Prop):r4→List D→b7→Prop:=
 (t7 0 (I5 Try.prog E w0 C8 D4 C9 (l9 [1,1,1] (Try.f91.body.getD .skip)) (I4 Try.prog Try.f91 Q)))
def b1a(E:m6)(w0:o3)(Q:D→b7→Prop)(x1 x2 x3 x7 x40:D)(S:b7):Prop:=
 i9 x40
 (u6 S 1 (p9 1 (List.replicate 1 [(.int .i64 0)]) [(0,x3)]) 1 fun v70 S71=>
 o4 Try.prog E w0 r9 [v70] S71 fun v72 S73=>
 u6 S73 1 (p9 1 (List.replicate 1 [(.int .i64 0)]) [(0,x3)]) 1 fun v74 S75=>
 o4 Try.prog E w0 j8 [v72,v74] S75 fun v76 S77=>
 f0 S77 3 x2 v76 fun v78 S79=>
 a9 (j0 S79 3 x2) fun v80=>Q v80 S79)
 (a9 (d8 .eql x7 (.int .u8 23)) fun v240=>
 i9 v240
 (G3 E w0 Q x1 x2 x3 x7 v240 S)
 (a9 (d8 .eql x7 (.int .u8 24)) fun v241=>
 i9 v241
 (G3 E w0 Q x1 x2 x3 x7 v241 S)
 (a9 (d8 .eql x7 (.int .u8 25)) fun v242=>
 i9 v242
 (G3 E w0 Q x1 x2 x3 x7 v242 S)
 (a9 (d8 .eql x7 (.int .u8 26)) fun v243=>
 i9 v243
 (G3 E w0 Q x1 x2 x3 x7 v243 S)
 (a9 (d8 .eql x7 (.int .u8 27)) fun v244=>
 i9 v244
 (G3 E w0 Q x1 x2 x3 x7 v244 S)
 (a9 (d8 .eql x7 (.int .u8 28)) fun v245=>
 G3 E w0 Q x1 x2 x3 x7 v245 S))))))
def a1f(E:m6)(w0:o3)(Q:D→b7→Prop)(x1 x2 x3 x7 x40:D)(S:b7):Prop:=k9 Try.prog E w0 b9U (n9 129 [1,2,3,7,40] [x1,x2,x3,x7,x40]) S (b8R E w0 Q)
theorem b4X{E:m6}{w0:o3}{Q:D→b7→Prop}{x1 x2 x3 x7 x40:D}{S:b7}(h:b1a E w0 Q x1 x2 x3 x7 x40 S):a1f E w0 Q x1 x2 x3 x7 x40 S:=l8 C8 D4 C9 o9 (by kernel_rfl) h
noncomputable def c1L:Code:=(l9 [1,1,0,1,0,1,1,1,1,1,1,1] (Try.f91.body.getD .skip))
def b8D(E:m6)(w0:o3)(Q:D→b7→Prop):r4→List D→b7→Prop:=
 (t7 0 (I5 Try.prog E w0 C8 D4 C9 (l9 [1,1,1] (Try.f91.body.getD .skip)) (I4 Try.prog Try.f91 Q)))
def b2a(E:m6)(w0:o3)(Q:D→b7→Prop)(x1 x2 x3 x7 x29:D)(S:b7):Prop:=
 i9 x29
 (u6 S 1 (p9 1 (List.replicate 1 [(.int .i64 0)]) [(0,(.int .i64 0))]) 1 fun v51 S52=>
 o4 Try.prog E w0 r9 [v51] S52 fun v53 S54=>
 f0 S54 3 x2 v53 fun v55 S56=>
 a9 (j0 S56 3 x2) fun v57=>Q v57 S56)
 (a9 (d8 .eql x7 (.int .u8 10)) fun v58=>
 i9 v58
 (u6 S 1 (p9 1 (List.replicate 1 [(.int .i64 0)]) [(0,(.int .i64 0))]) 1 fun v59 S60=>
 o4 Try.prog E w0 r9 [v59] S60 fun v61 S62=>
 u6 S62 1 (p9 1 (List.replicate 2 [(.int .i64 0)]) [(0,(.int .i64 0)),(1,(.int .i64 0))]) 2 fun v63 S64=>
 o4 Try.prog E w0 j8 [v61,v63] S64 fun v65 S66=>
 f0 S66 3 x2 v65 fun v67 S68=>
 a9 (j0 S68 3 x2) fun v69=>Q v69 S68)
 (a9 (d8 .eql x7 (.int .u8 21)) fun v246=>
 i9 v246
 (a1f E w0 Q x1 x2 x3 x7 v246 S)
 (a9 (d8 .eql x7 (.int .u8 22)) fun v247=>
 a1f E w0 Q x1 x2 x3 x7 v247 S)))
def a0Z(E:m6)(w0:o3)(Q:D→b7→Prop)(x1 x2 x3 x7 x29:D)(S:b7):Prop:=k9 Try.prog E w0 c1L (n9 129 [1,2,3,7,29] [x1,x2,x3,x7,x29]) S (b8D E w0 Q)
theorem b6k{E:m6}{w0:o3}{Q:D→b7→Prop}{x1 x2 x3 x7 x29:D}{S:b7}(h:b2a E w0 Q x1 x2 x3 x7 x29 S):a0Z E w0 Q x1 x2 x3 x7 x29 S:=l8 C8 D4 C9 o9 (by kernel_rfl) h
noncomputable def c0F:Code:=(l9 [1,1,0,1,0,1,1,1] (Try.f91.body.getD .skip))
def b8l(E:m6)(w0:o3)(Q:D→b7→Prop):r4→List D→b7→Prop:=
 (t7 0 (I5 Try.prog E w0 C8 D4 C9 (l9 [1,1,1] (Try.f91.body.getD .skip)) (I4 Try.prog Try.f91 Q)))
def b1l(E:m6)(w0:o3)(Q:D→b7→Prop)(x1 x2 x3 x7 x18:D)(S:b7):Prop:=
 i9 x18
 (o4 Try.prog E w0 r9 [.nilSlc] S fun v32 S33=>
 u6 S33 1 (p9 1 (List.replicate 1 [(.int .i64 0)]) [(0,(.int .i64 4))]) 1 fun v34 S35=>
 o4 Try.prog E w0 j8 [v32,v34] S35 fun v36 S37=>
 f0 S37 3 x2 v36 fun v38 S39=>
 a9 (j0 S39 3 x2) fun v40=>Q v40 S39)
 (a9 (d8 .eql x7 (.int .u8 7)) fun v41=>
 i9 v41
 (o4 Try.prog E w0 r9 [.nilSlc] S fun v42 S43=>
 u6 S43 1 (p9 1 (List.replicate 1 [(.int .i64 0)]) [(0,(.int .i64 0))]) 1 fun v44 S45=>
 o4 Try.prog E w0 j8 [v42,v44] S45 fun v46 S47=>
 f0 S47 3 x2 v46 fun v48 S49=>
 a9 (j0 S49 3 x2) fun v50=>Q v50 S49)
 (a9 (d8 .eql x7 (.int .u8 8)) fun v248=>
 i9 v248
 (a0Z E w0 Q x1 x2 x3 x7 v248 S)
 (a9 (d8 .eql x7 (.int .u8 9)) fun v249=>
 a0Z E w0 Q x1 x2 x3 x7 v249 S)))
def a1h(E:m6)(w0:o3)(Q:D→b7→Prop)(x1 x2 x3 x7 x18:D)(S:b7):Prop:=k9 Try.prog E w0 c0F (n9 129 [1,2,3,7,18] [x1,x2,x3,x7,x18]) S (b8l E w0 Q)
theorem b4W{E:m6}{w0:o3}{Q:D→b7→Prop}{x1 x2 x3 x7 x18:D}{S:b7}(h:b1l E w0 Q x1 x2 x3 x7 x18 S):a1h E w0 Q x1 x2 x3 x7 x18 S:=l8 C8 D4 C9 o9 (by kernel_rfl) h
noncomputable def c0e:Code:=(l9 [1,1,0,1,0,1] (Try.f91.body.getD .skip))
def b8g(E:m6)(w0:o3)(Q:D→b7→Prop):r4→List D→b7→Prop:=
 (t7 0 (I5 Try.prog E w0 C8 D4 C9 (l9 [1,1,1] (Try.f91.body.getD .skip)) (I4 Try.prog Try.f91 Q)))
def b0S(E:m6)(w0:o3)(Q:D→b7→Prop)(x1 x2 x3 x7 x8:D)(S:b7):Prop:=
 i9 x8
 ((a9 (m8 0 x1) fun v8=>
 a9 (c9 S v8) fun v9=>
 a9 (I6 .i64 v9) fun v10=>
 o4 Try.prog E w0 r9 [.nilSlc] S fun v11 S12=>
 t6 v8 S S12∧u6 S12 1 (p9 1 (List.replicate 1 [(.int .i64 0)]) [(0,v10)]) 1 fun v13 S14=>
 o4 Try.prog E w0 j8 [v11,v13] S14 fun v15 S16=>
 f0 S16 3 x2 v15 fun v17 S18=>
 a9 (j0 S18 3 x2) fun v19=>Q v19 S18)∧
 (a9 (m8 0 x1) fun v20=>
 a9 (c9 S v20) fun v21=>
 a9 (I6 .i64 v21) fun v22=>
 u6 S 1 (p9 1 (List.replicate 1 [(.int .i64 0)]) [(0,v22)]) 1 fun v23 S24=>
 o4 Try.prog E w0 r9 [.nilSlc] S24 fun v25 S26=>
 o4 Try.prog E w0 j8 [v25,v23] S26 fun v27 S28=>
 f0 S28 3 x2 v27 fun v29 S30=>
 a9 (j0 S30 3 x2) fun v31=>Q v31 S30))
 (a9 (d8 .eql x7 (.int .u8 4)) fun v250=>
 i9 v250
 (a1h E w0 Q x1 x2 x3 x7 v250 S)
 (a9 (d8 .eql x7 (.int .u8 5)) fun v251=>
 a1h E w0 Q x1 x2 x3 x7 v251 S))
def Y9(E:m6)(w0:o3)(Q:D→b7→Prop)(x1 x2 x3 x7 x8:D)(S:b7):Prop:=k9 Try.prog E w0 c0e (n9 129 [1,2,3,7,8] [x1,x2,x3,x7,x8]) S (b8g E w0 Q)
theorem b5j{E:m6}{w0:o3}{Q:D→b7→Prop}{x1 x2 x3 x7 x8:D}{S:b7}(h:b0S E w0 Q x1 x2 x3 x7 x8 S):Y9 E w0 Q x1 x2 x3 x7 x8 S:=l8 C8 D4 C9 o9 (by kernel_rfl) h
def b7J(E:m6)(w0:o3)(Q:D→b7→Prop)(a0:D)(S:b7):Prop:=
 a9 (r7 a0) fun cs=>o6 S cs fun v0 S1=>
 o6 S1 [.nilSlc, .nilSlc,(.bool false)] fun v2 S3=>
 a9 (m8 1 v0) fun v4=>
 a9 (c9 S3 v4) fun v5=>
 a9 (m8 0 v0) fun v6=>
 a9 (c9 S3 v6) fun v7=>
 a9 (d8 .eql v7 (.int .u8 1)) fun v252=>
 i9 v252
 (Y9 E w0 Q v0 v2 v5 v7 v252 S3)
 (a9 (d8 .eql v7 (.int .u8 2)) fun v253=>
 i9 v253
 (Y9 E w0 Q v0 v2 v5 v7 v253 S3)
 (a9 (d8 .eql v7 (.int .u8 3)) fun v254=>
 Y9 E w0 Q v0 v2 v5 v7 v254 S3))
theorem c0D{E:m6}{w0:o3}{Q:D→b7→Prop}{a0:D}{S:b7}(h:b7J E w0 (d9 E Q) a0 S):o4 Try.prog E w0 b2m [a0] S Q:=
 m9 C8 D4 C9 (fn:=Try.f91) (c:=Try.f91.body.getD .skip) o9 Try.func91 (by kernel_rfl) (by kernel_rfl) h
def b6l:List (Nat×List Nat):=[]
def b4R:List (Nat×List Nat):=[(26,[7])]
def b5Q:List (Nat×Arr):=[(6,(.node 0 1 (.leaf [3,4,5,6,7,8,0,1,2,9,10]) (.leaf [3,4,5,6,7,8,1,0,2,9,10]))),(10,(.leaf [0,1,4,5,2,3,6,7,8]))]
noncomputable def c0C:Code:=(l9 [1,1,1,1] (Try.f77.body.getD .skip))
def b8q(E:m6)(w0:o3)(Q:D→b7→Prop):r4→List D→b7→Prop:=
 (I4 Try.prog Try.f77 Q)
def b1E(E:m6)(w0:o3)(Q:D→b7→Prop)(x7:D)(S:b7):Prop:=
 a9 (m8 2 x7) fun v10=>
 a9 (c9 S v10) fun v11=>
 a9 (unD .not v11) fun v12=>
 i9 v12
 (Q (.tup [.nilSlc, .nilSlc,(.int .i64 2)]) S)
 (a9 (m8 0 x7) fun v13=>
 a9 (c9 S v13) fun v14=>
 a9 (m8 1 x7) fun v15=>
 a9 (c9 S v15) fun v16=>
 Q (.tup [v14,v16,(.int .i64 0)]) S)
def I0(E:m6)(w0:o3)(Q:D→b7→Prop)(x7:D)(S:b7):Prop:=k9 Try.prog E w0 c0C (n9 71 [7] [x7]) S (b8q E w0 Q)
theorem b5a{E:m6}{w0:o3}{Q:D→b7→Prop}{x7:D}{S:b7}(h:b1E E w0 Q x7 S):I0 E w0 Q x7 S:=l8 b6l b4R b5Q o9 (by kernel_rfl) h
def b7H(E:m6)(w0:o3)(Q:D→b7→Prop)(a0 a1:D)(S:b7):Prop:=
 a9 (r7 a0) fun cs=>o6 S cs fun v0 S1=>
 a9 (r7 a1) fun cs=>o6 S1 cs fun v2 S3=>
 a9 (j0 S3 4 v0) fun v4=>
 o4 Try.prog E w0 b4s [v4] S3 fun v5 S6=>
 a9 (d8 .eql v5 (.int .i64 0)) fun v7=>
 i9 v7
 (Q (.tup [.nilSlc, .nilSlc,(.int .i64 120)]) S6)
 (o6 S6 [.nilSlc, .nilSlc,(.bool false)] fun v8 S9=>
 a9 (m8 0 v0) fun v17=>
 a9 (c9 S9 v17) fun v18=>
 a9 (d8 .eql v18 (.int .u8 6)) fun v19=>
 i9 v19
 ((a9 (m8 1 v0) fun v20=>
 a9 (c9 S9 v20) fun v21=>
 a9 (m8 1 v2) fun v22=>
 a9 (c9 S9 v22) fun v23=>
 a9 (r6 v23) fun v24=>
 a9 (d8 .lss v21 v24) fun v25=>
 o4 Try.prog E w0 r9 [.nilSlc] S9 fun v26 S27=>
 t6 v20 S9 S27∧t6 v22 S9 S27∧u6 S27 1 (p9 1 (List.replicate 1 [(.int .i64 0)]) [(0,(.int .i64 5))]) 1 fun v28 S29=>
 t6 v20 S9 S29∧t6 v22 S9 S29∧o4 Try.prog E w0 j8 [v26,v28] S29 fun v30 S31=>
 t6 v20 S9 S31∧t6 v22 S9 S31∧o4 Try.prog E w0 q9 [v30,v25] S31 fun v32 S33=>
 f0 S33 3 v8 v32 fun v34 S35=>
 I0 E w0 Q v8 S35)∧
 (a9 (m8 1 v0) fun v36=>
 a9 (c9 S9 v36) fun v37=>
 a9 (m8 1 v2) fun v38=>
 a9 (c9 S9 v38) fun v39=>
 a9 (r6 v39) fun v40=>
 a9 (d8 .lss v37 v40) fun v41=>
 u6 S9 1 (p9 1 (List.replicate 1 [(.int .i64 0)]) [(0,(.int .i64 5))]) 1 fun v42 S43=>
 t6 v36 S9 S43∧t6 v38 S9 S43∧o4 Try.prog E w0 r9 [.nilSlc] S43 fun v44 S45=>
 t6 v36 S9 S45∧t6 v38 S9 S45∧o4 Try.prog E w0 j8 [v44,v42] S45 fun v46 S47=>
 t6 v36 S9 S47∧t6 v38 S9 S47∧o4 Try.prog E w0 q9 [v46,v41] S47 fun v48 S49=>
 f0 S49 3 v8 v48 fun v50 S51=>
 I0 E w0 Q v8 S51))
 (a9 (m8 0 v0) fun v52=>
 a9 (c9 S9 v52) fun v53=>
 a9 (d8 .eql v53 (.int .u8 50)) fun v54=>
 i9 v54
 (a9 (m8 1 v0) fun v55=>
 a9 (c9 S9 v55) fun v56=>
 a9 (m8 2 v2) fun v57=>
 a9 (c9 S9 v57) fun v58=>
 a9 (r6 v58) fun v59=>
 a9 (d8 .lss v56 v59) fun v60=>
 i9 v60
 (a9 (m8 2 v2) fun v61=>
 a9 (c9 S9 v61) fun v62=>
 a9 (m8 1 v0) fun v63=>
 a9 (c9 S9 v63) fun v64=>
 a9 (A7 6 v62 v64) fun v65=>
 a9 (j0 S9 6 v65) fun v66=>
 o6 S9 [(.str []), .nilSlc, .nilSlc,(.int .i64 0),(.int .i64 0), .nilSlc] fun v67 S68=>
 f0 S68 6 v67 v66 fun v69 S70=>
 a9 (m8 1 v67) fun v71=>
 a9 (c9 S70 v71) fun v72=>
 a9 (m8 2 v67) fun v73=>
 a9 (c9 S70 v73) fun v74=>
 o4 Try.prog E w0 O7 [v72] S70 fun v75 S76=>
 t6 v73 S70 S76∧o4 Try.prog E w0 r9 [v75] S76 fun v77 S78=>
 t6 v73 S70 S78∧o4 Try.prog E w0 O7 [v74] S78 fun v79 S80=>
 o4 Try.prog E w0 j8 [v77,v79] S80 fun v81 S82=>
 f0 S82 3 v8 v81 fun v83 S84=>
 I0 E w0 Q v8 S84)
 (I0 E w0 Q v8 S9))
 (a9 (m8 0 v0) fun v85=>
 a9 (c9 S9 v85) fun v86=>
 a9 (d8 .geq v86 (.int .u8 36)) fun v87=>
 a9 (j9 (d6 v87 true) (m8 0 v0)) fun v88=>
 a9 (j9 (d6 v87 true) (c9 S9 v88)) fun v89=>
 a9 (j9 (d6 v87 true) (d8 .leq v89 (.int .u8 45))) fun v90=>
 a9 (z2 v87 v90 (.bool false)) fun v91=>
 i9 v91
 (a9 (j0 S9 4 v0) fun v92=>
 a9 (j0 S9 3 v2) fun v93=>
 o4 Try.prog E w0 b4D [v92,v93] S9 fun v94 S95=>
 f0 S95 3 v8 v94 fun v96 S97=>
 I0 E w0 Q v8 S97)
 (a9 (j0 S9 4 v0) fun v98=>
 o4 Try.prog E w0 b2m [v98] S9 fun v99 S100=>
 f0 S100 3 v8 v99 fun v101 S102=>
 I0 E w0 Q v8 S102))))
theorem c1o{E:m6}{w0:o3}{Q:D→b7→Prop}{a0 a1:D}{S:b7}(h:b7H E w0 (d9 E Q) a0 a1 S):o4 Try.prog E w0 a7h [a0,a1] S Q:=
 m9 b6l b4R b5Q (fn:=Try.f77) (c:=Try.f77.body.getD .skip) o9 Try.func77 (by kernel_rfl) (by kernel_rfl) h
def b2Q:List (Nat×List Nat):=[]
def b2T:List (Nat×List Nat):=[]
def b3a:List (Nat×Arr):=[]
def a2a(E:m6)(w0:o3)(Q:D→b7→Prop)(a0:D)(S:b7):Prop:=
 a9 (a9j .eql (c6d a0 .nilSlc)) fun v0=>
 i9 v0
 (Q .nilSlc S)
 (u6 S 1 (p9 1 (List.replicate 0 [(.int .i64 0)]) []) 0 fun v1 S2=>
 y9 S2 1 8 v1 a0 fun v3 S4=>
 Q v3 S4)
theorem a3r{E:m6}{w0:o3}{Q:D→b7→Prop}{a0:D}{S:b7}(h:a2a E w0 (d9 E Q) a0 S):o4 Try.prog E w0 O7 [a0] S Q:=
 m9 b2Q b2T b3a (fn:=Try.f89) (c:=Try.f89.body.getD .skip) o9 Try.func89 (by kernel_rfl) (by kernel_rfl) h
def a7G:List (Nat×List Nat):=[]
def a7D:List (Nat×List Nat):=[]
def a7u:List (Nat×Arr):=[]
def a2m(E:m6)(w0:o3)(Q:D→b7→Prop)(a0 a1:D)(S:b7):Prop:=
 o4 Try.prog E w0 a1g [a0,a1] S fun v0 S1=>
 a9 (d8 .geq v0 (.int .i64 0)) fun v2=>
 Q v2 S1
theorem a5z{E:m6}{w0:o3}{Q:D→b7→Prop}{a0 a1:D}{S:b7}(h:a2m E w0 (d9 E Q) a0 a1 S):o4 Try.prog E w0 Y5 [a0,a1] S Q:=
 m9 a7G a7D a7u (fn:=Try.f99) (c:=Try.f99.body.getD .skip) o9 Try.func99 (by kernel_rfl) (by kernel_rfl) h
def a0F:List (Nat×List Nat):=[(4,[0,1,7,8])]
def a0J:List (Nat×List Nat):=[]
def a0K:List (Nat×Arr):=[]
noncomputable def a0o:Code:=(l9 [1,0,1,0,0] (Try.f100.body.getD .skip))
def a0k(E:m6)(w0:o3)(Q:D→b7→Prop):r4→List D→b7→Prop:=
 (t7 0 (I5 Try.prog E w0 a0F a0J a0K (l9 [1,1] (Try.f100.body.getD .skip)) (I4 Try.prog Try.f100 Q)))
def a0e(E:m6)(w0:o3)(N0:D→D→D→D→b7→Prop)(Q:D→b7→Prop)(x0 x1 x7 x8:D)(S:b7):Prop:=
 a9 (d8 .lss x8 x7) fun v1=>
 i9 v1
 (a9 (A7 1 x0 x8) fun v2=>
 a9 (c9 S v2) fun v3=>
 a9 (d8 .eql x1 v3) fun v4=>
 i9 v4
 (Q x8 S)
 (a9 (d8 .add x8 (.int .i64 1)) fun v5=>
 N0 x0 x1 x7 v5 S))
 (Q (.int .i64 (-1)) S)
theorem a6I{E:m6}{w0:o3}{N0:D→D→D→D→b7→Prop}{Q:D→b7→Prop}{x0 x1 x7 x8:D}{S:b7}(h:a0e E w0 N0 Q x0 x1 x7 x8 S):
  k9 Try.prog E w0 a0o (n9 19 [0,1,7,8] [x0,x1,x7,x8]) S (C0 (fun T S=>N0 (T.getD 0 b8) (T.getD 1 b8) (T.getD 7 b8) (T.getD 8 b8) S) (a0k E w0 Q)):=l8 a0F a0J a0K o9 (by kernel_rfl) h
theorem a6D{E:m6}{w0:o3}{Q:D→b7→Prop}(I:Nat→D→D→D→D→b7→Prop)
  (step:∀n x0 x1 x7 x8 S,I n x0 x1 x7 x8 S→a0e E w0 (fun x0 x1 x7 x8 S=>∃m,m<n∧I m x0 x1 x7 x8 S) Q x0 x1 x7 x8 S)
  {n:Nat} {x0 x1 x7 x8:D} {S:b7} (h:I n x0 x1 x7 x8 S):k9 Try.prog E w0 (.loop a0o) (n9 19 [0,1,7,8] [x0,x1,x7,x8]) S (a0k E w0 Q):=
 r8 (k:=19) (n:=n) (I:=fun n T S=>I n (T.getD 0 b8) (T.getD 1 b8) (T.getD 7 b8) (T.getD 8 b8) S) (fun n T S hl hI=>s6 [0,1,7,8] hl (k9.mono (a6I (step n _ _ _ _ S hI)) fun ex T' S' _ hq=>by cases ex<;>exact hq)) (o7 ..) (Eq.mp (by kernel_rfl) h)
def a4l(E:m6)(w0:o3)(Q:D→b7→Prop)(a0 a1:D)(S:b7):Prop:=
 a9 (r6 a0) fun v0=>
 k9 Try.prog E w0 (.loop a0o) (n9 19 [0,1,7,8] [a0,a1,v0,(.int .i64 0)]) S (a0k E w0 Q)
theorem a8h{E:m6}{w0:o3}{Q:D→b7→Prop}{a0 a1:D}{S:b7}(h:a4l E w0 (d9 E Q) a0 a1 S):o4 Try.prog E w0 a1g [a0,a1] S Q:=
 m9 a0F a0J a0K (fn:=Try.f100) (c:=Try.f100.body.getD .skip) o9 Try.func100 (by kernel_rfl) (by kernel_rfl) h
end Go.Proofs.Ytchnpgddpaonhaa.d
end
