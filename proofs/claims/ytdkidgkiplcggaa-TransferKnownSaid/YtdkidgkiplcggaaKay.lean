/-
  TransferKnownSaid: part Kay of its proof.
-/
import Derived.Test.YtdkidgkiplcggaaRows
import Derived.Test.YtdkidgkiplcggaaKar
import Derived.KernelRfl
set_option linter.unusedVariables false
set_option linter.unusedSimpArgs false
set_option maxRecDepth 100000
section
open Go.Proofs Go Go.Am
namespace Go.Proofs.Ytdkidgkiplcggaa.d
def c4f:List (Nat×List Nat):=[]
def c4K:List (Nat×List Nat):=[]
def c4F:List (Nat×V5):=[]
def b8k(E:i9)(w0:j7)(Q:D→b8→Prop)(a0 a1 a2:D)(S:b8):Prop:=
 b7 (o4 a0) fun cs=>j8 S cs fun v0 S1=>
 j8 S1 [(.int .u8 0),(.str []), .nilSlc,(.int .i64 0),(.int .i64 0)] fun v2 S3=>
 b7 (f9 .lss a1 (.int .i64 16)) fun v4=>
 b7 (d8 (b9 v4 false) (some a1)) fun v5=>
 b7 (d8 (b9 v4 false) (f9 .sub v5 (.int .i64 16))) fun v6=>
 b7 (d8 (b9 v4 false) (j5 0 v0)) fun v7=>
 b7 (d8 (b9 v4 false) (d0 S3 v7)) fun v8=>
 b7 (d8 (b9 v4 false) (m9 v8)) fun v9=>
 b7 (d8 (b9 v4 false) (f9 .geq v6 v9)) fun v10=>
 b7 (o0 v4 (.bool true) v10) fun v11=>
 i5 v11
 (b7 (C3 (o8 [(.int .u8 0),(.str []), .nilSlc,(.int .i64 0),(.int .i64 0)] [])) fun v12=>
 i7 S3 5 v2 v12 fun v13 S14=>
 b7 (i4 S14 5 v2) fun v15=>Q (.tup [v15,(.bool false)]) S14)
 (b7 (j5 0 v0) fun v16=>
 b7 (d0 S3 v16) fun v17=>
 b7 (f9 .sub a1 (.int .i64 16)) fun v18=>
 b7 (p9 5 v17 v18) fun v19=>
 b7 (i4 S3 5 v19) fun v20=>
 j8 S3 [(.int .u8 0),(.str []), .nilSlc,(.int .i64 0),(.int .i64 0)] fun v21 S22=>
 i7 S22 5 v21 v20 fun v23 S24=>
 b7 (i4 S24 5 v21) fun v25=>
 b7 (j5 0 v21) fun v26=>
 b7 (d0 S24 v26) fun v27=>
 j6 Try.prog E w0 W7 [a2,v27] S24 fun v28 S29=>
 r3 v21 S24 S29∧i7 S29 5 v2 v25 fun v30 S31=>
 b7 (i4 S31 5 v2) fun v32=>Q (.tup [v32,v28]) S31)
theorem b9T{E:i9}{w0:j7}{Q:D→b8→Prop}{a0 a1 a2:D}{S:b8}(h:b8k E w0 (d9 E Q) a0 a1 a2 S):j6 Try.prog E w0 X6 [a0,a1,a2] S Q:=
 j4 c4f c4K c4F (fn:=Try.f116) (c:=Try.f116.body.getD .skip) mixed Try.func116 (by kernel_rfl) (by kernel_rfl) h
def d0s:List (Nat×List Nat):=[]
def d0l:List (Nat×List Nat):=[]
def d0g:List (Nat×V5):=[]
def c7h(E:i9)(w0:j7)(Q:D→b8→Prop)(a0:D)(S:b8):Prop:=
 j8 S [.nilSlc, .nilSlc,(.bool false)] fun v0 S1=>
 b7 (C3 (o8 [.nilSlc, .nilSlc,(.bool false)] [(0,1,a0),(2,1,(.bool true))])) fun v2=>
 i7 S1 3 v0 v2 fun v3 S4=>
 b7 (i4 S4 3 v0) fun v5=>Q v5 S4
theorem c7j{E:i9}{w0:j7}{Q:D→b8→Prop}{a0:D}{S:b8}(h:c7h E w0 (d9 E Q) a0 S):j6 Try.prog E w0 o9 [a0] S Q:=
 j4 d0s d0l d0g (fn:=Try.f94) (c:=Try.f94.body.getD .skip) mixed Try.func94 (by kernel_rfl) (by kernel_rfl) h
def b2L:List (Nat×List Nat):=[]
def b2P:List (Nat×List Nat):=[]
def b2I:List (Nat×V5):=[]
def a6a(E:i9)(w0:j7)(Q:D→b8→Prop)(a0 a1:D)(S:b8):Prop:=
 b7 (o4 a0) fun cs=>j8 S cs fun v0 S1=>
 j8 S1 [.nilSlc, .nilSlc,(.bool false)] fun v2 S3=>
 b7 (j5 1 v0) fun v4=>
 i7 S3 1 v4 a1 fun v5 S6=>
 b7 (i4 S6 3 v0) fun v7=>
 i7 S6 3 v2 v7 fun v8 S9=>
 b7 (i4 S9 3 v2) fun v10=>Q v10 S9
theorem b0o{E:i9}{w0:j7}{Q:D→b8→Prop}{a0 a1:D}{S:b8}(h:a6a E w0 (d9 E Q) a0 a1 S):j6 Try.prog E w0 i6 [a0,a1] S Q:=
 j4 b2L b2P b2I (fn:=Try.f95) (c:=Try.f95.body.getD .skip) mixed Try.func95 (by kernel_rfl) (by kernel_rfl) h
def b2X:List (Nat×List Nat):=[]
def b2D:List (Nat×List Nat):=[]
def b2K:List (Nat×V5):=[]
def a5S(E:i9)(w0:j7)(Q:D→b8→Prop)(a0 a1:D)(S:b8):Prop:=
 b7 (o4 a0) fun cs=>j8 S cs fun v0 S1=>
 j8 S1 [.nilSlc, .nilSlc,(.bool false)] fun v2 S3=>
 b7 (j5 2 v0) fun v4=>
 i7 S3 1 v4 a1 fun v5 S6=>
 b7 (i4 S6 3 v0) fun v7=>
 i7 S6 3 v2 v7 fun v8 S9=>
 b7 (i4 S9 3 v2) fun v10=>Q v10 S9
theorem b0l{E:i9}{w0:j7}{Q:D→b8→Prop}{a0 a1:D}{S:b8}(h:a5S E w0 (d9 E Q) a0 a1 S):j6 Try.prog E w0 o3 [a0,a1] S Q:=
 j4 b2X b2D b2K (fn:=Try.f96) (c:=Try.f96.body.getD .skip) mixed Try.func96 (by kernel_rfl) (by kernel_rfl) h
def a1b:List (Nat×List Nat):=[(20,[4,5,7,8,42,43,44])]
def a0R:List (Nat×List Nat):=[(25,[2,3,4,5,25,26])]
def a0Q:List (Nat×V5):=[(32,(.node 1 5 (.node 2 5 (.leaf [0,3,4,7,1,2,5,6,8,9]) (.leaf [0,3,4,7,1,5,2,6,8,9])) (.leaf [0,3,4,7,5,1,2,6,8,9]))),(36,(.node 1 5 (.node 2 5 (.leaf [0,3,4,7,1,2,5,6,8,9]) (.leaf [0,3,4,7,1,5,2,6,8,9])) (.leaf [0,3,4,7,5,1,2,6,8,9])))]
noncomputable def a8E:Code:=(j9 [1,1,0,1,0,1,0,1,0,1,0,1,0,1,0,0] (Try.f97.body.getD .skip))
def a9m(E:i9)(w0:j7)(Q:D→b8→Prop):o7→List D→b8→Prop:=
 (r8 1 (L3 Try.prog E w0 a1b a0R a0Q (j9 [1,1,0,1,0,1,0,1,0,1,0,1,1] (Try.f97.body.getD .skip)) (L3 Try.prog E w0 a1b a0R a0Q (j9 [1,1,0,1,0,1,0,1,1] (Try.f97.body.getD .skip)) (r8 0 (L3 Try.prog E w0 a1b a0R a0Q (j9 [1,1,1] (Try.f97.body.getD .skip)) (F3 Try.prog Try.f97 Q))))))
def a9v(E:i9)(w0:j7)(N0:D→D→D→D→D→D→D→b8→Prop)(Q:D→b8→Prop)(x4 x5 x7 x8 x42 x43 x44:D)(S:b8):Prop:=
 b7 (f9 .lss x44 x43) fun v29=>
 i5 v29
 (b7 (p9 2 x42 x44) fun v30=>
 b7 (i4 S 2 v30) fun v31=>
 j8 S [(.str []),(.int .i64 0)] fun v32 S33=>
 i7 S33 2 v32 v31 fun v34 S35=>
 b7 (j5 1 v32) fun v36=>
 b7 (d0 S35 v36) fun v37=>
 m8 S35 1 (j1 1 (List.replicate 1 [(.int .i64 0)]) [(0,v37)]) 1 fun v38 S39=>
 s8 S39 1 8 x8 v38 fun v40 S41=>
 b7 (f9 .add x44 (.int .i64 1)) fun v42=>
 N0 x4 x5 x7 v40 x42 x43 v42 S41)
 (j6 Try.prog E w0 o9 [x8] S fun v43 S44=>
 m8 S44 1 (j1 1 (List.replicate 1 [(.int .i64 0)]) [(0,x5)]) 1 fun v45 S46=>
 j6 Try.prog E w0 i6 [v43,v45] S46 fun v47 S48=>
 j6 Try.prog E w0 o3 [v47,x7] S48 fun v49 S50=>
 i7 S50 3 x4 v49 fun v51 S52=>
 b7 (i4 S52 3 x4) fun v53=>Q v53 S52)
theorem b8Y{E:i9}{w0:j7}{N0:D→D→D→D→D→D→D→b8→Prop}{Q:D→b8→Prop}{x4 x5 x7 x8 x42 x43 x44:D}{S:b8}(h:a9v E w0 N0 Q x4 x5 x7 x8 x42 x43 x44 S):
  j3 Try.prog E w0 a8E (l9 200 [4,5,7,8,42,43,44] [x4,x5,x7,x8,x42,x43,x44]) S (D8 (fun T S=>N0 (T.getD 4 c9) (T.getD 5 c9) (T.getD 7 c9) (T.getD 8 c9) (T.getD 42 c9) (T.getD 43 c9) (T.getD 44 c9) S) (a9m E w0 Q)):=j0 a1b a0R a0Q mixed (by kernel_rfl) h
theorem b8G{E:i9}{w0:j7}{Q:D→b8→Prop}(I:Nat→D→D→D→D→D→D→D→b8→Prop)
  (step:∀n x4 x5 x7 x8 x42 x43 x44 S,I n x4 x5 x7 x8 x42 x43 x44 S→a9v E w0 (fun x4 x5 x7 x8 x42 x43 x44 S=>∃m,m<n∧I m x4 x5 x7 x8 x42 x43 x44 S) Q x4 x5 x7 x8 x42 x43 x44 S)
  {n:Nat} {x4 x5 x7 x8 x42 x43 x44:D} {S:b8} (h:I n x4 x5 x7 x8 x42 x43 x44 S):j3 Try.prog E w0 (.loop a8E) (l9 200 [4,5,7,8,42,43,44] [x4,x5,x7,x8,x42,x43,x44]) S (a9m E w0 Q):=
 q9 (k:=200) (n:=n) (I:=fun n T S=>I n (T.getD 4 c9) (T.getD 5 c9) (T.getD 7 c9) (T.getD 8 c9) (T.getD 42 c9) (T.getD 43 c9) (T.getD 44 c9) S) (fun n T S hl hI=>s4 [4,5,7,8,42,43,44] hl (j3.mono (b8Y (step n _ _ _ _ _ _ _ S hI)) fun ex T' S' _ hq=>by cases ex<;>exact hq)) (o5 ..) (Eq.mp (by kernel_rfl) h)
noncomputable def c2k:Code:=(j9 [1,1,0,1,0,1] (Try.f97.body.getD .skip))
def c0F(E:i9)(w0:j7)(Q:D→b8→Prop):o7→List D→b8→Prop:=
 (r8 0 (L3 Try.prog E w0 a1b a0R a0Q (j9 [1,1,1] (Try.f97.body.getD .skip)) (F3 Try.prog Try.f97 Q)))
def b3i(E:i9)(w0:j7)(Q:D→b8→Prop)(x2 x3 x4 x5 x25 x26:D)(S:b8):Prop:=
 i5 x26
 (b7 (i4 S 3 x3) fun v10=>
 b7 (j5 1 x2) fun v11=>
 b7 (d0 S v11) fun v12=>
 m8 S 1 (j1 1 (List.replicate 1 [(.int .u8 0)]) [(0,(.int .u8 6))]) 1 fun v13 S14=>
 j6 Try.prog E w0 X6 [v10,v12,v13] S14 fun v15 S16=>
 b7 (j2 v15 0) fun v17=>
 b7 (j2 v15 1) fun v18=>
 j8 S16 [(.int .u8 0),(.str []), .nilSlc,(.int .i64 0),(.int .i64 0)] fun v19 S20=>
 i7 S20 5 v19 v17 fun v21 S22=>
 b7 (j5 0 x2) fun v23=>
 b7 (d0 S22 v23) fun v24=>
 b7 (f9 .eql v24 (.int .u8 36)) fun v25=>
 i5 v25
 (b7 (j5 2 v19) fun v26=>
 b7 (d0 S22 v26) fun v27=>
 b7 (m9 v27) fun v28=>
 j3 Try.prog E w0 (.loop a8E) (l9 200 [4,5,7,8,42,43,44] [x4,x5,v18, .nilSlc,v27,v28,(.int .i64 0)]) S22 (a9m E w0 Q))
 (b7 (unD .not v18) fun v54=>
 b7 (d8 (b9 v54 false) (j5 2 x2)) fun v55=>
 b7 (d8 (b9 v54 false) (d0 S22 v55)) fun v56=>
 b7 (d8 (b9 v54 false) (j5 2 v19)) fun v57=>
 b7 (d8 (b9 v54 false) (d0 S22 v57)) fun v58=>
 b7 (d8 (b9 v54 false) (m9 v58)) fun v59=>
 b7 (d8 (b9 v54 false) (f9 .geq v56 v59)) fun v60=>
 b7 (o0 v54 (.bool true) v60) fun v61=>
 i5 v61
 (b7 (C3 (o8 [.nilSlc, .nilSlc,(.bool false)] [])) fun v62=>
 i7 S22 3 x4 v62 fun v63 S64=>
 b7 (i4 S64 3 x4) fun v65=>Q v65 S64)
 (b7 (j5 2 v19) fun v66=>
 b7 (d0 S22 v66) fun v67=>
 b7 (j5 2 x2) fun v68=>
 b7 (d0 S22 v68) fun v69=>
 b7 (p9 2 v67 v69) fun v70=>
 b7 (j5 1 v70) fun v71=>
 b7 (d0 S22 v71) fun v72=>
 b7 (j5 0 x2) fun v73=>
 b7 (d0 S22 v73) fun v74=>
 b7 (f9 .eql v74 (.int .u8 38)) fun v75=>
 i5 v75
 (m8 S22 1 (j1 1 (List.replicate 2 [(.int .i64 0)]) [(0,x5),(1,v72)]) 2 fun v76 S77=>
 j6 Try.prog E w0 o9 [v76] S77 fun v78 S79=>
 i7 S79 3 x4 v78 fun v80 S81=>
 b7 (i4 S81 3 x4) fun v82=>Q v82 S81)
 (m8 S22 1 (j1 1 (List.replicate 1 [(.int .i64 0)]) [(0,x5)]) 1 fun v83 S84=>
 j6 Try.prog E w0 o9 [v83] S84 fun v85 S86=>
 m8 S86 1 (j1 1 (List.replicate 1 [(.int .i64 0)]) [(0,v72)]) 1 fun v87 S88=>
 j6 Try.prog E w0 i6 [v85,v87] S88 fun v89 S90=>
 i7 S90 3 x4 v89 fun v91 S92=>
 b7 (i4 S92 3 x4) fun v93=>Q v93 S92))))
 (b7 (f9 .eql x25 (.int .u8 39)) fun v94=>
 i5 v94
 (b7 (i4 S 3 x3) fun v95=>
 b7 (j5 1 x2) fun v96=>
 b7 (d0 S v96) fun v97=>
 m8 S 1 (j1 1 (List.replicate 1 [(.int .u8 0)]) [(0,(.int .u8 7))]) 1 fun v98 S99=>
 j6 Try.prog E w0 X6 [v95,v97,v98] S99 fun v100 S101=>
 b7 (j2 v100 0) fun v102=>
 b7 (j2 v100 1) fun v103=>
 j8 S101 [(.int .u8 0),(.str []), .nilSlc,(.int .i64 0),(.int .i64 0)] fun v104 S105=>
 i7 S105 5 v104 v102 fun v106 S107=>
 b7 (j5 3 v104) fun v108=>
 b7 (d0 S107 v108) fun v109=>
 m8 S107 1 (j1 1 (List.replicate 1 [(.int .i64 0)]) [(0,v109)]) 1 fun v110 S111=>
 j6 Try.prog E w0 o9 [v110] S111 fun v112 S113=>
 m8 S113 1 (j1 1 (List.replicate 1 [(.int .i64 0)]) [(0,x5)]) 1 fun v114 S115=>
 j6 Try.prog E w0 i6 [v112,v114] S115 fun v116 S117=>
 j6 Try.prog E w0 o3 [v116,v103] S117 fun v118 S119=>
 i7 S119 3 x4 v118 fun v120 S121=>
 b7 (i4 S121 3 x4) fun v122=>Q v122 S121)
 (b7 (f9 .eql x25 (.int .u8 40)) fun v123=>
 i5 v123
 (b7 (i4 S 3 x3) fun v124=>
 b7 (j5 1 x2) fun v125=>
 b7 (d0 S v125) fun v126=>
 m8 S 1 (j1 1 (List.replicate 1 [(.int .u8 0)]) [(0,(.int .u8 8))]) 1 fun v127 S128=>
 j6 Try.prog E w0 X6 [v124,v126,v127] S128 fun v129 S130=>
 b7 (j2 v129 0) fun v131=>
 b7 (j2 v129 1) fun v132=>
 j8 S130 [(.int .u8 0),(.str []), .nilSlc,(.int .i64 0),(.int .i64 0)] fun v133 S134=>
 i7 S134 5 v133 v131 fun v135 S136=>
 j6 Try.prog E w0 o9 [.nilSlc] S136 fun v137 S138=>
 m8 S138 1 (j1 1 (List.replicate 1 [(.int .i64 0)]) [(0,x5)]) 1 fun v139 S140=>
 j6 Try.prog E w0 i6 [v137,v139] S140 fun v141 S142=>
 j6 Try.prog E w0 o3 [v141,v132] S142 fun v143 S144=>
 i7 S144 3 x4 v143 fun v145 S146=>
 b7 (i4 S146 3 x4) fun v147=>Q v147 S146)
 (b7 (f9 .eql x25 (.int .u8 44)) fun v148=>
 i5 v148
 (b7 (i4 S 3 x3) fun v149=>
 b7 (j5 1 x2) fun v150=>
 b7 (d0 S v150) fun v151=>
 m8 S 1 (j1 1 (List.replicate 1 [(.int .u8 0)]) [(0,(.int .u8 8))]) 1 fun v152 S153=>
 j6 Try.prog E w0 X6 [v149,v151,v152] S153 fun v154 S155=>
 b7 (j2 v154 0) fun v156=>
 b7 (j2 v154 1) fun v157=>
 j8 S155 [(.int .u8 0),(.str []), .nilSlc,(.int .i64 0),(.int .i64 0)] fun v158 S159=>
 i7 S159 5 v158 v156 fun v160 S161=>
 b7 (j5 3 v158) fun v162=>
 b7 (d0 S161 v162) fun v163=>
 m8 S161 1 (j1 1 (List.replicate 2 [(.int .i64 0)]) [(0,x5),(1,v163)]) 2 fun v164 S165=>
 j6 Try.prog E w0 o9 [v164] S165 fun v166 S167=>
 j6 Try.prog E w0 o3 [v166,v157] S167 fun v168 S169=>
 i7 S169 3 x4 v168 fun v170 S171=>
 b7 (i4 S171 3 x4) fun v172=>Q v172 S171)
 (b7 (f9 .eql x25 (.int .u8 45)) fun v173=>
 i5 v173
 (b7 (i4 S 3 x3) fun v174=>
 b7 (j5 1 x2) fun v175=>
 b7 (d0 S v175) fun v176=>
 m8 S 1 (j1 1 (List.replicate 1 [(.int .u8 0)]) [(0,(.int .u8 8))]) 1 fun v177 S178=>
 j6 Try.prog E w0 X6 [v174,v176,v177] S178 fun v179 S180=>
 b7 (j2 v179 0) fun v181=>
 b7 (j2 v179 1) fun v182=>
 j8 S180 [(.int .u8 0),(.str []), .nilSlc,(.int .i64 0),(.int .i64 0)] fun v183 S184=>
 i7 S184 5 v183 v181 fun v185 S186=>
 ((b7 (j5 3 v183) fun v187=>
 b7 (d0 S186 v187) fun v188=>
 m8 S186 1 (j1 1 (List.replicate 1 [(.int .i64 0)]) [(0,x5)]) 1 fun v189 S190=>
 r3 v187 S186 S190∧j6 Try.prog E w0 o9 [v189] S190 fun v191 S192=>
 r3 v187 S186 S192∧m8 S192 1 (j1 1 (List.replicate 1 [(.int .i64 0)]) [(0,v188)]) 1 fun v193 S194=>
 j6 Try.prog E w0 i6 [v191,v193] S194 fun v195 S196=>
 j6 Try.prog E w0 o3 [v195,v182] S196 fun v197 S198=>
 i7 S198 3 x4 v197 fun v199 S200=>
 b7 (i4 S200 3 x4) fun v201=>Q v201 S200)∧
 (b7 (j5 3 v183) fun v202=>
 b7 (d0 S186 v202) fun v203=>
 m8 S186 1 (j1 1 (List.replicate 1 [(.int .i64 0)]) [(0,x5)]) 1 fun v204 S205=>
 r3 v202 S186 S205∧m8 S205 1 (j1 1 (List.replicate 1 [(.int .i64 0)]) [(0,v203)]) 1 fun v206 S207=>
 j6 Try.prog E w0 o9 [v204] S207 fun v208 S209=>
 j6 Try.prog E w0 i6 [v208,v206] S209 fun v210 S211=>
 j6 Try.prog E w0 o3 [v210,v182] S211 fun v212 S213=>
 i7 S213 3 x4 v212 fun v214 S215=>
 b7 (i4 S215 3 x4) fun v216=>Q v216 S215))∧
 (b7 (j5 3 v183) fun v217=>
 b7 (d0 S186 v217) fun v218=>
 m8 S186 1 (j1 1 (List.replicate 1 [(.int .i64 0)]) [(0,v218)]) 1 fun v219 S220=>
 m8 S220 1 (j1 1 (List.replicate 1 [(.int .i64 0)]) [(0,x5)]) 1 fun v221 S222=>
 j6 Try.prog E w0 o9 [v221] S222 fun v223 S224=>
 j6 Try.prog E w0 i6 [v223,v219] S224 fun v225 S226=>
 j6 Try.prog E w0 o3 [v225,v182] S226 fun v227 S228=>
 i7 S228 3 x4 v227 fun v229 S230=>
 b7 (i4 S230 3 x4) fun v231=>Q v231 S230))
 (b7 (i4 S 3 x3) fun v232=>
 b7 (j5 1 x2) fun v233=>
 b7 (d0 S v233) fun v234=>
 m8 S 1 (j1 1 (List.replicate 2 [(.int .u8 0)]) [(0,(.int .u8 7)),(1,(.int .u8 8))]) 2 fun v235 S236=>
 j6 Try.prog E w0 X6 [v232,v234,v235] S236 fun v237 S238=>
 b7 (j2 v237 0) fun v239=>
 b7 (j2 v237 1) fun v240=>
 j8 S238 [(.int .u8 0),(.str []), .nilSlc,(.int .i64 0),(.int .i64 0)] fun v241 S242=>
 i7 S242 5 v241 v239 fun v243 S244=>
 b7 (j5 0 x2) fun v245=>
 b7 (d0 S244 v245) fun v246=>
 b7 (f9 .eql v246 (.int .u8 41)) fun v247=>
 i5 v247
 (((b7 (j5 3 v241) fun v248=>
 b7 (d0 S244 v248) fun v249=>
 m8 S244 1 (j1 1 (List.replicate 2 [(.int .i64 0)]) [(0,x5),(1,(.int .i64 3))]) 2 fun v250 S251=>
 r3 v248 S244 S251∧j6 Try.prog E w0 o9 [v250] S251 fun v252 S253=>
 r3 v248 S244 S253∧m8 S253 1 (j1 1 (List.replicate 1 [(.int .i64 0)]) [(0,v249)]) 1 fun v254 S255=>
 j6 Try.prog E w0 i6 [v252,v254] S255 fun v256 S257=>
 j6 Try.prog E w0 o3 [v256,v240] S257 fun v258 S259=>
 i7 S259 3 x4 v258 fun v260 S261=>
 b7 (i4 S261 3 x4) fun v262=>Q v262 S261)∧
 (b7 (j5 3 v241) fun v263=>
 b7 (d0 S244 v263) fun v264=>
 m8 S244 1 (j1 1 (List.replicate 2 [(.int .i64 0)]) [(0,x5),(1,(.int .i64 3))]) 2 fun v265 S266=>
 r3 v263 S244 S266∧m8 S266 1 (j1 1 (List.replicate 1 [(.int .i64 0)]) [(0,v264)]) 1 fun v267 S268=>
 j6 Try.prog E w0 o9 [v265] S268 fun v269 S270=>
 j6 Try.prog E w0 i6 [v269,v267] S270 fun v271 S272=>
 j6 Try.prog E w0 o3 [v271,v240] S272 fun v273 S274=>
 i7 S274 3 x4 v273 fun v275 S276=>
 b7 (i4 S276 3 x4) fun v277=>Q v277 S276))∧
 (b7 (j5 3 v241) fun v278=>
 b7 (d0 S244 v278) fun v279=>
 m8 S244 1 (j1 1 (List.replicate 1 [(.int .i64 0)]) [(0,v279)]) 1 fun v280 S281=>
 m8 S281 1 (j1 1 (List.replicate 2 [(.int .i64 0)]) [(0,x5),(1,(.int .i64 3))]) 2 fun v282 S283=>
 j6 Try.prog E w0 o9 [v282] S283 fun v284 S285=>
 j6 Try.prog E w0 i6 [v284,v280] S285 fun v286 S287=>
 j6 Try.prog E w0 o3 [v286,v240] S287 fun v288 S289=>
 i7 S289 3 x4 v288 fun v290 S291=>
 b7 (i4 S291 3 x4) fun v292=>Q v292 S291))
 (b7 (f9 .eql v246 (.int .u8 42)) fun v293=>
 i5 v293
 (b7 (j5 3 v241) fun v294=>
 b7 (d0 S244 v294) fun v295=>
 m8 S244 1 (j1 1 (List.replicate 3 [(.int .i64 0)]) [(0,x5),(1,(.int .i64 3)),(2,v295)]) 3 fun v296 S297=>
 j6 Try.prog E w0 o9 [v296] S297 fun v298 S299=>
 j6 Try.prog E w0 o3 [v298,v240] S299 fun v300 S301=>
 i7 S301 3 x4 v300 fun v302 S303=>
 b7 (i4 S303 3 x4) fun v304=>Q v304 S303)
 (m8 S244 1 (j1 1 (List.replicate 1 [(.int .i64 0)]) [(0,x5)]) 1 fun v305 S306=>
 j6 Try.prog E w0 o9 [v305] S306 fun v307 S308=>
 m8 S308 1 (j1 1 (List.replicate 1 [(.int .i64 0)]) [(0,(.int .i64 3))]) 1 fun v309 S310=>
 j6 Try.prog E w0 i6 [v307,v309] S310 fun v311 S312=>
 j6 Try.prog E w0 o3 [v311,v240] S312 fun v313 S314=>
 i7 S314 3 x4 v313 fun v315 S316=>
 b7 (i4 S316 3 x4) fun v317=>Q v317 S316)))))))
def a0k(E:i9)(w0:j7)(Q:D→b8→Prop)(x2 x3 x4 x5 x25 x26:D)(S:b8):Prop:=j3 Try.prog E w0 c2k (l9 200 [2,3,4,5,25,26] [x2,x3,x4,x5,x25,x26]) S (c0F E w0 Q)
theorem b6J{E:i9}{w0:j7}{Q:D→b8→Prop}{x2 x3 x4 x5 x25 x26:D}{S:b8}(h:b3i E w0 Q x2 x3 x4 x5 x25 x26 S):a0k E w0 Q x2 x3 x4 x5 x25 x26 S:=j0 a1b a0R a0Q mixed (by kernel_rfl) h
def b9Q(E:i9)(w0:j7)(Q:D→b8→Prop)(a0 a1:D)(S:b8):Prop:=
 b7 (o4 a0) fun cs=>j8 S cs fun v0 S1=>
 b7 (o4 a1) fun cs=>j8 S1 cs fun v2 S3=>
 j8 S3 [.nilSlc, .nilSlc,(.bool false)] fun v4 S5=>
 b7 (j5 1 v0) fun v6=>
 b7 (d0 S5 v6) fun v7=>
 b7 (j5 0 v0) fun v8=>
 b7 (d0 S5 v8) fun v9=>
 b7 (f9 .eql v9 (.int .u8 36)) fun v318=>
 i5 v318
 (a0k E w0 Q v0 v2 v4 v7 v9 v318 S5)
 (b7 (f9 .eql v9 (.int .u8 37)) fun v319=>
 i5 v319
 (a0k E w0 Q v0 v2 v4 v7 v9 v319 S5)
 (b7 (f9 .eql v9 (.int .u8 38)) fun v320=>
 a0k E w0 Q v0 v2 v4 v7 v9 v320 S5))
theorem c2z{E:i9}{w0:j7}{Q:D→b8→Prop}{a0 a1:D}{S:b8}(h:b9Q E w0 (d9 E Q) a0 a1 S):j6 Try.prog E w0 b3L [a0,a1] S Q:=
 j4 a1b a0R a0Q (fn:=Try.f97) (c:=Try.f97.body.getD .skip) mixed Try.func97 (by kernel_rfl) (by kernel_rfl) h
def C4:List (Nat×List Nat):=[]
def C1:List (Nat×List Nat):=[(25,[1,2,3,7,8]),(37,[1,2,3,7,18]),(57,[1,2,3,7,29]),(77,[1,2,3,7,40]),(105,[1,2,3,7,49]),(173,[2,3,7,107]),(197,[2,3,117])]
def C2:List (Nat×V5):=[(6,(.node 0 4 (.leaf [1,2,3,0,4,5,6]) (.leaf [1,2,3,4,0,5,6]))),(28,(.node 1 5 (.node 2 5 (.leaf [0,3,4,1,2,5,6,7]) (.leaf [0,3,4,1,5,2,6,7])) (.leaf [0,3,4,5,1,2,6,7])))]
noncomputable def b9i:Code:=(j9 [1,1,0,1,0,1,1,1,1,1,1,1,1,1,1,1,1,1,1,1,1,1,1,1,1,1,1,1,1,1,1,1,1,1,1,1,1,1] (Try.f98.body.getD .skip))
def b7x(E:i9)(w0:j7)(Q:D→b8→Prop):o7→List D→b8→Prop:=
 (r8 0 (L3 Try.prog E w0 C4 C1 C2 (j9 [1,1,1] (Try.f98.body.getD .skip)) (F3 Try.prog Try.f98 Q)))
def b0f(E:i9)(w0:j7)(Q:D→b8→Prop)(x2 x3 x117:D)(S:b8):Prop:=
 i5 x117
 (j6 Try.prog E w0 o9 [.nilSlc] S fun v219 S220=>
 i7 S220 3 x2 v219 fun v221 S222=>
 b7 (i4 S222 3 x2) fun v223=>Q v223 S222)
 (m8 S 1 (j1 1 (List.replicate 2 [(.int .i64 0)]) [(0,x3),(1,x3)]) 2 fun v224 S225=>
 j6 Try.prog E w0 o9 [v224] S225 fun v226 S227=>
 m8 S227 1 (j1 1 (List.replicate 1 [(.int .i64 0)]) [(0,x3)]) 1 fun v228 S229=>
 j6 Try.prog E w0 i6 [v226,v228] S229 fun v230 S231=>
 i7 S231 3 x2 v230 fun v232 S233=>
 b7 (i4 S233 3 x2) fun v234=>Q v234 S233)
def P7(E:i9)(w0:j7)(Q:D→b8→Prop)(x2 x3 x117:D)(S:b8):Prop:=j3 Try.prog E w0 b9i (l9 129 [2,3,117] [x2,x3,x117]) S (b7x E w0 Q)
theorem b3X{E:i9}{w0:j7}{Q:D→b8→Prop}{x2 x3 x117:D}{S:b8}(h:b0f E w0 Q x2 x3 x117 S):P7 E w0 Q x2 x3 x117 S:=j0 C4 C1 C2 mixed (by kernel_rfl) h
noncomputable def b9j:Code:=(j9 [1,1,0,1,0,1,1,1,1,1,1,1,1,1,1,1,1,1,1,1,1,1,1,1,1,1,1,1,1,1,1,1,1,1] (Try.f98.body.getD .skip))
def b7v(E:i9)(w0:j7)(Q:D→b8→Prop):o7→List D→b8→Prop:=
 (r8 0 (L3 Try.prog E w0 C4 C1 C2 (j9 [1,1,1] (Try.f98.body.getD .skip)) (F3 Try.prog Try.f98 Q)))
def b0c(E:i9)(w0:j7)(Q:D→b8→Prop)(x2 x3 x7 x107:D)(S:b8):Prop:=
 i5 x107
 (m8 S 1 (j1 1 (List.replicate 1 [(.int .i64 0)]) [(0,(.int .i64 4))]) 1 fun v204 S205=>
 j6 Try.prog E w0 o9 [v204] S205 fun v206 S207=>
 i7 S207 3 x2 v206 fun v208 S209=>
 b7 (i4 S209 3 x2) fun v210=>Q v210 S209)
 (b7 (f9 .eql x7 (.int .u8 49)) fun v211=>
 i5 v211
 (m8 S 1 (j1 1 (List.replicate 1 [(.int .i64 0)]) [(0,x3)]) 1 fun v212 S213=>
 j6 Try.prog E w0 o9 [v212] S213 fun v214 S215=>
 i7 S215 3 x2 v214 fun v216 S217=>
 b7 (i4 S217 3 x2) fun v218=>Q v218 S217)
 (b7 (f9 .eql x7 (.int .u8 46)) fun v235=>
 i5 v235
 (P7 E w0 Q x2 x3 v235 S)
 (b7 (f9 .eql x7 (.int .u8 51)) fun v236=>
 i5 v236
 (P7 E w0 Q x2 x3 v236 S)
 (b7 (f9 .eql x7 (.int .u8 52)) fun v237=>
 P7 E w0 Q x2 x3 v237 S))))
def a0i(E:i9)(w0:j7)(Q:D→b8→Prop)(x2 x3 x7 x107:D)(S:b8):Prop:=j3 Try.prog E w0 b9j (l9 129 [2,3,7,107] [x2,x3,x7,x107]) S (b7v E w0 Q)
theorem b3Q{E:i9}{w0:j7}{Q:D→b8→Prop}{x2 x3 x7 x107:D}{S:b8}(h:b0c E w0 Q x2 x3 x7 x107 S):a0i E w0 Q x2 x3 x7 x107 S:=j0 C4 C1 C2 mixed (by kernel_rfl) h
noncomputable def b8s:Code:=(j9 [1,1,0,1,0,1,1,1,1,1,1,1,1,1,1,1,1,1] (Try.f98.body.getD .skip))
def b7g(E:i9)(w0:j7)(Q:D→b8→Prop):o7→List D→b8→Prop:=
 (r8 0 (L3 Try.prog E w0 C4 C1 C2 (j9 [1,1,1] (Try.f98.body.getD .skip)) (F3 Try.prog Try.f98 Q)))
def a9W(E:i9)(w0:j7)(Q:D→b8→Prop)(x1 x2 x3 x7 x49:D)(S:b8):Prop:=
 i5 x49
 (m8 S 1 (j1 1 (List.replicate 2 [(.int .i64 0)]) [(0,x3),(1,x3)]) 2 fun v81 S82=>
 j6 Try.prog E w0 o9 [v81] S82 fun v83 S84=>
 m8 S84 1 (j1 1 (List.replicate 1 [(.int .i64 0)]) [(0,(.int .i64 4))]) 1 fun v85 S86=>
 j6 Try.prog E w0 i6 [v83,v85] S86 fun v87 S88=>
 i7 S88 3 x2 v87 fun v89 S90=>
 b7 (i4 S90 3 x2) fun v91=>Q v91 S90)
 (b7 (f9 .eql x7 (.int .u8 29)) fun v92=>
 i5 v92
 (((b7 (j5 2 x1) fun v93=>
 b7 (d0 S v93) fun v94=>
 m8 S 1 (j1 1 (List.replicate 1 [(.int .i64 0)]) [(0,x3)]) 1 fun v95 S96=>
 r3 v93 S S96∧j6 Try.prog E w0 o9 [v95] S96 fun v97 S98=>
 r3 v93 S S98∧m8 S98 1 (j1 1 (List.replicate 1 [(.int .i64 0)]) [(0,v94)]) 1 fun v99 S100=>
 j6 Try.prog E w0 i6 [v97,v99] S100 fun v101 S102=>
 i7 S102 3 x2 v101 fun v103 S104=>
 b7 (i4 S104 3 x2) fun v105=>Q v105 S104)∧
 (b7 (j5 2 x1) fun v106=>
 b7 (d0 S v106) fun v107=>
 m8 S 1 (j1 1 (List.replicate 1 [(.int .i64 0)]) [(0,x3)]) 1 fun v108 S109=>
 r3 v106 S S109∧m8 S109 1 (j1 1 (List.replicate 1 [(.int .i64 0)]) [(0,v107)]) 1 fun v110 S111=>
 j6 Try.prog E w0 o9 [v108] S111 fun v112 S113=>
 j6 Try.prog E w0 i6 [v112,v110] S113 fun v114 S115=>
 i7 S115 3 x2 v114 fun v116 S117=>
 b7 (i4 S117 3 x2) fun v118=>Q v118 S117))∧
 (b7 (j5 2 x1) fun v119=>
 b7 (d0 S v119) fun v120=>
 m8 S 1 (j1 1 (List.replicate 1 [(.int .i64 0)]) [(0,v120)]) 1 fun v121 S122=>
 m8 S122 1 (j1 1 (List.replicate 1 [(.int .i64 0)]) [(0,x3)]) 1 fun v123 S124=>
 j6 Try.prog E w0 o9 [v123] S124 fun v125 S126=>
 j6 Try.prog E w0 i6 [v125,v121] S126 fun v127 S128=>
 i7 S128 3 x2 v127 fun v129 S130=>
 b7 (i4 S130 3 x2) fun v131=>Q v131 S130))
 (b7 (f9 .eql x7 (.int .u8 30)) fun v132=>
 i5 v132
 (m8 S 1 (j1 1 (List.replicate 1 [(.int .i64 0)]) [(0,(.int .i64 4))]) 1 fun v133 S134=>
 j6 Try.prog E w0 o9 [v133] S134 fun v135 S136=>
 m8 S136 1 (j1 1 (List.replicate 1 [(.int .i64 0)]) [(0,(.int .i64 4))]) 1 fun v137 S138=>
 j6 Try.prog E w0 i6 [v135,v137] S138 fun v139 S140=>
 i7 S140 3 x2 v139 fun v141 S142=>
 b7 (i4 S142 3 x2) fun v143=>Q v143 S142)
 (b7 (f9 .eql x7 (.int .u8 31)) fun v144=>
 i5 v144
 (m8 S 1 (j1 1 (List.replicate 2 [(.int .i64 0)]) [(0,(.int .i64 5)),(1,(.int .i64 5))]) 2 fun v145 S146=>
 j6 Try.prog E w0 o9 [v145] S146 fun v147 S148=>
 m8 S148 1 (j1 1 (List.replicate 1 [(.int .i64 0)]) [(0,(.int .i64 5))]) 1 fun v149 S150=>
 j6 Try.prog E w0 i6 [v147,v149] S150 fun v151 S152=>
 i7 S152 3 x2 v151 fun v153 S154=>
 b7 (i4 S154 3 x2) fun v155=>Q v155 S154)
 (b7 (f9 .eql x7 (.int .u8 32)) fun v156=>
 i5 v156
 (m8 S 1 (j1 1 (List.replicate 1 [(.int .i64 0)]) [(0,(.int .i64 5))]) 1 fun v157 S158=>
 j6 Try.prog E w0 o9 [v157] S158 fun v159 S160=>
 m8 S160 1 (j1 1 (List.replicate 1 [(.int .i64 0)]) [(0,(.int .i64 3))]) 1 fun v161 S162=>
 j6 Try.prog E w0 i6 [v159,v161] S162 fun v163 S164=>
 i7 S164 3 x2 v163 fun v165 S166=>
 b7 (i4 S166 3 x2) fun v167=>Q v167 S166)
 (b7 (f9 .eql x7 (.int .u8 33)) fun v168=>
 i5 v168
 (m8 S 1 (j1 1 (List.replicate 2 [(.int .i64 0)]) [(0,(.int .i64 5)),(1,(.int .i64 3))]) 2 fun v169 S170=>
 j6 Try.prog E w0 o9 [v169] S170 fun v171 S172=>
 m8 S172 1 (j1 1 (List.replicate 1 [(.int .i64 0)]) [(0,(.int .i64 2))]) 1 fun v173 S174=>
 j6 Try.prog E w0 i6 [v171,v173] S174 fun v175 S176=>
 i7 S176 3 x2 v175 fun v177 S178=>
 b7 (i4 S178 3 x2) fun v179=>Q v179 S178)
 (b7 (f9 .eql x7 (.int .u8 34)) fun v180=>
 i5 v180
 (m8 S 1 (j1 1 (List.replicate 3 [(.int .i64 0)]) [(0,(.int .i64 5)),(1,(.int .i64 3)),(2,(.int .i64 3))]) 3 fun v181 S182=>
 j6 Try.prog E w0 o9 [v181] S182 fun v183 S184=>
 m8 S184 1 (j1 1 (List.replicate 1 [(.int .i64 0)]) [(0,(.int .i64 5))]) 1 fun v185 S186=>
 j6 Try.prog E w0 i6 [v183,v185] S186 fun v187 S188=>
 i7 S188 3 x2 v187 fun v189 S190=>
 b7 (i4 S190 3 x2) fun v191=>Q v191 S190)
 (b7 (f9 .eql x7 (.int .u8 35)) fun v192=>
 i5 v192
 (m8 S 1 (j1 1 (List.replicate 1 [(.int .i64 0)]) [(0,(.int .i64 2))]) 1 fun v193 S194=>
 j6 Try.prog E w0 o9 [v193] S194 fun v195 S196=>
 m8 S196 1 (j1 1 (List.replicate 1 [(.int .i64 0)]) [(0,(.int .i64 5))]) 1 fun v197 S198=>
 j6 Try.prog E w0 i6 [v195,v197] S198 fun v199 S200=>
 i7 S200 3 x2 v199 fun v201 S202=>
 b7 (i4 S202 3 x2) fun v203=>Q v203 S202)
 (b7 (f9 .eql x7 (.int .u8 47)) fun v238=>
 i5 v238
 (a0i E w0 Q x2 x3 x7 v238 S)
 (b7 (f9 .eql x7 (.int .u8 48)) fun v239=>
 a0i E w0 Q x2 x3 x7 v239 S)))))))))
def E9(E:i9)(w0:j7)(Q:D→b8→Prop)(x1 x2 x3 x7 x49:D)(S:b8):Prop:=j3 Try.prog E w0 b8s (l9 129 [1,2,3,7,49] [x1,x2,x3,x7,x49]) S (b7g E w0 Q)
theorem b3R{E:i9}{w0:j7}{Q:D→b8→Prop}{x1 x2 x3 x7 x49:D}{S:b8}(h:a9W E w0 Q x1 x2 x3 x7 x49 S):E9 E w0 Q x1 x2 x3 x7 x49 S:=j0 C4 C1 C2 mixed (by kernel_rfl) h
noncomputable def c1c:Code:=(j9 [1,1,0,1,0,1,1,1,1,1,1,1,1,1,1,1] (Try.f98.body.getD .skip))
def b9f(E:i9)(w0:j7)(Q:D→b8→Prop):o7→List D→b8→Prop:=
 (r8 0 (L3 Try.prog E w0 C4 C1 C2 (j9 [1,1,1] (Try.f98.body.getD .skip)) (F3 Try.prog Try.f98 Q)))
def b1K(E:i9)(w0:j7)(Q:D→b8→Prop)(x1 x2 x3 x7 x40:D)(S:b8):Prop:=
 i5 x40
 (m8 S 1 (j1 1 (List.replicate 1 [(.int .i64 0)]) [(0,x3)]) 1 fun v70 S71=>
 j6 Try.prog E w0 o9 [v70] S71 fun v72 S73=>
 m8 S73 1 (j1 1 (List.replicate 1 [(.int .i64 0)]) [(0,x3)]) 1 fun v74 S75=>
 j6 Try.prog E w0 i6 [v72,v74] S75 fun v76 S77=>
 i7 S77 3 x2 v76 fun v78 S79=>
 b7 (i4 S79 3 x2) fun v80=>Q v80 S79)
 (b7 (f9 .eql x7 (.int .u8 23)) fun v240=>
 i5 v240
 (E9 E w0 Q x1 x2 x3 x7 v240 S)
 (b7 (f9 .eql x7 (.int .u8 24)) fun v241=>
 i5 v241
 (E9 E w0 Q x1 x2 x3 x7 v241 S)
 (b7 (f9 .eql x7 (.int .u8 25)) fun v242=>
 i5 v242
 (E9 E w0 Q x1 x2 x3 x7 v242 S)
 (b7 (f9 .eql x7 (.int .u8 26)) fun v243=>
 i5 v243
 (E9 E w0 Q x1 x2 x3 x7 v243 S)
 (b7 (f9 .eql x7 (.int .u8 27)) fun v244=>
 i5 v244
 (E9 E w0 Q x1 x2 x3 x7 v244 S)
 (b7 (f9 .eql x7 (.int .u8 28)) fun v245=>
 E9 E w0 Q x1 x2 x3 x7 v245 S))))))
def a0J(E:i9)(w0:j7)(Q:D→b8→Prop)(x1 x2 x3 x7 x40:D)(S:b8):Prop:=j3 Try.prog E w0 c1c (l9 129 [1,2,3,7,40] [x1,x2,x3,x7,x40]) S (b9f E w0 Q)
theorem b4U{E:i9}{w0:j7}{Q:D→b8→Prop}{x1 x2 x3 x7 x40:D}{S:b8}(h:b1K E w0 Q x1 x2 x3 x7 x40 S):a0J E w0 Q x1 x2 x3 x7 x40 S:=j0 C4 C1 C2 mixed (by kernel_rfl) h
noncomputable def c1Q:Code:=(j9 [1,1,0,1,0,1,1,1,1,1,1,1] (Try.f98.body.getD .skip))
def b8K(E:i9)(w0:j7)(Q:D→b8→Prop):o7→List D→b8→Prop:=
 (r8 0 (L3 Try.prog E w0 C4 C1 C2 (j9 [1,1,1] (Try.f98.body.getD .skip)) (F3 Try.prog Try.f98 Q)))
def b1x(E:i9)(w0:j7)(Q:D→b8→Prop)(x1 x2 x3 x7 x29:D)(S:b8):Prop:=
 i5 x29
 (m8 S 1 (j1 1 (List.replicate 1 [(.int .i64 0)]) [(0,(.int .i64 0))]) 1 fun v51 S52=>
 j6 Try.prog E w0 o9 [v51] S52 fun v53 S54=>
 i7 S54 3 x2 v53 fun v55 S56=>
 b7 (i4 S56 3 x2) fun v57=>Q v57 S56)
 (b7 (f9 .eql x7 (.int .u8 10)) fun v58=>
 i5 v58
 (m8 S 1 (j1 1 (List.replicate 1 [(.int .i64 0)]) [(0,(.int .i64 0))]) 1 fun v59 S60=>
 j6 Try.prog E w0 o9 [v59] S60 fun v61 S62=>
 m8 S62 1 (j1 1 (List.replicate 2 [(.int .i64 0)]) [(0,(.int .i64 0)),(1,(.int .i64 0))]) 2 fun v63 S64=>
 j6 Try.prog E w0 i6 [v61,v63] S64 fun v65 S66=>
 i7 S66 3 x2 v65 fun v67 S68=>
 b7 (i4 S68 3 x2) fun v69=>Q v69 S68)
 (b7 (f9 .eql x7 (.int .u8 21)) fun v246=>
 i5 v246
 (a0J E w0 Q x1 x2 x3 x7 v246 S)
 (b7 (f9 .eql x7 (.int .u8 22)) fun v247=>
 a0J E w0 Q x1 x2 x3 x7 v247 S)))
def a0V(E:i9)(w0:j7)(Q:D→b8→Prop)(x1 x2 x3 x7 x29:D)(S:b8):Prop:=j3 Try.prog E w0 c1Q (l9 129 [1,2,3,7,29] [x1,x2,x3,x7,x29]) S (b8K E w0 Q)
theorem b6h{E:i9}{w0:j7}{Q:D→b8→Prop}{x1 x2 x3 x7 x29:D}{S:b8}(h:b1x E w0 Q x1 x2 x3 x7 x29 S):a0V E w0 Q x1 x2 x3 x7 x29 S:=j0 C4 C1 C2 mixed (by kernel_rfl) h
noncomputable def b9U:Code:=(j9 [1,1,0,1,0,1,1,1] (Try.f98.body.getD .skip))
def b9e(E:i9)(w0:j7)(Q:D→b8→Prop):o7→List D→b8→Prop:=
 (r8 0 (L3 Try.prog E w0 C4 C1 C2 (j9 [1,1,1] (Try.f98.body.getD .skip)) (F3 Try.prog Try.f98 Q)))
def b0S(E:i9)(w0:j7)(Q:D→b8→Prop)(x1 x2 x3 x7 x18:D)(S:b8):Prop:=
 i5 x18
 (j6 Try.prog E w0 o9 [.nilSlc] S fun v32 S33=>
 m8 S33 1 (j1 1 (List.replicate 1 [(.int .i64 0)]) [(0,(.int .i64 4))]) 1 fun v34 S35=>
 j6 Try.prog E w0 i6 [v32,v34] S35 fun v36 S37=>
 i7 S37 3 x2 v36 fun v38 S39=>
 b7 (i4 S39 3 x2) fun v40=>Q v40 S39)
 (b7 (f9 .eql x7 (.int .u8 7)) fun v41=>
 i5 v41
 (j6 Try.prog E w0 o9 [.nilSlc] S fun v42 S43=>
 m8 S43 1 (j1 1 (List.replicate 1 [(.int .i64 0)]) [(0,(.int .i64 0))]) 1 fun v44 S45=>
 j6 Try.prog E w0 i6 [v42,v44] S45 fun v46 S47=>
 i7 S47 3 x2 v46 fun v48 S49=>
 b7 (i4 S49 3 x2) fun v50=>Q v50 S49)
 (b7 (f9 .eql x7 (.int .u8 8)) fun v248=>
 i5 v248
 (a0V E w0 Q x1 x2 x3 x7 v248 S)
 (b7 (f9 .eql x7 (.int .u8 9)) fun v249=>
 a0V E w0 Q x1 x2 x3 x7 v249 S)))
def a0P(E:i9)(w0:j7)(Q:D→b8→Prop)(x1 x2 x3 x7 x18:D)(S:b8):Prop:=j3 Try.prog E w0 b9U (l9 129 [1,2,3,7,18] [x1,x2,x3,x7,x18]) S (b9e E w0 Q)
theorem b5E{E:i9}{w0:j7}{Q:D→b8→Prop}{x1 x2 x3 x7 x18:D}{S:b8}(h:b0S E w0 Q x1 x2 x3 x7 x18 S):a0P E w0 Q x1 x2 x3 x7 x18 S:=j0 C4 C1 C2 mixed (by kernel_rfl) h
noncomputable def c0e:Code:=(j9 [1,1,0,1,0,1] (Try.f98.body.getD .skip))
def b8t(E:i9)(w0:j7)(Q:D→b8→Prop):o7→List D→b8→Prop:=
 (r8 0 (L3 Try.prog E w0 C4 C1 C2 (j9 [1,1,1] (Try.f98.body.getD .skip)) (F3 Try.prog Try.f98 Q)))
def b1p(E:i9)(w0:j7)(Q:D→b8→Prop)(x1 x2 x3 x7 x8:D)(S:b8):Prop:=
 i5 x8
 ((b7 (j5 0 x1) fun v8=>
 b7 (d0 S v8) fun v9=>
 b7 (K1 .i64 v9) fun v10=>
 j6 Try.prog E w0 o9 [.nilSlc] S fun v11 S12=>
 r3 v8 S S12∧m8 S12 1 (j1 1 (List.replicate 1 [(.int .i64 0)]) [(0,v10)]) 1 fun v13 S14=>
 j6 Try.prog E w0 i6 [v11,v13] S14 fun v15 S16=>
 i7 S16 3 x2 v15 fun v17 S18=>
 b7 (i4 S18 3 x2) fun v19=>Q v19 S18)∧
 (b7 (j5 0 x1) fun v20=>
 b7 (d0 S v20) fun v21=>
 b7 (K1 .i64 v21) fun v22=>
 m8 S 1 (j1 1 (List.replicate 1 [(.int .i64 0)]) [(0,v22)]) 1 fun v23 S24=>
 j6 Try.prog E w0 o9 [.nilSlc] S24 fun v25 S26=>
 j6 Try.prog E w0 i6 [v25,v23] S26 fun v27 S28=>
 i7 S28 3 x2 v27 fun v29 S30=>
 b7 (i4 S30 3 x2) fun v31=>Q v31 S30))
 (b7 (f9 .eql x7 (.int .u8 4)) fun v250=>
 i5 v250
 (a0P E w0 Q x1 x2 x3 x7 v250 S)
 (b7 (f9 .eql x7 (.int .u8 5)) fun v251=>
 a0P E w0 Q x1 x2 x3 x7 v251 S))
def W8(E:i9)(w0:j7)(Q:D→b8→Prop)(x1 x2 x3 x7 x8:D)(S:b8):Prop:=j3 Try.prog E w0 c0e (l9 129 [1,2,3,7,8] [x1,x2,x3,x7,x8]) S (b8t E w0 Q)
theorem b4I{E:i9}{w0:j7}{Q:D→b8→Prop}{x1 x2 x3 x7 x8:D}{S:b8}(h:b1p E w0 Q x1 x2 x3 x7 x8 S):W8 E w0 Q x1 x2 x3 x7 x8 S:=j0 C4 C1 C2 mixed (by kernel_rfl) h
def b7Q(E:i9)(w0:j7)(Q:D→b8→Prop)(a0:D)(S:b8):Prop:=
 b7 (o4 a0) fun cs=>j8 S cs fun v0 S1=>
 j8 S1 [.nilSlc, .nilSlc,(.bool false)] fun v2 S3=>
 b7 (j5 1 v0) fun v4=>
 b7 (d0 S3 v4) fun v5=>
 b7 (j5 0 v0) fun v6=>
 b7 (d0 S3 v6) fun v7=>
 b7 (f9 .eql v7 (.int .u8 1)) fun v252=>
 i5 v252
 (W8 E w0 Q v0 v2 v5 v7 v252 S3)
 (b7 (f9 .eql v7 (.int .u8 2)) fun v253=>
 i5 v253
 (W8 E w0 Q v0 v2 v5 v7 v253 S3)
 (b7 (f9 .eql v7 (.int .u8 3)) fun v254=>
 W8 E w0 Q v0 v2 v5 v7 v254 S3))
theorem c1s{E:i9}{w0:j7}{Q:D→b8→Prop}{a0:D}{S:b8}(h:b7Q E w0 (d9 E Q) a0 S):j6 Try.prog E w0 b0T [a0] S Q:=
 j4 C4 C1 C2 (fn:=Try.f98) (c:=Try.f98.body.getD .skip) mixed Try.func98 (by kernel_rfl) (by kernel_rfl) h
def b6s:List (Nat×List Nat):=[]
def b4X:List (Nat×List Nat):=[(26,[7])]
def b5l:List (Nat×V5):=[(6,(.node 0 1 (.leaf [3,4,5,6,7,8,0,1,2,9,10]) (.leaf [3,4,5,6,7,8,1,0,2,9,10]))),(10,(.leaf [0,1,4,5,2,3,6,7,8]))]
noncomputable def c0R:Code:=(j9 [1,1,1,1] (Try.f68.body.getD .skip))
def b9a(E:i9)(w0:j7)(Q:D→b8→Prop):o7→List D→b8→Prop:=
 (F3 Try.prog Try.f68 Q)
def b1s(E:i9)(w0:j7)(Q:D→b8→Prop)(x7:D)(S:b8):Prop:=
 b7 (j5 2 x7) fun v10=>
 b7 (d0 S v10) fun v11=>
 b7 (unD .not v11) fun v12=>
 i5 v12
 (Q (.tup [.nilSlc, .nilSlc,(.int .i64 2)]) S)
 (b7 (j5 0 x7) fun v13=>
 b7 (d0 S v13) fun v14=>
 b7 (j5 1 x7) fun v15=>
 b7 (d0 S v15) fun v16=>
 Q (.tup [v14,v16,(.int .i64 0)]) S)
def G7(E:i9)(w0:j7)(Q:D→b8→Prop)(x7:D)(S:b8):Prop:=j3 Try.prog E w0 c0R (l9 71 [7] [x7]) S (b9a E w0 Q)
theorem b4F{E:i9}{w0:j7}{Q:D→b8→Prop}{x7:D}{S:b8}(h:b1s E w0 Q x7 S):G7 E w0 Q x7 S:=j0 b6s b4X b5l mixed (by kernel_rfl) h
def b7M(E:i9)(w0:j7)(Q:D→b8→Prop)(a0 a1:D)(S:b8):Prop:=
 b7 (o4 a0) fun cs=>j8 S cs fun v0 S1=>
 b7 (o4 a1) fun cs=>j8 S1 cs fun v2 S3=>
 b7 (i4 S3 4 v0) fun v4=>
 j6 Try.prog E w0 b4d [v4] S3 fun v5 S6=>
 b7 (f9 .eql v5 (.int .i64 0)) fun v7=>
 i5 v7
 (Q (.tup [.nilSlc, .nilSlc,(.int .i64 120)]) S6)
 (j8 S6 [.nilSlc, .nilSlc,(.bool false)] fun v8 S9=>
 b7 (j5 0 v0) fun v17=>
 b7 (d0 S9 v17) fun v18=>
 b7 (f9 .eql v18 (.int .u8 6)) fun v19=>
 i5 v19
 ((b7 (j5 1 v0) fun v20=>
 b7 (d0 S9 v20) fun v21=>
 b7 (j5 1 v2) fun v22=>
 b7 (d0 S9 v22) fun v23=>
 b7 (m9 v23) fun v24=>
 b7 (f9 .lss v21 v24) fun v25=>
 j6 Try.prog E w0 o9 [.nilSlc] S9 fun v26 S27=>
 r3 v20 S9 S27∧r3 v22 S9 S27∧m8 S27 1 (j1 1 (List.replicate 1 [(.int .i64 0)]) [(0,(.int .i64 5))]) 1 fun v28 S29=>
 r3 v20 S9 S29∧r3 v22 S9 S29∧j6 Try.prog E w0 i6 [v26,v28] S29 fun v30 S31=>
 r3 v20 S9 S31∧r3 v22 S9 S31∧j6 Try.prog E w0 o3 [v30,v25] S31 fun v32 S33=>
 i7 S33 3 v8 v32 fun v34 S35=>
 G7 E w0 Q v8 S35)∧
 (b7 (j5 1 v0) fun v36=>
 b7 (d0 S9 v36) fun v37=>
 b7 (j5 1 v2) fun v38=>
 b7 (d0 S9 v38) fun v39=>
 b7 (m9 v39) fun v40=>
 b7 (f9 .lss v37 v40) fun v41=>
 m8 S9 1 (j1 1 (List.replicate 1 [(.int .i64 0)]) [(0,(.int .i64 5))]) 1 fun v42 S43=>
 r3 v36 S9 S43∧r3 v38 S9 S43∧j6 Try.prog E w0 o9 [.nilSlc] S43 fun v44 S45=>
 r3 v36 S9 S45∧r3 v38 S9 S45∧j6 Try.prog E w0 i6 [v44,v42] S45 fun v46 S47=>
 r3 v36 S9 S47∧r3 v38 S9 S47∧j6 Try.prog E w0 o3 [v46,v41] S47 fun v48 S49=>
 i7 S49 3 v8 v48 fun v50 S51=>
 G7 E w0 Q v8 S51))
 (b7 (j5 0 v0) fun v52=>
 b7 (d0 S9 v52) fun v53=>
 b7 (f9 .eql v53 (.int .u8 50)) fun v54=>
 i5 v54
 (b7 (j5 1 v0) fun v55=>
 b7 (d0 S9 v55) fun v56=>
 b7 (j5 2 v2) fun v57=>
 b7 (d0 S9 v57) fun v58=>
 b7 (m9 v58) fun v59=>
 b7 (f9 .lss v56 v59) fun v60=>
 i5 v60
 (b7 (j5 2 v2) fun v61=>
 b7 (d0 S9 v61) fun v62=>
 b7 (j5 1 v0) fun v63=>
 b7 (d0 S9 v63) fun v64=>
 b7 (p9 6 v62 v64) fun v65=>
 b7 (i4 S9 6 v65) fun v66=>
 j8 S9 [(.str []), .nilSlc, .nilSlc,(.int .i64 0),(.int .i64 0), .nilSlc] fun v67 S68=>
 i7 S68 6 v67 v66 fun v69 S70=>
 b7 (j5 1 v67) fun v71=>
 b7 (d0 S70 v71) fun v72=>
 b7 (j5 2 v67) fun v73=>
 b7 (d0 S70 v73) fun v74=>
 j6 Try.prog E w0 y0 [v72] S70 fun v75 S76=>
 r3 v73 S70 S76∧j6 Try.prog E w0 o9 [v75] S76 fun v77 S78=>
 r3 v73 S70 S78∧j6 Try.prog E w0 y0 [v74] S78 fun v79 S80=>
 j6 Try.prog E w0 i6 [v77,v79] S80 fun v81 S82=>
 i7 S82 3 v8 v81 fun v83 S84=>
 G7 E w0 Q v8 S84)
 (G7 E w0 Q v8 S9))
 (b7 (j5 0 v0) fun v85=>
 b7 (d0 S9 v85) fun v86=>
 b7 (f9 .geq v86 (.int .u8 36)) fun v87=>
 b7 (d8 (b9 v87 true) (j5 0 v0)) fun v88=>
 b7 (d8 (b9 v87 true) (d0 S9 v88)) fun v89=>
 b7 (d8 (b9 v87 true) (f9 .leq v89 (.int .u8 45))) fun v90=>
 b7 (o0 v87 v90 (.bool false)) fun v91=>
 i5 v91
 (b7 (i4 S9 4 v0) fun v92=>
 b7 (i4 S9 3 v2) fun v93=>
 j6 Try.prog E w0 b3L [v92,v93] S9 fun v94 S95=>
 i7 S95 3 v8 v94 fun v96 S97=>
 G7 E w0 Q v8 S97)
 (b7 (i4 S9 4 v0) fun v98=>
 j6 Try.prog E w0 b0T [v98] S9 fun v99 S100=>
 i7 S100 3 v8 v99 fun v101 S102=>
 G7 E w0 Q v8 S102))))
theorem c0y{E:i9}{w0:j7}{Q:D→b8→Prop}{a0 a1:D}{S:b8}(h:b7M E w0 (d9 E Q) a0 a1 S):j6 Try.prog E w0 a0Z [a0,a1] S Q:=
 j4 b6s b4X b5l (fn:=Try.f68) (c:=Try.f68.body.getD .skip) mixed Try.func68 (by kernel_rfl) (by kernel_rfl) h
def b2M:List (Nat×List Nat):=[]
def b2R:List (Nat×List Nat):=[]
def b2E:List (Nat×V5):=[]
def Z2(E:i9)(w0:j7)(Q:D→b8→Prop)(a0:D)(S:b8):Prop:=
 b7 (b8S .eql (c7a a0 .nilSlc)) fun v0=>
 i5 v0
 (Q .nilSlc S)
 (m8 S 1 (j1 1 (List.replicate 0 [(.int .i64 0)]) []) 0 fun v1 S2=>
 s8 S2 1 8 v1 a0 fun v3 S4=>
 Q v3 S4)
theorem a0n{E:i9}{w0:j7}{Q:D→b8→Prop}{a0:D}{S:b8}(h:Z2 E w0 (d9 E Q) a0 S):j6 Try.prog E w0 y0 [a0] S Q:=
 j4 b2M b2R b2E (fn:=Try.f48) (c:=Try.f48.body.getD .skip) mixed Try.func48 (by kernel_rfl) (by kernel_rfl) h
def a7C:List (Nat×List Nat):=[]
def a7M:List (Nat×List Nat):=[]
def a7I:List (Nat×V5):=[]
def a2g(E:i9)(w0:j7)(Q:D→b8→Prop)(a0 a1:D)(S:b8):Prop:=
 j6 Try.prog E w0 a0K [a0,a1] S fun v0 S1=>
 b7 (f9 .geq v0 (.int .i64 0)) fun v2=>
 Q v2 S1
theorem a5L{E:i9}{w0:j7}{Q:D→b8→Prop}{a0 a1:D}{S:b8}(h:a2g E w0 (d9 E Q) a0 a1 S):j6 Try.prog E w0 W7 [a0,a1] S Q:=
 j4 a7C a7M a7I (fn:=Try.f132) (c:=Try.f132.body.getD .skip) mixed Try.func132 (by kernel_rfl) (by kernel_rfl) h
def a0s:List (Nat×List Nat):=[(4,[0,1,7,8])]
def a0t:List (Nat×List Nat):=[]
def a0q:List (Nat×V5):=[]
noncomputable def Y1:Code:=(j9 [1,0,1,0,0] (Try.f141.body.getD .skip))
def X9(E:i9)(w0:j7)(Q:D→b8→Prop):o7→List D→b8→Prop:=
 (r8 0 (L3 Try.prog E w0 a0s a0t a0q (j9 [1,1] (Try.f141.body.getD .skip)) (F3 Try.prog Try.f141 Q)))
def Y5(E:i9)(w0:j7)(N0:D→D→D→D→b8→Prop)(Q:D→b8→Prop)(x0 x1 x7 x8:D)(S:b8):Prop:=
 b7 (f9 .lss x8 x7) fun v1=>
 i5 v1
 (b7 (p9 1 x0 x8) fun v2=>
 b7 (d0 S v2) fun v3=>
 b7 (f9 .eql x1 v3) fun v4=>
 i5 v4
 (Q x8 S)
 (b7 (f9 .add x8 (.int .i64 1)) fun v5=>
 N0 x0 x1 x7 v5 S))
 (Q (.int .i64 (-1)) S)
theorem a6M{E:i9}{w0:j7}{N0:D→D→D→D→b8→Prop}{Q:D→b8→Prop}{x0 x1 x7 x8:D}{S:b8}(h:Y5 E w0 N0 Q x0 x1 x7 x8 S):
  j3 Try.prog E w0 Y1 (l9 19 [0,1,7,8] [x0,x1,x7,x8]) S (D8 (fun T S=>N0 (T.getD 0 c9) (T.getD 1 c9) (T.getD 7 c9) (T.getD 8 c9) S) (X9 E w0 Q)):=j0 a0s a0t a0q mixed (by kernel_rfl) h
theorem a6W{E:i9}{w0:j7}{Q:D→b8→Prop}(I:Nat→D→D→D→D→b8→Prop)
  (step:∀n x0 x1 x7 x8 S,I n x0 x1 x7 x8 S→Y5 E w0 (fun x0 x1 x7 x8 S=>∃m,m<n∧I m x0 x1 x7 x8 S) Q x0 x1 x7 x8 S)
  {n:Nat} {x0 x1 x7 x8:D} {S:b8} (h:I n x0 x1 x7 x8 S):j3 Try.prog E w0 (.loop Y1) (l9 19 [0,1,7,8] [x0,x1,x7,x8]) S (X9 E w0 Q):=
 q9 (k:=19) (n:=n) (I:=fun n T S=>I n (T.getD 0 c9) (T.getD 1 c9) (T.getD 7 c9) (T.getD 8 c9) S) (fun n T S hl hI=>s4 [0,1,7,8] hl (j3.mono (a6M (step n _ _ _ _ S hI)) fun ex T' S' _ hq=>by cases ex<;>exact hq)) (o5 ..) (Eq.mp (by kernel_rfl) h)
def a4u(E:i9)(w0:j7)(Q:D→b8→Prop)(a0 a1:D)(S:b8):Prop:=
 b7 (m9 a0) fun v0=>
 j3 Try.prog E w0 (.loop Y1) (l9 19 [0,1,7,8] [a0,a1,v0,(.int .i64 0)]) S (X9 E w0 Q)
theorem a8r{E:i9}{w0:j7}{Q:D→b8→Prop}{a0 a1:D}{S:b8}(h:a4u E w0 (d9 E Q) a0 a1 S):j6 Try.prog E w0 a0K [a0,a1] S Q:=
 j4 a0s a0t a0q (fn:=Try.f141) (c:=Try.f141.body.getD .skip) mixed Try.func141 (by kernel_rfl) (by kernel_rfl) h
end Go.Proofs.Ytdkidgkiplcggaa.d
end
