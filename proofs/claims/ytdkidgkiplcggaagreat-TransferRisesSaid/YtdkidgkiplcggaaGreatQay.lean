/-
  TransferRisesSaid: part Qay of its proof.
-/
import Derived.Test.YtdkidgkiplcggaaGreatRows
import Derived.Test.YtdkidgkiplcggaaGreatQar
import Derived.KernelRfl
set_option linter.unusedVariables false
set_option linter.unusedSimpArgs false
set_option maxRecDepth 100000
section
open Go.Proofs Go Go.Am
namespace Go.Proofs.YtdkidgkiplcggaaGreat.d
def c6O:List (Nat×List Nat):=[]
def c6Q:List (Nat×List Nat):=[]
def c7d:List (Nat×O6):=[]
def b9y(E:j2)(w0:j9)(Q:D→b8→Prop)(a0 a1 a2:D)(S:b8):Prop:=
 b7 (o3 a0) fun cs=>j6 S cs fun v0 S1=>
 j6 S1 [(.int .u8 0),(.str []), .nilSlc,(.int .i64 0),(.int .i64 0)] fun v2 S3=>
 b7 (i4 .lss a1 (.int .i64 16)) fun v4=>
 b7 (f9 (d6 v4 false) (some a1)) fun v5=>
 b7 (f9 (d6 v4 false) (i4 .sub v5 (.int .i64 16))) fun v6=>
 b7 (f9 (d6 v4 false) (j4 0 v0)) fun v7=>
 b7 (f9 (d6 v4 false) (c9 S3 v7)) fun v8=>
 b7 (f9 (d6 v4 false) (m9 v8)) fun v9=>
 b7 (f9 (d6 v4 false) (i4 .geq v6 v9)) fun v10=>
 b7 (q9 v4 (.bool true) v10) fun v11=>
 i6 v11
 (b7 (E1 (r6 [(.int .u8 0),(.str []), .nilSlc,(.int .i64 0),(.int .i64 0)] [])) fun v12=>
 i7 S3 5 v2 v12 fun v13 S14=>
 b7 (i5 S14 5 v2) fun v15=>Q (.tup [v15,(.bool false)]) S14)
 (b7 (j4 0 v0) fun v16=>
 b7 (c9 S3 v16) fun v17=>
 b7 (i4 .sub a1 (.int .i64 16)) fun v18=>
 b7 (o6 5 v17 v18) fun v19=>
 b7 (i5 S3 5 v19) fun v20=>
 j6 S3 [(.int .u8 0),(.str []), .nilSlc,(.int .i64 0),(.int .i64 0)] fun v21 S22=>
 i7 S22 5 v21 v20 fun v23 S24=>
 b7 (i5 S24 5 v21) fun v25=>
 b7 (j4 0 v21) fun v26=>
 b7 (c9 S24 v26) fun v27=>
 j8 Tryz.prog E w0 X4 [a2,v27] S24 fun v28 S29=>
 r7 v21 S24 S29∧i7 S29 5 v2 v25 fun v30 S31=>
 b7 (i5 S31 5 v2) fun v32=>Q (.tup [v32,v28]) S31)
theorem c1W{E:j2}{w0:j9}{Q:D→b8→Prop}{a0 a1 a2:D}{S:b8}(h:b9y E w0 (d9 E Q) a0 a1 a2 S):j8 Tryz.prog E w0 Z2 [a0,a1,a2] S Q:=
 j0 c6O c6Q c7d (fn:=Tryz.f112) (c:=Tryz.f112.body.getD .skip) mixed Tryz.func112 (by kernel_rfl) (by kernel_rfl) h
def d2J:List (Nat×List Nat):=[]
def d2p:List (Nat×List Nat):=[]
def d2E:List (Nat×O6):=[]
def c9p(E:j2)(w0:j9)(Q:D→b8→Prop)(a0:D)(S:b8):Prop:=
 j6 S [.nilSlc, .nilSlc,(.bool false)] fun v0 S1=>
 b7 (E1 (r6 [.nilSlc, .nilSlc,(.bool false)] [(0,1,a0),(2,1,(.bool true))])) fun v2=>
 i7 S1 3 v0 v2 fun v3 S4=>
 b7 (i5 S4 3 v0) fun v5=>Q v5 S4
theorem c8u{E:j2}{w0:j9}{Q:D→b8→Prop}{a0:D}{S:b8}(h:c9p E w0 (d9 E Q) a0 S):j8 Tryz.prog E w0 p6 [a0] S Q:=
 j0 d2J d2p d2E (fn:=Tryz.f85) (c:=Tryz.f85.body.getD .skip) mixed Tryz.func85 (by kernel_rfl) (by kernel_rfl) h
def b4r:List (Nat×List Nat):=[]
def b4m:List (Nat×List Nat):=[]
def b3R:List (Nat×O6):=[]
def a7h(E:j2)(w0:j9)(Q:D→b8→Prop)(a0 a1:D)(S:b8):Prop:=
 b7 (o3 a0) fun cs=>j6 S cs fun v0 S1=>
 j6 S1 [.nilSlc, .nilSlc,(.bool false)] fun v2 S3=>
 b7 (j4 1 v0) fun v4=>
 i7 S3 1 v4 a1 fun v5 S6=>
 b7 (i5 S6 3 v0) fun v7=>
 i7 S6 3 v2 v7 fun v8 S9=>
 b7 (i5 S9 3 v2) fun v10=>Q v10 S9
theorem b1z{E:j2}{w0:j9}{Q:D→b8→Prop}{a0 a1:D}{S:b8}(h:a7h E w0 (d9 E Q) a0 a1 S):j8 Tryz.prog E w0 i9 [a0,a1] S Q:=
 j0 b4r b4m b3R (fn:=Tryz.f86) (c:=Tryz.f86.body.getD .skip) mixed Tryz.func86 (by kernel_rfl) (by kernel_rfl) h
def b3S:List (Nat×List Nat):=[]
def b3Q:List (Nat×List Nat):=[]
def b4f:List (Nat×O6):=[]
def a6W(E:j2)(w0:j9)(Q:D→b8→Prop)(a0 a1:D)(S:b8):Prop:=
 b7 (o3 a0) fun cs=>j6 S cs fun v0 S1=>
 j6 S1 [.nilSlc, .nilSlc,(.bool false)] fun v2 S3=>
 b7 (j4 2 v0) fun v4=>
 i7 S3 1 v4 a1 fun v5 S6=>
 b7 (i5 S6 3 v0) fun v7=>
 i7 S6 3 v2 v7 fun v8 S9=>
 b7 (i5 S9 3 v2) fun v10=>Q v10 S9
theorem b1n{E:j2}{w0:j9}{Q:D→b8→Prop}{a0 a1:D}{S:b8}(h:a6W E w0 (d9 E Q) a0 a1 S):j8 Tryz.prog E w0 o5 [a0,a1] S Q:=
 j0 b3S b3Q b4f (fn:=Tryz.f87) (c:=Tryz.f87.body.getD .skip) mixed Tryz.func87 (by kernel_rfl) (by kernel_rfl) h
def a1B:List (Nat×List Nat):=[(20,[4,5,7,8,42,43,44])]
def a1i:List (Nat×List Nat):=[(25,[2,3,4,5,25,26])]
def a1k:List (Nat×O6):=[(32,(.node 1 5 (.node 2 5 (.leaf [0,3,4,7,1,2,5,6,8,9]) (.leaf [0,3,4,7,1,5,2,6,8,9])) (.leaf [0,3,4,7,5,1,2,6,8,9]))),(36,(.node 1 5 (.node 2 5 (.leaf [0,3,4,7,1,2,5,6,8,9]) (.leaf [0,3,4,7,1,5,2,6,8,9])) (.leaf [0,3,4,7,5,1,2,6,8,9])))]
noncomputable def b0n:Code:=(j7 [1,1,0,1,0,1,0,1,0,1,0,1,0,1,0,0] (Tryz.f88.body.getD .skip))
def a9l(E:j2)(w0:j9)(Q:D→b8→Prop):o8→List D→b8→Prop:=
 (q8 1 (H4 Tryz.prog E w0 a1B a1i a1k (j7 [1,1,0,1,0,1,0,1,0,1,0,1,1] (Tryz.f88.body.getD .skip)) (H4 Tryz.prog E w0 a1B a1i a1k (j7 [1,1,0,1,0,1,0,1,1] (Tryz.f88.body.getD .skip)) (q8 0 (H4 Tryz.prog E w0 a1B a1i a1k (j7 [1,1,1] (Tryz.f88.body.getD .skip)) (F5 Tryz.prog Tryz.f88 Q))))))
def b0C(E:j2)(w0:j9)(N0:D→D→D→D→D→D→D→b8→Prop)(Q:D→b8→Prop)(x4 x5 x7 x8 x42 x43 x44:D)(S:b8):Prop:=
 b7 (i4 .lss x44 x43) fun v29=>
 i6 v29
 (b7 (o6 2 x42 x44) fun v30=>
 b7 (i5 S 2 v30) fun v31=>
 j6 S [(.str []),(.int .i64 0)] fun v32 S33=>
 i7 S33 2 v32 v31 fun v34 S35=>
 b7 (j4 1 v32) fun v36=>
 b7 (c9 S35 v36) fun v37=>
 r9 S35 1 (m8 1 (List.replicate 1 [(.int .i64 0)]) [(0,v37)]) 1 fun v38 S39=>
 w9 S39 1 8 x8 v38 fun v40 S41=>
 b7 (i4 .add x44 (.int .i64 1)) fun v42=>
 N0 x4 x5 x7 v40 x42 x43 v42 S41)
 (j8 Tryz.prog E w0 p6 [x8] S fun v43 S44=>
 r9 S44 1 (m8 1 (List.replicate 1 [(.int .i64 0)]) [(0,x5)]) 1 fun v45 S46=>
 j8 Tryz.prog E w0 i9 [v43,v45] S46 fun v47 S48=>
 j8 Tryz.prog E w0 o5 [v47,x7] S48 fun v49 S50=>
 i7 S50 3 x4 v49 fun v51 S52=>
 b7 (i5 S52 3 x4) fun v53=>Q v53 S52)
theorem c0k{E:j2}{w0:j9}{N0:D→D→D→D→D→D→D→b8→Prop}{Q:D→b8→Prop}{x4 x5 x7 x8 x42 x43 x44:D}{S:b8}(h:b0C E w0 N0 Q x4 x5 x7 x8 x42 x43 x44 S):
  j1 Tryz.prog E w0 b0n (m6 200 [4,5,7,8,42,43,44] [x4,x5,x7,x8,x42,x43,x44]) S (B0 (fun T S=>N0 (T.getD 4 b9) (T.getD 5 b9) (T.getD 7 b9) (T.getD 8 b9) (T.getD 42 b9) (T.getD 43 b9) (T.getD 44 b9) S) (a9l E w0 Q)):=j3 a1B a1i a1k mixed (by kernel_rfl) h
theorem c1a{E:j2}{w0:j9}{Q:D→b8→Prop}(I:Nat→D→D→D→D→D→D→D→b8→Prop)
  (step:∀n x4 x5 x7 x8 x42 x43 x44 S,I n x4 x5 x7 x8 x42 x43 x44 S→b0C E w0 (fun x4 x5 x7 x8 x42 x43 x44 S=>∃m,m<n∧I m x4 x5 x7 x8 x42 x43 x44 S) Q x4 x5 x7 x8 x42 x43 x44 S)
  {n:Nat} {x4 x5 x7 x8 x42 x43 x44:D} {S:b8} (h:I n x4 x5 x7 x8 x42 x43 x44 S):j1 Tryz.prog E w0 (.loop b0n) (m6 200 [4,5,7,8,42,43,44] [x4,x5,x7,x8,x42,x43,x44]) S (a9l E w0 Q):=
 o7 (k:=200) (n:=n) (I:=fun n T S=>I n (T.getD 4 b9) (T.getD 5 b9) (T.getD 7 b9) (T.getD 8 b9) (T.getD 42 b9) (T.getD 43 b9) (T.getD 44 b9) S) (fun n T S hl hI=>p8 [4,5,7,8,42,43,44] hl (j1.mono (c0k (step n _ _ _ _ _ _ _ S hI)) fun ex T' S' _ hq=>by cases ex<;>exact hq)) (m7 ..) (Eq.mp (by kernel_rfl) h)
noncomputable def c4K:Code:=(j7 [1,1,0,1,0,1] (Tryz.f88.body.getD .skip))
def c1G(E:j2)(w0:j9)(Q:D→b8→Prop):o8→List D→b8→Prop:=
 (q8 0 (H4 Tryz.prog E w0 a1B a1i a1k (j7 [1,1,1] (Tryz.f88.body.getD .skip)) (F5 Tryz.prog Tryz.f88 Q)))
def b4I(E:j2)(w0:j9)(Q:D→b8→Prop)(x2 x3 x4 x5 x25 x26:D)(S:b8):Prop:=
 i6 x26
 (b7 (i5 S 3 x3) fun v10=>
 b7 (j4 1 x2) fun v11=>
 b7 (c9 S v11) fun v12=>
 r9 S 1 (m8 1 (List.replicate 1 [(.int .u8 0)]) [(0,(.int .u8 6))]) 1 fun v13 S14=>
 j8 Tryz.prog E w0 Z2 [v10,v12,v13] S14 fun v15 S16=>
 b7 (j5 v15 0) fun v17=>
 b7 (j5 v15 1) fun v18=>
 j6 S16 [(.int .u8 0),(.str []), .nilSlc,(.int .i64 0),(.int .i64 0)] fun v19 S20=>
 i7 S20 5 v19 v17 fun v21 S22=>
 b7 (j4 0 x2) fun v23=>
 b7 (c9 S22 v23) fun v24=>
 b7 (i4 .eql v24 (.int .u8 36)) fun v25=>
 i6 v25
 (b7 (j4 2 v19) fun v26=>
 b7 (c9 S22 v26) fun v27=>
 b7 (m9 v27) fun v28=>
 j1 Tryz.prog E w0 (.loop b0n) (m6 200 [4,5,7,8,42,43,44] [x4,x5,v18, .nilSlc,v27,v28,(.int .i64 0)]) S22 (a9l E w0 Q))
 (b7 (unD .not v18) fun v54=>
 b7 (f9 (d6 v54 false) (j4 2 x2)) fun v55=>
 b7 (f9 (d6 v54 false) (c9 S22 v55)) fun v56=>
 b7 (f9 (d6 v54 false) (j4 2 v19)) fun v57=>
 b7 (f9 (d6 v54 false) (c9 S22 v57)) fun v58=>
 b7 (f9 (d6 v54 false) (m9 v58)) fun v59=>
 b7 (f9 (d6 v54 false) (i4 .geq v56 v59)) fun v60=>
 b7 (q9 v54 (.bool true) v60) fun v61=>
 i6 v61
 (b7 (E1 (r6 [.nilSlc, .nilSlc,(.bool false)] [])) fun v62=>
 i7 S22 3 x4 v62 fun v63 S64=>
 b7 (i5 S64 3 x4) fun v65=>Q v65 S64)
 (b7 (j4 2 v19) fun v66=>
 b7 (c9 S22 v66) fun v67=>
 b7 (j4 2 x2) fun v68=>
 b7 (c9 S22 v68) fun v69=>
 b7 (o6 2 v67 v69) fun v70=>
 b7 (j4 1 v70) fun v71=>
 b7 (c9 S22 v71) fun v72=>
 b7 (j4 0 x2) fun v73=>
 b7 (c9 S22 v73) fun v74=>
 b7 (i4 .eql v74 (.int .u8 38)) fun v75=>
 i6 v75
 (r9 S22 1 (m8 1 (List.replicate 2 [(.int .i64 0)]) [(0,x5),(1,v72)]) 2 fun v76 S77=>
 j8 Tryz.prog E w0 p6 [v76] S77 fun v78 S79=>
 i7 S79 3 x4 v78 fun v80 S81=>
 b7 (i5 S81 3 x4) fun v82=>Q v82 S81)
 (r9 S22 1 (m8 1 (List.replicate 1 [(.int .i64 0)]) [(0,x5)]) 1 fun v83 S84=>
 j8 Tryz.prog E w0 p6 [v83] S84 fun v85 S86=>
 r9 S86 1 (m8 1 (List.replicate 1 [(.int .i64 0)]) [(0,v72)]) 1 fun v87 S88=>
 j8 Tryz.prog E w0 i9 [v85,v87] S88 fun v89 S90=>
 i7 S90 3 x4 v89 fun v91 S92=>
 b7 (i5 S92 3 x4) fun v93=>Q v93 S92))))
 (b7 (i4 .eql x25 (.int .u8 39)) fun v94=>
 i6 v94
 (b7 (i5 S 3 x3) fun v95=>
 b7 (j4 1 x2) fun v96=>
 b7 (c9 S v96) fun v97=>
 r9 S 1 (m8 1 (List.replicate 1 [(.int .u8 0)]) [(0,(.int .u8 7))]) 1 fun v98 S99=>
 j8 Tryz.prog E w0 Z2 [v95,v97,v98] S99 fun v100 S101=>
 b7 (j5 v100 0) fun v102=>
 b7 (j5 v100 1) fun v103=>
 j6 S101 [(.int .u8 0),(.str []), .nilSlc,(.int .i64 0),(.int .i64 0)] fun v104 S105=>
 i7 S105 5 v104 v102 fun v106 S107=>
 b7 (j4 3 v104) fun v108=>
 b7 (c9 S107 v108) fun v109=>
 r9 S107 1 (m8 1 (List.replicate 1 [(.int .i64 0)]) [(0,v109)]) 1 fun v110 S111=>
 j8 Tryz.prog E w0 p6 [v110] S111 fun v112 S113=>
 r9 S113 1 (m8 1 (List.replicate 1 [(.int .i64 0)]) [(0,x5)]) 1 fun v114 S115=>
 j8 Tryz.prog E w0 i9 [v112,v114] S115 fun v116 S117=>
 j8 Tryz.prog E w0 o5 [v116,v103] S117 fun v118 S119=>
 i7 S119 3 x4 v118 fun v120 S121=>
 b7 (i5 S121 3 x4) fun v122=>Q v122 S121)
 (b7 (i4 .eql x25 (.int .u8 40)) fun v123=>
 i6 v123
 (b7 (i5 S 3 x3) fun v124=>
 b7 (j4 1 x2) fun v125=>
 b7 (c9 S v125) fun v126=>
 r9 S 1 (m8 1 (List.replicate 1 [(.int .u8 0)]) [(0,(.int .u8 8))]) 1 fun v127 S128=>
 j8 Tryz.prog E w0 Z2 [v124,v126,v127] S128 fun v129 S130=>
 b7 (j5 v129 0) fun v131=>
 b7 (j5 v129 1) fun v132=>
 j6 S130 [(.int .u8 0),(.str []), .nilSlc,(.int .i64 0),(.int .i64 0)] fun v133 S134=>
 i7 S134 5 v133 v131 fun v135 S136=>
 j8 Tryz.prog E w0 p6 [.nilSlc] S136 fun v137 S138=>
 r9 S138 1 (m8 1 (List.replicate 1 [(.int .i64 0)]) [(0,x5)]) 1 fun v139 S140=>
 j8 Tryz.prog E w0 i9 [v137,v139] S140 fun v141 S142=>
 j8 Tryz.prog E w0 o5 [v141,v132] S142 fun v143 S144=>
 i7 S144 3 x4 v143 fun v145 S146=>
 b7 (i5 S146 3 x4) fun v147=>Q v147 S146)
 (b7 (i4 .eql x25 (.int .u8 44)) fun v148=>
 i6 v148
 (b7 (i5 S 3 x3) fun v149=>
 b7 (j4 1 x2) fun v150=>
 b7 (c9 S v150) fun v151=>
 r9 S 1 (m8 1 (List.replicate 1 [(.int .u8 0)]) [(0,(.int .u8 8))]) 1 fun v152 S153=>
 j8 Tryz.prog E w0 Z2 [v149,v151,v152] S153 fun v154 S155=>
 b7 (j5 v154 0) fun v156=>
 b7 (j5 v154 1) fun v157=>
 j6 S155 [(.int .u8 0),(.str []), .nilSlc,(.int .i64 0),(.int .i64 0)] fun v158 S159=>
 i7 S159 5 v158 v156 fun v160 S161=>
 b7 (j4 3 v158) fun v162=>
 b7 (c9 S161 v162) fun v163=>
 r9 S161 1 (m8 1 (List.replicate 2 [(.int .i64 0)]) [(0,x5),(1,v163)]) 2 fun v164 S165=>
 j8 Tryz.prog E w0 p6 [v164] S165 fun v166 S167=>
 j8 Tryz.prog E w0 o5 [v166,v157] S167 fun v168 S169=>
 i7 S169 3 x4 v168 fun v170 S171=>
 b7 (i5 S171 3 x4) fun v172=>Q v172 S171)
 (b7 (i4 .eql x25 (.int .u8 45)) fun v173=>
 i6 v173
 (b7 (i5 S 3 x3) fun v174=>
 b7 (j4 1 x2) fun v175=>
 b7 (c9 S v175) fun v176=>
 r9 S 1 (m8 1 (List.replicate 1 [(.int .u8 0)]) [(0,(.int .u8 8))]) 1 fun v177 S178=>
 j8 Tryz.prog E w0 Z2 [v174,v176,v177] S178 fun v179 S180=>
 b7 (j5 v179 0) fun v181=>
 b7 (j5 v179 1) fun v182=>
 j6 S180 [(.int .u8 0),(.str []), .nilSlc,(.int .i64 0),(.int .i64 0)] fun v183 S184=>
 i7 S184 5 v183 v181 fun v185 S186=>
 ((b7 (j4 3 v183) fun v187=>
 b7 (c9 S186 v187) fun v188=>
 r9 S186 1 (m8 1 (List.replicate 1 [(.int .i64 0)]) [(0,x5)]) 1 fun v189 S190=>
 r7 v187 S186 S190∧j8 Tryz.prog E w0 p6 [v189] S190 fun v191 S192=>
 r7 v187 S186 S192∧r9 S192 1 (m8 1 (List.replicate 1 [(.int .i64 0)]) [(0,v188)]) 1 fun v193 S194=>
 j8 Tryz.prog E w0 i9 [v191,v193] S194 fun v195 S196=>
 j8 Tryz.prog E w0 o5 [v195,v182] S196 fun v197 S198=>
 i7 S198 3 x4 v197 fun v199 S200=>
 b7 (i5 S200 3 x4) fun v201=>Q v201 S200)∧
 (b7 (j4 3 v183) fun v202=>
 b7 (c9 S186 v202) fun v203=>
 r9 S186 1 (m8 1 (List.replicate 1 [(.int .i64 0)]) [(0,x5)]) 1 fun v204 S205=>
 r7 v202 S186 S205∧r9 S205 1 (m8 1 (List.replicate 1 [(.int .i64 0)]) [(0,v203)]) 1 fun v206 S207=>
 j8 Tryz.prog E w0 p6 [v204] S207 fun v208 S209=>
 j8 Tryz.prog E w0 i9 [v208,v206] S209 fun v210 S211=>
 j8 Tryz.prog E w0 o5 [v210,v182] S211 fun v212 S213=>
 i7 S213 3 x4 v212 fun v214 S215=>
 b7 (i5 S215 3 x4) fun v216=>Q v216 S215))∧
 (b7 (j4 3 v183) fun v217=>
 b7 (c9 S186 v217) fun v218=>
 r9 S186 1 (m8 1 (List.replicate 1 [(.int .i64 0)]) [(0,v218)]) 1 fun v219 S220=>
 r9 S220 1 (m8 1 (List.replicate 1 [(.int .i64 0)]) [(0,x5)]) 1 fun v221 S222=>
 j8 Tryz.prog E w0 p6 [v221] S222 fun v223 S224=>
 j8 Tryz.prog E w0 i9 [v223,v219] S224 fun v225 S226=>
 j8 Tryz.prog E w0 o5 [v225,v182] S226 fun v227 S228=>
 i7 S228 3 x4 v227 fun v229 S230=>
 b7 (i5 S230 3 x4) fun v231=>Q v231 S230))
 (b7 (i5 S 3 x3) fun v232=>
 b7 (j4 1 x2) fun v233=>
 b7 (c9 S v233) fun v234=>
 r9 S 1 (m8 1 (List.replicate 2 [(.int .u8 0)]) [(0,(.int .u8 7)),(1,(.int .u8 8))]) 2 fun v235 S236=>
 j8 Tryz.prog E w0 Z2 [v232,v234,v235] S236 fun v237 S238=>
 b7 (j5 v237 0) fun v239=>
 b7 (j5 v237 1) fun v240=>
 j6 S238 [(.int .u8 0),(.str []), .nilSlc,(.int .i64 0),(.int .i64 0)] fun v241 S242=>
 i7 S242 5 v241 v239 fun v243 S244=>
 b7 (j4 0 x2) fun v245=>
 b7 (c9 S244 v245) fun v246=>
 b7 (i4 .eql v246 (.int .u8 41)) fun v247=>
 i6 v247
 (((b7 (j4 3 v241) fun v248=>
 b7 (c9 S244 v248) fun v249=>
 r9 S244 1 (m8 1 (List.replicate 2 [(.int .i64 0)]) [(0,x5),(1,(.int .i64 3))]) 2 fun v250 S251=>
 r7 v248 S244 S251∧j8 Tryz.prog E w0 p6 [v250] S251 fun v252 S253=>
 r7 v248 S244 S253∧r9 S253 1 (m8 1 (List.replicate 1 [(.int .i64 0)]) [(0,v249)]) 1 fun v254 S255=>
 j8 Tryz.prog E w0 i9 [v252,v254] S255 fun v256 S257=>
 j8 Tryz.prog E w0 o5 [v256,v240] S257 fun v258 S259=>
 i7 S259 3 x4 v258 fun v260 S261=>
 b7 (i5 S261 3 x4) fun v262=>Q v262 S261)∧
 (b7 (j4 3 v241) fun v263=>
 b7 (c9 S244 v263) fun v264=>
 r9 S244 1 (m8 1 (List.replicate 2 [(.int .i64 0)]) [(0,x5),(1,(.int .i64 3))]) 2 fun v265 S266=>
 r7 v263 S244 S266∧r9 S266 1 (m8 1 (List.replicate 1 [(.int .i64 0)]) [(0,v264)]) 1 fun v267 S268=>
 j8 Tryz.prog E w0 p6 [v265] S268 fun v269 S270=>
 j8 Tryz.prog E w0 i9 [v269,v267] S270 fun v271 S272=>
 j8 Tryz.prog E w0 o5 [v271,v240] S272 fun v273 S274=>
 i7 S274 3 x4 v273 fun v275 S276=>
 b7 (i5 S276 3 x4) fun v277=>Q v277 S276))∧
 (b7 (j4 3 v241) fun v278=>
 b7 (c9 S244 v278) fun v279=>
 r9 S244 1 (m8 1 (List.replicate 1 [(.int .i64 0)]) [(0,v279)]) 1 fun v280 S281=>
 r9 S281 1 (m8 1 (List.replicate 2 [(.int .i64 0)]) [(0,x5),(1,(.int .i64 3))]) 2 fun v282 S283=>
 j8 Tryz.prog E w0 p6 [v282] S283 fun v284 S285=>
 j8 Tryz.prog E w0 i9 [v284,v280] S285 fun v286 S287=>
 j8 Tryz.prog E w0 o5 [v286,v240] S287 fun v288 S289=>
 i7 S289 3 x4 v288 fun v290 S291=>
 b7 (i5 S291 3 x4) fun v292=>Q v292 S291))
 (b7 (i4 .eql v246 (.int .u8 42)) fun v293=>
 i6 v293
 (b7 (j4 3 v241) fun v294=>
 b7 (c9 S244 v294) fun v295=>
 r9 S244 1 (m8 1 (List.replicate 3 [(.int .i64 0)]) [(0,x5),(1,(.int .i64 3)),(2,v295)]) 3 fun v296 S297=>
 j8 Tryz.prog E w0 p6 [v296] S297 fun v298 S299=>
 j8 Tryz.prog E w0 o5 [v298,v240] S299 fun v300 S301=>
 i7 S301 3 x4 v300 fun v302 S303=>
 b7 (i5 S303 3 x4) fun v304=>Q v304 S303)
 (r9 S244 1 (m8 1 (List.replicate 1 [(.int .i64 0)]) [(0,x5)]) 1 fun v305 S306=>
 j8 Tryz.prog E w0 p6 [v305] S306 fun v307 S308=>
 r9 S308 1 (m8 1 (List.replicate 1 [(.int .i64 0)]) [(0,(.int .i64 3))]) 1 fun v309 S310=>
 j8 Tryz.prog E w0 i9 [v307,v309] S310 fun v311 S312=>
 j8 Tryz.prog E w0 o5 [v311,v240] S312 fun v313 S314=>
 i7 S314 3 x4 v313 fun v315 S316=>
 b7 (i5 S316 3 x4) fun v317=>Q v317 S316)))))))
def a0E(E:j2)(w0:j9)(Q:D→b8→Prop)(x2 x3 x4 x5 x25 x26:D)(S:b8):Prop:=j1 Tryz.prog E w0 c4K (m6 200 [2,3,4,5,25,26] [x2,x3,x4,x5,x25,x26]) S (c1G E w0 Q)
theorem b9r{E:j2}{w0:j9}{Q:D→b8→Prop}{x2 x3 x4 x5 x25 x26:D}{S:b8}(h:b4I E w0 Q x2 x3 x4 x5 x25 x26 S):a0E E w0 Q x2 x3 x4 x5 x25 x26 S:=j3 a1B a1i a1k mixed (by kernel_rfl) h
def c4d(E:j2)(w0:j9)(Q:D→b8→Prop)(a0 a1:D)(S:b8):Prop:=
 b7 (o3 a0) fun cs=>j6 S cs fun v0 S1=>
 b7 (o3 a1) fun cs=>j6 S1 cs fun v2 S3=>
 j6 S3 [.nilSlc, .nilSlc,(.bool false)] fun v4 S5=>
 b7 (j4 1 v0) fun v6=>
 b7 (c9 S5 v6) fun v7=>
 b7 (j4 0 v0) fun v8=>
 b7 (c9 S5 v8) fun v9=>
 b7 (i4 .eql v9 (.int .u8 36)) fun v318=>
 i6 v318
 (a0E E w0 Q v0 v2 v4 v7 v9 v318 S5)
 (b7 (i4 .eql v9 (.int .u8 37)) fun v319=>
 i6 v319
 (a0E E w0 Q v0 v2 v4 v7 v9 v319 S5)
 (b7 (i4 .eql v9 (.int .u8 38)) fun v320=>
 a0E E w0 Q v0 v2 v4 v7 v9 v320 S5))
theorem c4W{E:j2}{w0:j9}{Q:D→b8→Prop}{a0 a1:D}{S:b8}(h:c4d E w0 (d9 E Q) a0 a1 S):j8 Tryz.prog E w0 b5i [a0,a1] S Q:=
 j0 a1B a1i a1k (fn:=Tryz.f88) (c:=Tryz.f88.body.getD .skip) mixed Tryz.func88 (by kernel_rfl) (by kernel_rfl) h
def C6:List (Nat×List Nat):=[]
def C7:List (Nat×List Nat):=[(25,[1,2,3,7,8]),(37,[1,2,3,7,18]),(57,[1,2,3,7,29]),(77,[1,2,3,7,40]),(105,[1,2,3,7,49]),(173,[2,3,7,107]),(197,[2,3,117])]
def C8:List (Nat×O6):=[(6,(.node 0 4 (.leaf [1,2,3,0,4,5,6]) (.leaf [1,2,3,4,0,5,6]))),(28,(.node 1 5 (.node 2 5 (.leaf [0,3,4,1,2,5,6,7]) (.leaf [0,3,4,1,5,2,6,7])) (.leaf [0,3,4,5,1,2,6,7])))]
noncomputable def c0Z:Code:=(j7 [1,1,0,1,0,1,1,1,1,1,1,1,1,1,1,1,1,1,1,1,1,1,1,1,1,1,1,1,1,1,1,1,1,1,1,1,1,1] (Tryz.f89.body.getD .skip))
def b8y(E:j2)(w0:j9)(Q:D→b8→Prop):o8→List D→b8→Prop:=
 (q8 0 (H4 Tryz.prog E w0 C6 C7 C8 (j7 [1,1,1] (Tryz.f89.body.getD .skip)) (F5 Tryz.prog Tryz.f89 Q)))
def b0R(E:j2)(w0:j9)(Q:D→b8→Prop)(x2 x3 x117:D)(S:b8):Prop:=
 i6 x117
 (j8 Tryz.prog E w0 p6 [.nilSlc] S fun v219 S220=>
 i7 S220 3 x2 v219 fun v221 S222=>
 b7 (i5 S222 3 x2) fun v223=>Q v223 S222)
 (r9 S 1 (m8 1 (List.replicate 2 [(.int .i64 0)]) [(0,x3),(1,x3)]) 2 fun v224 S225=>
 j8 Tryz.prog E w0 p6 [v224] S225 fun v226 S227=>
 r9 S227 1 (m8 1 (List.replicate 1 [(.int .i64 0)]) [(0,x3)]) 1 fun v228 S229=>
 j8 Tryz.prog E w0 i9 [v226,v228] S229 fun v230 S231=>
 i7 S231 3 x2 v230 fun v232 S233=>
 b7 (i5 S233 3 x2) fun v234=>Q v234 S233)
def R8(E:j2)(w0:j9)(Q:D→b8→Prop)(x2 x3 x117:D)(S:b8):Prop:=j1 Tryz.prog E w0 c0Z (m6 129 [2,3,117] [x2,x3,x117]) S (b8y E w0 Q)
theorem b4Y{E:j2}{w0:j9}{Q:D→b8→Prop}{x2 x3 x117:D}{S:b8}(h:b0R E w0 Q x2 x3 x117 S):R8 E w0 Q x2 x3 x117 S:=j3 C6 C7 C8 mixed (by kernel_rfl) h
noncomputable def c0c:Code:=(j7 [1,1,0,1,0,1,1,1,1,1,1,1,1,1,1,1,1,1,1,1,1,1,1,1,1,1,1,1,1,1,1,1,1,1] (Tryz.f89.body.getD .skip))
def b9i(E:j2)(w0:j9)(Q:D→b8→Prop):o8→List D→b8→Prop:=
 (q8 0 (H4 Tryz.prog E w0 C6 C7 C8 (j7 [1,1,1] (Tryz.f89.body.getD .skip)) (F5 Tryz.prog Tryz.f89 Q)))
def b0P(E:j2)(w0:j9)(Q:D→b8→Prop)(x2 x3 x7 x107:D)(S:b8):Prop:=
 i6 x107
 (r9 S 1 (m8 1 (List.replicate 1 [(.int .i64 0)]) [(0,(.int .i64 4))]) 1 fun v204 S205=>
 j8 Tryz.prog E w0 p6 [v204] S205 fun v206 S207=>
 i7 S207 3 x2 v206 fun v208 S209=>
 b7 (i5 S209 3 x2) fun v210=>Q v210 S209)
 (b7 (i4 .eql x7 (.int .u8 49)) fun v211=>
 i6 v211
 (r9 S 1 (m8 1 (List.replicate 1 [(.int .i64 0)]) [(0,x3)]) 1 fun v212 S213=>
 j8 Tryz.prog E w0 p6 [v212] S213 fun v214 S215=>
 i7 S215 3 x2 v214 fun v216 S217=>
 b7 (i5 S217 3 x2) fun v218=>Q v218 S217)
 (b7 (i4 .eql x7 (.int .u8 46)) fun v235=>
 i6 v235
 (R8 E w0 Q x2 x3 v235 S)
 (b7 (i4 .eql x7 (.int .u8 51)) fun v236=>
 i6 v236
 (R8 E w0 Q x2 x3 v236 S)
 (b7 (i4 .eql x7 (.int .u8 52)) fun v237=>
 R8 E w0 Q x2 x3 v237 S))))
def a0z(E:j2)(w0:j9)(Q:D→b8→Prop)(x2 x3 x7 x107:D)(S:b8):Prop:=j1 Tryz.prog E w0 c0c (m6 129 [2,3,7,107] [x2,x3,x7,x107]) S (b9i E w0 Q)
theorem b5x{E:j2}{w0:j9}{Q:D→b8→Prop}{x2 x3 x7 x107:D}{S:b8}(h:b0P E w0 Q x2 x3 x7 x107 S):a0z E w0 Q x2 x3 x7 x107 S:=j3 C6 C7 C8 mixed (by kernel_rfl) h
noncomputable def c0a:Code:=(j7 [1,1,0,1,0,1,1,1,1,1,1,1,1,1,1,1,1,1] (Tryz.f89.body.getD .skip))
def b8X(E:j2)(w0:j9)(Q:D→b8→Prop):o8→List D→b8→Prop:=
 (q8 0 (H4 Tryz.prog E w0 C6 C7 C8 (j7 [1,1,1] (Tryz.f89.body.getD .skip)) (F5 Tryz.prog Tryz.f89 Q)))
def b0S(E:j2)(w0:j9)(Q:D→b8→Prop)(x1 x2 x3 x7 x49:D)(S:b8):Prop:=
 i6 x49
 (r9 S 1 (m8 1 (List.replicate 2 [(.int .i64 0)]) [(0,x3),(1,x3)]) 2 fun v81 S82=>
 j8 Tryz.prog E w0 p6 [v81] S82 fun v83 S84=>
 r9 S84 1 (m8 1 (List.replicate 1 [(.int .i64 0)]) [(0,(.int .i64 4))]) 1 fun v85 S86=>
 j8 Tryz.prog E w0 i9 [v83,v85] S86 fun v87 S88=>
 i7 S88 3 x2 v87 fun v89 S90=>
 b7 (i5 S90 3 x2) fun v91=>Q v91 S90)
 (b7 (i4 .eql x7 (.int .u8 29)) fun v92=>
 i6 v92
 (((b7 (j4 2 x1) fun v93=>
 b7 (c9 S v93) fun v94=>
 r9 S 1 (m8 1 (List.replicate 1 [(.int .i64 0)]) [(0,x3)]) 1 fun v95 S96=>
 r7 v93 S S96∧j8 Tryz.prog E w0 p6 [v95] S96 fun v97 S98=>
 r7 v93 S S98∧r9 S98 1 (m8 1 (List.replicate 1 [(.int .i64 0)]) [(0,v94)]) 1 fun v99 S100=>
 j8 Tryz.prog E w0 i9 [v97,v99] S100 fun v101 S102=>
 i7 S102 3 x2 v101 fun v103 S104=>
 b7 (i5 S104 3 x2) fun v105=>Q v105 S104)∧
 (b7 (j4 2 x1) fun v106=>
 b7 (c9 S v106) fun v107=>
 r9 S 1 (m8 1 (List.replicate 1 [(.int .i64 0)]) [(0,x3)]) 1 fun v108 S109=>
 r7 v106 S S109∧r9 S109 1 (m8 1 (List.replicate 1 [(.int .i64 0)]) [(0,v107)]) 1 fun v110 S111=>
 j8 Tryz.prog E w0 p6 [v108] S111 fun v112 S113=>
 j8 Tryz.prog E w0 i9 [v112,v110] S113 fun v114 S115=>
 i7 S115 3 x2 v114 fun v116 S117=>
 b7 (i5 S117 3 x2) fun v118=>Q v118 S117))∧
 (b7 (j4 2 x1) fun v119=>
 b7 (c9 S v119) fun v120=>
 r9 S 1 (m8 1 (List.replicate 1 [(.int .i64 0)]) [(0,v120)]) 1 fun v121 S122=>
 r9 S122 1 (m8 1 (List.replicate 1 [(.int .i64 0)]) [(0,x3)]) 1 fun v123 S124=>
 j8 Tryz.prog E w0 p6 [v123] S124 fun v125 S126=>
 j8 Tryz.prog E w0 i9 [v125,v121] S126 fun v127 S128=>
 i7 S128 3 x2 v127 fun v129 S130=>
 b7 (i5 S130 3 x2) fun v131=>Q v131 S130))
 (b7 (i4 .eql x7 (.int .u8 30)) fun v132=>
 i6 v132
 (r9 S 1 (m8 1 (List.replicate 1 [(.int .i64 0)]) [(0,(.int .i64 4))]) 1 fun v133 S134=>
 j8 Tryz.prog E w0 p6 [v133] S134 fun v135 S136=>
 r9 S136 1 (m8 1 (List.replicate 1 [(.int .i64 0)]) [(0,(.int .i64 4))]) 1 fun v137 S138=>
 j8 Tryz.prog E w0 i9 [v135,v137] S138 fun v139 S140=>
 i7 S140 3 x2 v139 fun v141 S142=>
 b7 (i5 S142 3 x2) fun v143=>Q v143 S142)
 (b7 (i4 .eql x7 (.int .u8 31)) fun v144=>
 i6 v144
 (r9 S 1 (m8 1 (List.replicate 2 [(.int .i64 0)]) [(0,(.int .i64 5)),(1,(.int .i64 5))]) 2 fun v145 S146=>
 j8 Tryz.prog E w0 p6 [v145] S146 fun v147 S148=>
 r9 S148 1 (m8 1 (List.replicate 1 [(.int .i64 0)]) [(0,(.int .i64 5))]) 1 fun v149 S150=>
 j8 Tryz.prog E w0 i9 [v147,v149] S150 fun v151 S152=>
 i7 S152 3 x2 v151 fun v153 S154=>
 b7 (i5 S154 3 x2) fun v155=>Q v155 S154)
 (b7 (i4 .eql x7 (.int .u8 32)) fun v156=>
 i6 v156
 (r9 S 1 (m8 1 (List.replicate 1 [(.int .i64 0)]) [(0,(.int .i64 5))]) 1 fun v157 S158=>
 j8 Tryz.prog E w0 p6 [v157] S158 fun v159 S160=>
 r9 S160 1 (m8 1 (List.replicate 1 [(.int .i64 0)]) [(0,(.int .i64 3))]) 1 fun v161 S162=>
 j8 Tryz.prog E w0 i9 [v159,v161] S162 fun v163 S164=>
 i7 S164 3 x2 v163 fun v165 S166=>
 b7 (i5 S166 3 x2) fun v167=>Q v167 S166)
 (b7 (i4 .eql x7 (.int .u8 33)) fun v168=>
 i6 v168
 (r9 S 1 (m8 1 (List.replicate 2 [(.int .i64 0)]) [(0,(.int .i64 5)),(1,(.int .i64 3))]) 2 fun v169 S170=>
 j8 Tryz.prog E w0 p6 [v169] S170 fun v171 S172=>
 r9 S172 1 (m8 1 (List.replicate 1 [(.int .i64 0)]) [(0,(.int .i64 2))]) 1 fun v173 S174=>
 j8 Tryz.prog E w0 i9 [v171,v173] S174 fun v175 S176=>
 i7 S176 3 x2 v175 fun v177 S178=>
 b7 (i5 S178 3 x2) fun v179=>Q v179 S178)
 (b7 (i4 .eql x7 (.int .u8 34)) fun v180=>
 i6 v180
 (r9 S 1 (m8 1 (List.replicate 3 [(.int .i64 0)]) [(0,(.int .i64 5)),(1,(.int .i64 3)),(2,(.int .i64 3))]) 3 fun v181 S182=>
 j8 Tryz.prog E w0 p6 [v181] S182 fun v183 S184=>
 r9 S184 1 (m8 1 (List.replicate 1 [(.int .i64 0)]) [(0,(.int .i64 5))]) 1 fun v185 S186=>
 j8 Tryz.prog E w0 i9 [v183,v185] S186 fun v187 S188=>
 i7 S188 3 x2 v187 fun v189 S190=>
 b7 (i5 S190 3 x2) fun v191=>Q v191 S190)
 (b7 (i4 .eql x7 (.int .u8 35)) fun v192=>
 i6 v192
 (r9 S 1 (m8 1 (List.replicate 1 [(.int .i64 0)]) [(0,(.int .i64 2))]) 1 fun v193 S194=>
 j8 Tryz.prog E w0 p6 [v193] S194 fun v195 S196=>
 r9 S196 1 (m8 1 (List.replicate 1 [(.int .i64 0)]) [(0,(.int .i64 5))]) 1 fun v197 S198=>
 j8 Tryz.prog E w0 i9 [v195,v197] S198 fun v199 S200=>
 i7 S200 3 x2 v199 fun v201 S202=>
 b7 (i5 S202 3 x2) fun v203=>Q v203 S202)
 (b7 (i4 .eql x7 (.int .u8 47)) fun v238=>
 i6 v238
 (a0z E w0 Q x2 x3 x7 v238 S)
 (b7 (i4 .eql x7 (.int .u8 48)) fun v239=>
 a0z E w0 Q x2 x3 x7 v239 S)))))))))
def F6(E:j2)(w0:j9)(Q:D→b8→Prop)(x1 x2 x3 x7 x49:D)(S:b8):Prop:=j1 Tryz.prog E w0 c0a (m6 129 [1,2,3,7,49] [x1,x2,x3,x7,x49]) S (b8X E w0 Q)
theorem b5L{E:j2}{w0:j9}{Q:D→b8→Prop}{x1 x2 x3 x7 x49:D}{S:b8}(h:b0S E w0 Q x1 x2 x3 x7 x49 S):F6 E w0 Q x1 x2 x3 x7 x49 S:=j3 C6 C7 C8 mixed (by kernel_rfl) h
noncomputable def c2J:Code:=(j7 [1,1,0,1,0,1,1,1,1,1,1,1,1,1,1,1] (Tryz.f89.body.getD .skip))
def c0m(E:j2)(w0:j9)(Q:D→b8→Prop):o8→List D→b8→Prop:=
 (q8 0 (H4 Tryz.prog E w0 C6 C7 C8 (j7 [1,1,1] (Tryz.f89.body.getD .skip)) (F5 Tryz.prog Tryz.f89 Q)))
def b2w(E:j2)(w0:j9)(Q:D→b8→Prop)(x1 x2 x3 x7 x40:D)(S:b8):Prop:=
 i6 x40
 (r9 S 1 (m8 1 (List.replicate 1 [(.int .i64 0)]) [(0,x3)]) 1 fun v70 S71=>
 j8 Tryz.prog E w0 p6 [v70] S71 fun v72 S73=>
 r9 S73 1 (m8 1 (List.replicate 1 [(.int .i64 0)]) [(0,x3)]) 1 fun v74 S75=>
 j8 Tryz.prog E w0 i9 [v72,v74] S75 fun v76 S77=>
 i7 S77 3 x2 v76 fun v78 S79=>
 b7 (i5 S79 3 x2) fun v80=>Q v80 S79)
 (b7 (i4 .eql x7 (.int .u8 23)) fun v240=>
 i6 v240
 (F6 E w0 Q x1 x2 x3 x7 v240 S)
 (b7 (i4 .eql x7 (.int .u8 24)) fun v241=>
 i6 v241
 (F6 E w0 Q x1 x2 x3 x7 v241 S)
 (b7 (i4 .eql x7 (.int .u8 25)) fun v242=>
 i6 v242
 (F6 E w0 Q x1 x2 x3 x7 v242 S)
 (b7 (i4 .eql x7 (.int .u8 26)) fun v243=>
 i6 v243
 (F6 E w0 Q x1 x2 x3 x7 v243 S)
 (b7 (i4 .eql x7 (.int .u8 27)) fun v244=>
 i6 v244
 (F6 E w0 Q x1 x2 x3 x7 v244 S)
 (b7 (i4 .eql x7 (.int .u8 28)) fun v245=>
 F6 E w0 Q x1 x2 x3 x7 v245 S))))))
def a1j(E:j2)(w0:j9)(Q:D→b8→Prop)(x1 x2 x3 x7 x40:D)(S:b8):Prop:=j1 Tryz.prog E w0 c2J (m6 129 [1,2,3,7,40] [x1,x2,x3,x7,x40]) S (c0m E w0 Q)
theorem b5Y{E:j2}{w0:j9}{Q:D→b8→Prop}{x1 x2 x3 x7 x40:D}{S:b8}(h:b2w E w0 Q x1 x2 x3 x7 x40 S):a1j E w0 Q x1 x2 x3 x7 x40 S:=j3 C6 C7 C8 mixed (by kernel_rfl) h
noncomputable def c3V:Code:=(j7 [1,1,0,1,0,1,1,1,1,1,1,1] (Tryz.f89.body.getD .skip))
def c0V(E:j2)(w0:j9)(Q:D→b8→Prop):o8→List D→b8→Prop:=
 (q8 0 (H4 Tryz.prog E w0 C6 C7 C8 (j7 [1,1,1] (Tryz.f89.body.getD .skip)) (F5 Tryz.prog Tryz.f89 Q)))
def b1M(E:j2)(w0:j9)(Q:D→b8→Prop)(x1 x2 x3 x7 x29:D)(S:b8):Prop:=
 i6 x29
 (r9 S 1 (m8 1 (List.replicate 1 [(.int .i64 0)]) [(0,(.int .i64 0))]) 1 fun v51 S52=>
 j8 Tryz.prog E w0 p6 [v51] S52 fun v53 S54=>
 i7 S54 3 x2 v53 fun v55 S56=>
 b7 (i5 S56 3 x2) fun v57=>Q v57 S56)
 (b7 (i4 .eql x7 (.int .u8 10)) fun v58=>
 i6 v58
 (r9 S 1 (m8 1 (List.replicate 1 [(.int .i64 0)]) [(0,(.int .i64 0))]) 1 fun v59 S60=>
 j8 Tryz.prog E w0 p6 [v59] S60 fun v61 S62=>
 r9 S62 1 (m8 1 (List.replicate 2 [(.int .i64 0)]) [(0,(.int .i64 0)),(1,(.int .i64 0))]) 2 fun v63 S64=>
 j8 Tryz.prog E w0 i9 [v61,v63] S64 fun v65 S66=>
 i7 S66 3 x2 v65 fun v67 S68=>
 b7 (i5 S68 3 x2) fun v69=>Q v69 S68)
 (b7 (i4 .eql x7 (.int .u8 21)) fun v246=>
 i6 v246
 (a1j E w0 Q x1 x2 x3 x7 v246 S)
 (b7 (i4 .eql x7 (.int .u8 22)) fun v247=>
 a1j E w0 Q x1 x2 x3 x7 v247 S)))
def a1A(E:j2)(w0:j9)(Q:D→b8→Prop)(x1 x2 x3 x7 x29:D)(S:b8):Prop:=j1 Tryz.prog E w0 c3V (m6 129 [1,2,3,7,29] [x1,x2,x3,x7,x29]) S (c0V E w0 Q)
theorem b6a{E:j2}{w0:j9}{Q:D→b8→Prop}{x1 x2 x3 x7 x29:D}{S:b8}(h:b1M E w0 Q x1 x2 x3 x7 x29 S):a1A E w0 Q x1 x2 x3 x7 x29 S:=j3 C6 C7 C8 mixed (by kernel_rfl) h
noncomputable def c3P:Code:=(j7 [1,1,0,1,0,1,1,1] (Tryz.f89.body.getD .skip))
def c0n(E:j2)(w0:j9)(Q:D→b8→Prop):o8→List D→b8→Prop:=
 (q8 0 (H4 Tryz.prog E w0 C6 C7 C8 (j7 [1,1,1] (Tryz.f89.body.getD .skip)) (F5 Tryz.prog Tryz.f89 Q)))
def b2G(E:j2)(w0:j9)(Q:D→b8→Prop)(x1 x2 x3 x7 x18:D)(S:b8):Prop:=
 i6 x18
 (j8 Tryz.prog E w0 p6 [.nilSlc] S fun v32 S33=>
 r9 S33 1 (m8 1 (List.replicate 1 [(.int .i64 0)]) [(0,(.int .i64 4))]) 1 fun v34 S35=>
 j8 Tryz.prog E w0 i9 [v32,v34] S35 fun v36 S37=>
 i7 S37 3 x2 v36 fun v38 S39=>
 b7 (i5 S39 3 x2) fun v40=>Q v40 S39)
 (b7 (i4 .eql x7 (.int .u8 7)) fun v41=>
 i6 v41
 (j8 Tryz.prog E w0 p6 [.nilSlc] S fun v42 S43=>
 r9 S43 1 (m8 1 (List.replicate 1 [(.int .i64 0)]) [(0,(.int .i64 0))]) 1 fun v44 S45=>
 j8 Tryz.prog E w0 i9 [v42,v44] S45 fun v46 S47=>
 i7 S47 3 x2 v46 fun v48 S49=>
 b7 (i5 S49 3 x2) fun v50=>Q v50 S49)
 (b7 (i4 .eql x7 (.int .u8 8)) fun v248=>
 i6 v248
 (a1A E w0 Q x1 x2 x3 x7 v248 S)
 (b7 (i4 .eql x7 (.int .u8 9)) fun v249=>
 a1A E w0 Q x1 x2 x3 x7 v249 S)))
def a1p(E:j2)(w0:j9)(Q:D→b8→Prop)(x1 x2 x3 x7 x18:D)(S:b8):Prop:=j1 Tryz.prog E w0 c3P (m6 129 [1,2,3,7,18] [x1,x2,x3,x7,x18]) S (c0n E w0 Q)
theorem b7F{E:j2}{w0:j9}{Q:D→b8→Prop}{x1 x2 x3 x7 x18:D}{S:b8}(h:b2G E w0 Q x1 x2 x3 x7 x18 S):a1p E w0 Q x1 x2 x3 x7 x18 S:=j3 C6 C7 C8 mixed (by kernel_rfl) h
noncomputable def c3H:Code:=(j7 [1,1,0,1,0,1] (Tryz.f89.body.getD .skip))
def c0S(E:j2)(w0:j9)(Q:D→b8→Prop):o8→List D→b8→Prop:=
 (q8 0 (H4 Tryz.prog E w0 C6 C7 C8 (j7 [1,1,1] (Tryz.f89.body.getD .skip)) (F5 Tryz.prog Tryz.f89 Q)))
def b2R(E:j2)(w0:j9)(Q:D→b8→Prop)(x1 x2 x3 x7 x8:D)(S:b8):Prop:=
 i6 x8
 ((b7 (j4 0 x1) fun v8=>
 b7 (c9 S v8) fun v9=>
 b7 (J9 .i64 v9) fun v10=>
 j8 Tryz.prog E w0 p6 [.nilSlc] S fun v11 S12=>
 r7 v8 S S12∧r9 S12 1 (m8 1 (List.replicate 1 [(.int .i64 0)]) [(0,v10)]) 1 fun v13 S14=>
 j8 Tryz.prog E w0 i9 [v11,v13] S14 fun v15 S16=>
 i7 S16 3 x2 v15 fun v17 S18=>
 b7 (i5 S18 3 x2) fun v19=>Q v19 S18)∧
 (b7 (j4 0 x1) fun v20=>
 b7 (c9 S v20) fun v21=>
 b7 (J9 .i64 v21) fun v22=>
 r9 S 1 (m8 1 (List.replicate 1 [(.int .i64 0)]) [(0,v22)]) 1 fun v23 S24=>
 j8 Tryz.prog E w0 p6 [.nilSlc] S24 fun v25 S26=>
 j8 Tryz.prog E w0 i9 [v25,v23] S26 fun v27 S28=>
 i7 S28 3 x2 v27 fun v29 S30=>
 b7 (i5 S30 3 x2) fun v31=>Q v31 S30))
 (b7 (i4 .eql x7 (.int .u8 4)) fun v250=>
 i6 v250
 (a1p E w0 Q x1 x2 x3 x7 v250 S)
 (b7 (i4 .eql x7 (.int .u8 5)) fun v251=>
 a1p E w0 Q x1 x2 x3 x7 v251 S))
def Y3(E:j2)(w0:j9)(Q:D→b8→Prop)(x1 x2 x3 x7 x8:D)(S:b8):Prop:=j1 Tryz.prog E w0 c3H (m6 129 [1,2,3,7,8] [x1,x2,x3,x7,x8]) S (c0S E w0 Q)
theorem b6v{E:j2}{w0:j9}{Q:D→b8→Prop}{x1 x2 x3 x7 x8:D}{S:b8}(h:b2R E w0 Q x1 x2 x3 x7 x8 S):Y3 E w0 Q x1 x2 x3 x7 x8 S:=j3 C6 C7 C8 mixed (by kernel_rfl) h
def b9U(E:j2)(w0:j9)(Q:D→b8→Prop)(a0:D)(S:b8):Prop:=
 b7 (o3 a0) fun cs=>j6 S cs fun v0 S1=>
 j6 S1 [.nilSlc, .nilSlc,(.bool false)] fun v2 S3=>
 b7 (j4 1 v0) fun v4=>
 b7 (c9 S3 v4) fun v5=>
 b7 (j4 0 v0) fun v6=>
 b7 (c9 S3 v6) fun v7=>
 b7 (i4 .eql v7 (.int .u8 1)) fun v252=>
 i6 v252
 (Y3 E w0 Q v0 v2 v5 v7 v252 S3)
 (b7 (i4 .eql v7 (.int .u8 2)) fun v253=>
 i6 v253
 (Y3 E w0 Q v0 v2 v5 v7 v253 S3)
 (b7 (i4 .eql v7 (.int .u8 3)) fun v254=>
 Y3 E w0 Q v0 v2 v5 v7 v254 S3))
theorem c2G{E:j2}{w0:j9}{Q:D→b8→Prop}{a0:D}{S:b8}(h:b9U E w0 (d9 E Q) a0 S):j8 Tryz.prog E w0 b2n [a0] S Q:=
 j0 C6 C7 C8 (fn:=Tryz.f89) (c:=Tryz.f89.body.getD .skip) mixed Tryz.func89 (by kernel_rfl) (by kernel_rfl) h
def b7d:List (Nat×List Nat):=[]
def b7I:List (Nat×List Nat):=[(26,[7])]
def b6Z:List (Nat×O6):=[(6,(.node 0 1 (.leaf [3,4,5,6,7,8,0,1,2,9,10]) (.leaf [3,4,5,6,7,8,1,0,2,9,10]))),(10,(.leaf [0,1,4,5,2,3,6,7,8]))]
noncomputable def c1I:Code:=(j7 [1,1,1,1] (Tryz.f57.body.getD .skip))
def c0Y(E:j2)(w0:j9)(Q:D→b8→Prop):o8→List D→b8→Prop:=
 (F5 Tryz.prog Tryz.f57 Q)
def b2H(E:j2)(w0:j9)(Q:D→b8→Prop)(x7:D)(S:b8):Prop:=
 b7 (j4 2 x7) fun v10=>
 b7 (c9 S v10) fun v11=>
 b7 (unD .not v11) fun v12=>
 i6 v12
 (Q (.tup [.nilSlc, .nilSlc,(.int .i64 2)]) S)
 (b7 (j4 0 x7) fun v13=>
 b7 (c9 S v13) fun v14=>
 b7 (j4 1 x7) fun v15=>
 b7 (c9 S v15) fun v16=>
 Q (.tup [v14,v16,(.int .i64 0)]) S)
def G9(E:j2)(w0:j9)(Q:D→b8→Prop)(x7:D)(S:b8):Prop:=j1 Tryz.prog E w0 c1I (m6 71 [7] [x7]) S (c0Y E w0 Q)
theorem b7L{E:j2}{w0:j9}{Q:D→b8→Prop}{x7:D}{S:b8}(h:b2H E w0 Q x7 S):G9 E w0 Q x7 S:=j3 b7d b7I b6Z mixed (by kernel_rfl) h
def b9R(E:j2)(w0:j9)(Q:D→b8→Prop)(a0 a1:D)(S:b8):Prop:=
 b7 (o3 a0) fun cs=>j6 S cs fun v0 S1=>
 b7 (o3 a1) fun cs=>j6 S1 cs fun v2 S3=>
 b7 (i5 S3 4 v0) fun v4=>
 j8 Tryz.prog E w0 b5O [v4] S3 fun v5 S6=>
 b7 (i4 .eql v5 (.int .i64 0)) fun v7=>
 i6 v7
 (Q (.tup [.nilSlc, .nilSlc,(.int .i64 120)]) S6)
 (j6 S6 [.nilSlc, .nilSlc,(.bool false)] fun v8 S9=>
 b7 (j4 0 v0) fun v17=>
 b7 (c9 S9 v17) fun v18=>
 b7 (i4 .eql v18 (.int .u8 6)) fun v19=>
 i6 v19
 ((b7 (j4 1 v0) fun v20=>
 b7 (c9 S9 v20) fun v21=>
 b7 (j4 1 v2) fun v22=>
 b7 (c9 S9 v22) fun v23=>
 b7 (m9 v23) fun v24=>
 b7 (i4 .lss v21 v24) fun v25=>
 j8 Tryz.prog E w0 p6 [.nilSlc] S9 fun v26 S27=>
 r7 v20 S9 S27∧r7 v22 S9 S27∧r9 S27 1 (m8 1 (List.replicate 1 [(.int .i64 0)]) [(0,(.int .i64 5))]) 1 fun v28 S29=>
 r7 v20 S9 S29∧r7 v22 S9 S29∧j8 Tryz.prog E w0 i9 [v26,v28] S29 fun v30 S31=>
 r7 v20 S9 S31∧r7 v22 S9 S31∧j8 Tryz.prog E w0 o5 [v30,v25] S31 fun v32 S33=>
 i7 S33 3 v8 v32 fun v34 S35=>
 G9 E w0 Q v8 S35)∧
 (b7 (j4 1 v0) fun v36=>
 b7 (c9 S9 v36) fun v37=>
 b7 (j4 1 v2) fun v38=>
 b7 (c9 S9 v38) fun v39=>
 b7 (m9 v39) fun v40=>
 b7 (i4 .lss v37 v40) fun v41=>
 r9 S9 1 (m8 1 (List.replicate 1 [(.int .i64 0)]) [(0,(.int .i64 5))]) 1 fun v42 S43=>
 r7 v36 S9 S43∧r7 v38 S9 S43∧j8 Tryz.prog E w0 p6 [.nilSlc] S43 fun v44 S45=>
 r7 v36 S9 S45∧r7 v38 S9 S45∧j8 Tryz.prog E w0 i9 [v44,v42] S45 fun v46 S47=>
 r7 v36 S9 S47∧r7 v38 S9 S47∧j8 Tryz.prog E w0 o5 [v46,v41] S47 fun v48 S49=>
 i7 S49 3 v8 v48 fun v50 S51=>
 G9 E w0 Q v8 S51))
 (b7 (j4 0 v0) fun v52=>
 b7 (c9 S9 v52) fun v53=>
 b7 (i4 .eql v53 (.int .u8 50)) fun v54=>
 i6 v54
 (b7 (j4 1 v0) fun v55=>
 b7 (c9 S9 v55) fun v56=>
 b7 (j4 2 v2) fun v57=>
 b7 (c9 S9 v57) fun v58=>
 b7 (m9 v58) fun v59=>
 b7 (i4 .lss v56 v59) fun v60=>
 i6 v60
 (b7 (j4 2 v2) fun v61=>
 b7 (c9 S9 v61) fun v62=>
 b7 (j4 1 v0) fun v63=>
 b7 (c9 S9 v63) fun v64=>
 b7 (o6 6 v62 v64) fun v65=>
 b7 (i5 S9 6 v65) fun v66=>
 j6 S9 [(.str []), .nilSlc, .nilSlc,(.int .i64 0),(.int .i64 0), .nilSlc] fun v67 S68=>
 i7 S68 6 v67 v66 fun v69 S70=>
 b7 (j4 1 v67) fun v71=>
 b7 (c9 S70 v71) fun v72=>
 b7 (j4 2 v67) fun v73=>
 b7 (c9 S70 v73) fun v74=>
 j8 Tryz.prog E w0 A2 [v72] S70 fun v75 S76=>
 r7 v73 S70 S76∧j8 Tryz.prog E w0 p6 [v75] S76 fun v77 S78=>
 r7 v73 S70 S78∧j8 Tryz.prog E w0 A2 [v74] S78 fun v79 S80=>
 j8 Tryz.prog E w0 i9 [v77,v79] S80 fun v81 S82=>
 i7 S82 3 v8 v81 fun v83 S84=>
 G9 E w0 Q v8 S84)
 (G9 E w0 Q v8 S9))
 (b7 (j4 0 v0) fun v85=>
 b7 (c9 S9 v85) fun v86=>
 b7 (i4 .geq v86 (.int .u8 36)) fun v87=>
 b7 (f9 (d6 v87 true) (j4 0 v0)) fun v88=>
 b7 (f9 (d6 v87 true) (c9 S9 v88)) fun v89=>
 b7 (f9 (d6 v87 true) (i4 .leq v89 (.int .u8 45))) fun v90=>
 b7 (q9 v87 v90 (.bool false)) fun v91=>
 i6 v91
 (b7 (i5 S9 4 v0) fun v92=>
 b7 (i5 S9 3 v2) fun v93=>
 j8 Tryz.prog E w0 b5i [v92,v93] S9 fun v94 S95=>
 i7 S95 3 v8 v94 fun v96 S97=>
 G9 E w0 Q v8 S97)
 (b7 (i5 S9 4 v0) fun v98=>
 j8 Tryz.prog E w0 b2n [v98] S9 fun v99 S100=>
 i7 S100 3 v8 v99 fun v101 S102=>
 G9 E w0 Q v8 S102))))
theorem c2h{E:j2}{w0:j9}{Q:D→b8→Prop}{a0 a1:D}{S:b8}(h:b9R E w0 (d9 E Q) a0 a1 S):j8 Tryz.prog E w0 a1n [a0,a1] S Q:=
 j0 b7d b7I b6Z (fn:=Tryz.f57) (c:=Tryz.f57.body.getD .skip) mixed Tryz.func57 (by kernel_rfl) (by kernel_rfl) h
def b4b:List (Nat×List Nat):=[]
def b4j:List (Nat×List Nat):=[]
def b4d:List (Nat×O6):=[]
def a0i(E:j2)(w0:j9)(Q:D→b8→Prop)(a0:D)(S:b8):Prop:=
 b7 (b8j .eql (c7Z a0 .nilSlc)) fun v0=>
 i6 v0
 (Q .nilSlc S)
 (r9 S 1 (m8 1 (List.replicate 0 [(.int .i64 0)]) []) 0 fun v1 S2=>
 w9 S2 1 8 v1 a0 fun v3 S4=>
 Q v3 S4)
theorem a0S{E:j2}{w0:j9}{Q:D→b8→Prop}{a0:D}{S:b8}(h:a0i E w0 (d9 E Q) a0 S):j8 Tryz.prog E w0 A2 [a0] S Q:=
 j0 b4b b4j b4d (fn:=Tryz.f34) (c:=Tryz.f34.body.getD .skip) mixed Tryz.func34 (by kernel_rfl) (by kernel_rfl) h
def a8r:List (Nat×List Nat):=[]
def a8d:List (Nat×List Nat):=[]
def a8n:List (Nat×O6):=[]
def a2K(E:j2)(w0:j9)(Q:D→b8→Prop)(a0 a1:D)(S:b8):Prop:=
 j8 Tryz.prog E w0 a1C [a0,a1] S fun v0 S1=>
 b7 (i4 .geq v0 (.int .i64 0)) fun v2=>
 Q v2 S1
theorem a6V{E:j2}{w0:j9}{Q:D→b8→Prop}{a0 a1:D}{S:b8}(h:a2K E w0 (d9 E Q) a0 a1 S):j8 Tryz.prog E w0 X4 [a0,a1] S Q:=
 j0 a8r a8d a8n (fn:=Tryz.f144) (c:=Tryz.f144.body.getD .skip) mixed Tryz.func144 (by kernel_rfl) (by kernel_rfl) h
def a0K:List (Nat×List Nat):=[(4,[0,1,7,8])]
def a0P:List (Nat×List Nat):=[]
def a0V:List (Nat×O6):=[]
noncomputable def a0p:Code:=(j7 [1,0,1,0,0] (Tryz.f158.body.getD .skip))
def Z9(E:j2)(w0:j9)(Q:D→b8→Prop):o8→List D→b8→Prop:=
 (q8 0 (H4 Tryz.prog E w0 a0K a0P a0V (j7 [1,1] (Tryz.f158.body.getD .skip)) (F5 Tryz.prog Tryz.f158 Q)))
def a0u(E:j2)(w0:j9)(N0:D→D→D→D→b8→Prop)(Q:D→b8→Prop)(x0 x1 x7 x8:D)(S:b8):Prop:=
 b7 (i4 .lss x8 x7) fun v1=>
 i6 v1
 (b7 (o6 1 x0 x8) fun v2=>
 b7 (c9 S v2) fun v3=>
 b7 (i4 .eql x1 v3) fun v4=>
 i6 v4
 (Q x8 S)
 (b7 (i4 .add x8 (.int .i64 1)) fun v5=>
 N0 x0 x1 x7 v5 S))
 (Q (.int .i64 (-1)) S)
theorem a7z{E:j2}{w0:j9}{N0:D→D→D→D→b8→Prop}{Q:D→b8→Prop}{x0 x1 x7 x8:D}{S:b8}(h:a0u E w0 N0 Q x0 x1 x7 x8 S):
  j1 Tryz.prog E w0 a0p (m6 19 [0,1,7,8] [x0,x1,x7,x8]) S (B0 (fun T S=>N0 (T.getD 0 b9) (T.getD 1 b9) (T.getD 7 b9) (T.getD 8 b9) S) (Z9 E w0 Q)):=j3 a0K a0P a0V mixed (by kernel_rfl) h
theorem a7v{E:j2}{w0:j9}{Q:D→b8→Prop}(I:Nat→D→D→D→D→b8→Prop)
  (step:∀n x0 x1 x7 x8 S,I n x0 x1 x7 x8 S→a0u E w0 (fun x0 x1 x7 x8 S=>∃m,m<n∧I m x0 x1 x7 x8 S) Q x0 x1 x7 x8 S)
  {n:Nat} {x0 x1 x7 x8:D} {S:b8} (h:I n x0 x1 x7 x8 S):j1 Tryz.prog E w0 (.loop a0p) (m6 19 [0,1,7,8] [x0,x1,x7,x8]) S (Z9 E w0 Q):=
 o7 (k:=19) (n:=n) (I:=fun n T S=>I n (T.getD 0 b9) (T.getD 1 b9) (T.getD 7 b9) (T.getD 8 b9) S) (fun n T S hl hI=>p8 [0,1,7,8] hl (j1.mono (a7z (step n _ _ _ _ S hI)) fun ex T' S' _ hq=>by cases ex<;>exact hq)) (m7 ..) (Eq.mp (by kernel_rfl) h)
def a4F(E:j2)(w0:j9)(Q:D→b8→Prop)(a0 a1:D)(S:b8):Prop:=
 b7 (m9 a0) fun v0=>
 j1 Tryz.prog E w0 (.loop a0p) (m6 19 [0,1,7,8] [a0,a1,v0,(.int .i64 0)]) S (Z9 E w0 Q)
theorem a9f{E:j2}{w0:j9}{Q:D→b8→Prop}{a0 a1:D}{S:b8}(h:a4F E w0 (d9 E Q) a0 a1 S):j8 Tryz.prog E w0 a1C [a0,a1] S Q:=
 j0 a0K a0P a0V (fn:=Tryz.f158) (c:=Tryz.f158.body.getD .skip) mixed Tryz.func158 (by kernel_rfl) (by kernel_rfl) h
end Go.Proofs.YtdkidgkiplcggaaGreat.d
end
