/-
  TransferRisesSaid: part Qaw of its proof.
-/
import Derived.Test.YtdkidgkiplcggaaGreatRows
import Derived.Test.YtdkidgkiplcggaaGreatQar
import Derived.KernelRfl
import Derived.Test.YtdkidgkiplcggaaGreatQau
import Derived.Test.YtdkidgkiplcggaaGreatQav
set_option linter.unusedVariables false
set_option linter.unusedSimpArgs false
set_option maxRecDepth 100000
section
open Go.Proofs Go Go.Am
namespace Go.Proofs.YtdkidgkiplcggaaGreat.d
def a6L:List (Nat×List Nat):=[]
def a6e:List (Nat×List Nat):=[(20,[0,3,6,8])]
def a6H:List (Nat×O6):=[]
noncomputable def b2q:Code:=(j7 [1,1,1,1,1,1] (Tryz.f80.body.getD .skip))
def b1k(E:j2)(w0:j9)(Q:D→b8→Prop):o8→List D→b8→Prop:=
 (F5 Tryz.prog Tryz.f80 Q)
def a4M(E:j2)(w0:j9)(Q:D→b8→Prop)(x0 x3 x6 x8:D)(S:b8):Prop:=
 b7 (j4 1 x3) fun v25=>
 b7 (c9 S v25) fun v26=>
 a0f Tryz.prog (j8 Tryz.prog E w0) S v26 [x8] fun v27 S28=>
 b7 (unD .not v27) fun v29=>
 i6 v29
 (b7 (a1h x0) fun v30=>
 b7 (j4 2 v30) fun v31=>
 i7 S28 1 v31 (.int .i64 120) fun v32 S33=>
 Q (.int .i64 0) S33)
 (b7 (a1h x0) fun v34=>
 b7 (j4 1 v34) fun v35=>
 i7 S28 1 v35 x6 fun v36 S37=>
 Q x8 S37)
def K7(E:j2)(w0:j9)(Q:D→b8→Prop)(x0 x3 x6 x8:D)(S:b8):Prop:=j1 Tryz.prog E w0 b2q (m6 65 [0,3,6,8] [x0,x3,x6,x8]) S (b1k E w0 Q)
theorem a8V{E:j2}{w0:j9}{Q:D→b8→Prop}{x0 x3 x6 x8:D}{S:b8}(h:a4M E w0 Q x0 x3 x6 x8 S):K7 E w0 Q x0 x3 x6 x8 S:=j3 a6L a6e a6H mixed (by kernel_rfl) h
def a7S(E:j2)(w0:j9)(Q:D→b8→Prop)(a0 a1:D)(S:b8):Prop:=
 b7 (o3 a1) fun cs=>j6 S cs fun v0 S1=>
 b7 (a1h a0) fun v2=>
 b7 (j4 2 v2) fun v3=>
 b7 (c9 S1 v3) fun v4=>
 b7 (i4 .neq v4 (.int .i64 0)) fun v5=>
 i6 v5
 (Q (.int .i64 0) S1)
 (b7 (a1h a0) fun v6=>
 b7 (j4 0 v6) fun v7=>
 b7 (c9 S1 v7) fun v8=>
 b7 (a1h a0) fun v9=>
 b7 (j4 1 v9) fun v10=>
 b7 (c9 S1 v10) fun v11=>
 b7 (j4 0 v0) fun v12=>
 b7 (c9 S1 v12) fun v13=>
 j8 Tryz.prog E w0 b2s [v8,v11,v13] S1 fun v14 S15=>
 b7 (j5 v14 0) fun v16=>
 b7 (j5 v14 1) fun v17=>
 b7 (j5 v14 2) fun v18=>
 b7 (i4 .neq v18 (.int .i64 0)) fun v19=>
 i6 v19
 (b7 (a1h a0) fun v20=>
 b7 (j4 2 v20) fun v21=>
 i7 S15 1 v21 (.int .i64 10) fun v22 S23=>
 Q (.int .i64 0) S23)
 (b7 (J9 .i64 v16) fun v24=>
 b7 (j4 1 v0) fun v38=>
 b7 (c9 S15 v38) fun v39=>
 a0f Tryz.prog (j8 Tryz.prog E w0) S15 v39 [v24] fun v40 S41=>
 b7 (unD .not v40) fun v42=>
 b7 (f9 (d6 v42 true) (j4 0 v0)) fun v43=>
 b7 (f9 (d6 v42 true) (c9 S41 v43)) fun v44=>
 b7 (f9 (d6 v42 true) (i4 .lss v44 (.int .i64 8))) fun v45=>
 b7 (q9 v42 v45 (.bool false)) fun v46=>
 i6 v46
 (b7 (j4 0 v0) fun v47=>
 b7 (c9 S41 v47) fun v48=>
 b7 (i4 .mul (.int .i64 8) v48) fun v49=>
 b7 (i4 .shl (.int .i64 1) v49) fun v50=>
 b7 (i4 .sub v24 v50) fun v51=>
 K7 E w0 Q a0 v0 v17 v51 S41)
 (K7 E w0 Q a0 v0 v17 v24 S41)))
theorem b3a{E:j2}{w0:j9}{Q:D→b8→Prop}{a0 a1:D}{S:b8}(h:a7S E w0 (d9 E Q) a0 a1 S):j8 Tryz.prog E w0 B9 [a0,a1] S Q:=
 j0 a6L a6e a6H (fn:=Tryz.f80) (c:=Tryz.f80.body.getD .skip) mixed Tryz.func80 (by kernel_rfl) (by kernel_rfl) h
def V8:List (Nat×List Nat):=[(18,[4,7,10,45,46,47]),(36,[4,7,10,13,14,15])]
def W0:List (Nat×List Nat):=[(34,[4,7,10,13,14]),(46,[4,7,10])]
def V2:List (Nat×O6):=[(16,(.node 0 7 (.node 0 8 (.node 5 7 (.node 5 8 (.node 7 8 (.leaf [2,3,4,0,1,5,6,7,8,9,10]) (.leaf [2,3,4,0,1,5,6,8,7,9,10])) (.leaf [2,3,4,0,1,8,5,6,7,9,10])) (.node 5 8 (.leaf [2,3,4,0,1,7,5,6,8,9,10]) (.node 7 8 (.leaf [2,3,4,0,1,7,8,5,6,9,10]) (.leaf [2,3,4,0,1,8,7,5,6,9,10])))) (.node 5 7 (.leaf [2,3,4,8,0,1,5,6,7,9,10]) (.leaf [2,3,4,8,0,1,7,5,6,9,10]))) (.node 0 8 (.node 5 8 (.leaf [2,3,4,7,0,1,5,6,8,9,10]) (.leaf [2,3,4,7,0,1,8,5,6,9,10])) (.node 7 8 (.leaf [2,3,4,7,8,0,1,5,6,9,10]) (.leaf [2,3,4,8,7,0,1,5,6,9,10])))))]
noncomputable def a5p:Code:=(j7 [1,1,1,1,1,1,1,1] (Tryz.f54.body.getD .skip))
def b8x(E:j2)(w0:j9)(Q:D→b8→Prop):o8→List D→b8→Prop:=
 (F5 Tryz.prog Tryz.f54 Q)
def b0Y(E:j2)(w0:j9)(Q:D→b8→Prop)(x4 x7 x10:D)(S:b8):Prop:=
 b7 (a1h x10) fun v57=>
 b7 (j4 2 v57) fun v58=>
 b7 (c9 S v58) fun v59=>
 b7 (i4 .neq v59 (.int .i64 0)) fun v60=>
 i6 v60
 (b7 (E1 (r6 [(.int .u8 0),(.int .i64 0),(.int .i64 0), .nilSlc] [])) fun v61=>
 b7 (a1h x10) fun v62=>
 b7 (j4 2 v62) fun v63=>
 b7 (c9 S v63) fun v64=>
 i7 S 4 x4 v61 fun v65 S66=>
 r7 v63 S S66∧b7 (i5 S66 4 x4) fun v67=>Q (.tup [v67,(.int .i64 0),v64]) S66)
 (b7 (i5 S 4 x7) fun v68=>
 b7 (a1h x10) fun v69=>
 b7 (j4 1 v69) fun v70=>
 b7 (c9 S v70) fun v71=>
 i7 S 4 x4 v68 fun v72 S73=>
 r7 v70 S S73∧b7 (i5 S73 4 x4) fun v74=>Q (.tup [v74,v71,(.int .i64 0)]) S73)
def a0w(E:j2)(w0:j9)(Q:D→b8→Prop)(x4 x7 x10:D)(S:b8):Prop:=j1 Tryz.prog E w0 a5p (m6 120 [4,7,10] [x4,x7,x10]) S (b8x E w0 Q)
theorem b5M{E:j2}{w0:j9}{Q:D→b8→Prop}{x4 x7 x10:D}{S:b8}(h:b0Y E w0 Q x4 x7 x10 S):a0w E w0 Q x4 x7 x10 S:=j3 V8 W0 V2 mixed (by kernel_rfl) h
noncomputable def a6t:Code:=(j7 [1,1,1,1,1,1,1,0,1,0,1,0,1,0,0] (Tryz.f54.body.getD .skip))
def a6K(E:j2)(w0:j9)(Q:D→b8→Prop):o8→List D→b8→Prop:=
 (q8 2 (H4 Tryz.prog E w0 V8 W0 V2 (j7 [1,1,1,1,1,1,1,0,1,0,1,1] (Tryz.f54.body.getD .skip)) (d3A Tryz.prog E w0 120 [4,7,10] a5p (F5 Tryz.prog Tryz.f54 Q))))
def a6D(E:j2)(w0:j9)(N1:D→D→D→D→D→D→b8→Prop)(Q:D→b8→Prop)(x4 x7 x10 x13 x14 x15:D)(S:b8):Prop:=
 b7 (i4 .gtr x15 (.int .i64 0)) fun v83=>
 b7 (f9 (d6 v83 true) (some x10)) fun v84=>
 b7 (f9 (d6 v83 true) (a1h v84)) fun v85=>
 b7 (f9 (d6 v83 true) (j4 2 v85)) fun v86=>
 b7 (f9 (d6 v83 true) (c9 S v86)) fun v87=>
 b7 (f9 (d6 v83 true) (i4 .eql v87 (.int .i64 0))) fun v88=>
 b7 (q9 v83 v88 (.bool false)) fun v89=>
 i6 v89
 (b7 (i5 S 2 x14) fun v90=>
 j8 Tryz.prog E w0 B9 [x10,v90] S fun v91 S92=>
 b7 (j4 3 x7) fun v93=>
 b7 (c9 S92 v93) fun v94=>
 b7 (i5 S92 2 x13) fun v95=>
 j8 Tryz.prog E w0 B9 [x10,v95] S92 fun v96 S97=>
 r7 v93 S92 S97∧b7 (E1 (r6 [(.int .i64 0),(.int .i64 0)] [(0,1,v91),(1,1,v96)])) fun v98=>
 r9 S97 2 (m8 2 (List.replicate 1 [(.int .i64 0),(.int .i64 0)]) [(0,v98)]) 1 fun v99 S100=>
 r7 v93 S92 S100∧w9 S100 2 16 v94 v99 fun v101 S102=>
 b7 (j4 3 x7) fun v103=>
 i7 S102 1 v103 v101 fun v104 S105=>
 b7 (i4 .sub x15 (.int .i64 1)) fun v106=>
 N1 x4 x7 x10 x13 x14 v106 S105)
 (b7 (i5 S 2 x13) fun v107=>
 j8 Tryz.prog E w0 B9 [x10,v107] S fun v108 S109=>
 b7 (j4 2 x7) fun v110=>
 i7 S109 1 v110 v108 fun v111 S112=>
 a0w E w0 Q x4 x7 x10 S112)
theorem b6j{E:j2}{w0:j9}{N1:D→D→D→D→D→D→b8→Prop}{Q:D→b8→Prop}{x4 x7 x10 x13 x14 x15:D}{S:b8}(h:a6D E w0 N1 Q x4 x7 x10 x13 x14 x15 S):
  j1 Tryz.prog E w0 a6t (m6 120 [4,7,10,13,14,15] [x4,x7,x10,x13,x14,x15]) S (B0 (fun T S=>N1 (T.getD 4 b9) (T.getD 7 b9) (T.getD 10 b9) (T.getD 13 b9) (T.getD 14 b9) (T.getD 15 b9) S) (a6K E w0 Q)):=j3 V8 W0 V2 mixed (by kernel_rfl) h
theorem b7a{E:j2}{w0:j9}{Q:D→b8→Prop}(I:Nat→D→D→D→D→D→D→b8→Prop)
  (step:∀n x4 x7 x10 x13 x14 x15 S,I n x4 x7 x10 x13 x14 x15 S→a6D E w0 (fun x4 x7 x10 x13 x14 x15 S=>∃m,m<n∧I m x4 x7 x10 x13 x14 x15 S) Q x4 x7 x10 x13 x14 x15 S)
  {n:Nat} {x4 x7 x10 x13 x14 x15:D} {S:b8} (h:I n x4 x7 x10 x13 x14 x15 S):j1 Tryz.prog E w0 (.loop a6t) (m6 120 [4,7,10,13,14,15] [x4,x7,x10,x13,x14,x15]) S (a6K E w0 Q):=
 o7 (k:=120) (n:=n) (I:=fun n T S=>I n (T.getD 4 b9) (T.getD 7 b9) (T.getD 10 b9) (T.getD 13 b9) (T.getD 14 b9) (T.getD 15 b9) S) (fun n T S hl hI=>p8 [4,7,10,13,14,15] hl (j1.mono (b6j (step n _ _ _ _ _ _ S hI)) fun ex T' S' _ hq=>by cases ex<;>exact hq)) (m7 ..) (Eq.mp (by kernel_rfl) h)
noncomputable def c0t:Code:=(j7 [1,1,1,1,1,1,1,0,1,0,1] (Tryz.f54.body.getD .skip))
def b8I(E:j2)(w0:j9)(Q:D→b8→Prop):o8→List D→b8→Prop:=
 (d3A Tryz.prog E w0 120 [4,7,10] a5p (F5 Tryz.prog Tryz.f54 Q))
def b0L(E:j2)(w0:j9)(Q:D→b8→Prop)(x4 x7 x10 x13 x14:D)(S:b8):Prop:=
 j8 Tryz.prog E w0 s5 [(.int .i64 0),(.int .i64 65535)] S fun v78 S79=>
 b7 (E1 (r6 [(.int .i64 0), .nilFn] [(0,1,(.int .i64 2)),(1,1,v78)])) fun v80=>
 j8 Tryz.prog E w0 B9 [x10,v80] S79 fun v81 S82=>
 j1 Tryz.prog E w0 (.loop a6t) (m6 120 [4,7,10,13,14,15] [x4,x7,x10,x13,x14,v81]) S82 (a6K E w0 Q)
def s6(E:j2)(w0:j9)(Q:D→b8→Prop)(x4 x7 x10 x13 x14:D)(S:b8):Prop:=j1 Tryz.prog E w0 c0t (m6 120 [4,7,10,13,14] [x4,x7,x10,x13,x14]) S (b8I E w0 Q)
theorem b4V{E:j2}{w0:j9}{Q:D→b8→Prop}{x4 x7 x10 x13 x14:D}{S:b8}(h:b0L E w0 Q x4 x7 x10 x13 x14 S):s6 E w0 Q x4 x7 x10 x13 x14 S:=j3 V8 W0 V2 mixed (by kernel_rfl) h
noncomputable def a6i:Code:=(j7 [1,1,1,1,1,1,0,1,0,0] (Tryz.f54.body.getD .skip))
def a6g(E:j2)(w0:j9)(Q:D→b8→Prop):o8→List D→b8→Prop:=
 (q8 0 (H4 Tryz.prog E w0 V8 W0 V2 (j7 [1,1,1,1,1,1,1] (Tryz.f54.body.getD .skip)) (F5 Tryz.prog Tryz.f54 Q)))
def a6G(E:j2)(w0:j9)(N0:D→D→D→D→D→D→b8→Prop)(Q:D→b8→Prop)(x4 x7 x10 x45 x46 x47:D)(S:b8):Prop:=
 b7 (i4 .lss x47 x46) fun v35=>
 i6 v35
 (b7 (o6 2 x45 x47) fun v36=>
 b7 (i5 S 2 v36) fun v37=>
 j6 S [(.int .i64 0), .nilFn] fun v38 S39=>
 i7 S39 2 v38 v37 fun v40 S41=>
 b7 (i4 .eql x47 (.int .i64 0)) fun v42=>
 i6 v42
 (b7 (i5 S41 2 v38) fun v43=>
 j8 Tryz.prog E w0 B9 [x10,v43] S41 fun v44 S45=>
 b7 (j4 1 x7) fun v46=>
 i7 S45 1 v46 v44 fun v47 S48=>
 b7 (i4 .add x47 (.int .i64 1)) fun v49=>
 N0 x4 x7 x10 x45 x46 v49 S48)
 (b7 (i5 S41 2 v38) fun v50=>
 j8 Tryz.prog E w0 B9 [x10,v50] S41 fun v51 S52=>
 b7 (j4 2 x7) fun v53=>
 i7 S52 1 v53 v51 fun v54 S55=>
 b7 (i4 .add x47 (.int .i64 1)) fun v56=>
 N0 x4 x7 x10 x45 x46 v56 S55))
 (b7 (j4 0 x7) fun v75=>
 b7 (c9 S v75) fun v76=>
 b7 (i4 .eql v76 (.int .u8 49)) fun v77=>
 i6 v77
 ((((((b7 (j4 1 x7) fun v113=>
 b7 (c9 S v113) fun v114=>
 b7 (J9 .u8 v114) fun v115=>
 j8 Tryz.prog E w0 s5 [(.int .i64 0),(.int .i64 4294967295)] S fun v116 S117=>
 r7 v113 S S117∧b7 (E1 (r6 [(.int .i64 0), .nilFn] [(0,1,(.int .i64 4)),(1,1,v116)])) fun v118=>
 j8 Tryz.prog E w0 D3 [v115] S117 fun v119 S120=>
 b7 (E1 (r6 [(.int .i64 0), .nilFn] [(0,1,(.int .i64 8)),(1,1,v119)])) fun v121=>
 j6 S120 [(.int .i64 0), .nilFn] fun v122 S123=>
 j6 S123 [(.int .i64 0), .nilFn] fun v124 S125=>
 i7 S125 2 v122 v118 fun v126 S127=>
 i7 S127 2 v124 v121 fun v128 S129=>
 s6 E w0 Q x4 x7 x10 v122 v124 S129)∧
 (b7 (j4 1 x7) fun v130=>
 b7 (c9 S v130) fun v131=>
 b7 (J9 .u8 v131) fun v132=>
 j8 Tryz.prog E w0 s5 [(.int .i64 0),(.int .i64 4294967295)] S fun v133 S134=>
 r7 v130 S S134∧b7 (E1 (r6 [(.int .i64 0), .nilFn] [(0,1,(.int .i64 4)),(1,1,v133)])) fun v135=>
 j8 Tryz.prog E w0 D3 [v132] S134 fun v136 S137=>
 b7 (E1 (r6 [(.int .i64 0), .nilFn] [(0,1,(.int .i64 8)),(1,1,v136)])) fun v138=>
 j6 S137 [(.int .i64 0), .nilFn] fun v139 S140=>
 j6 S140 [(.int .i64 0), .nilFn] fun v141 S142=>
 i7 S142 2 v141 v135 fun v143 S144=>
 i7 S144 2 v139 v138 fun v145 S146=>
 s6 E w0 Q x4 x7 x10 v141 v139 S146))∧
 (b7 (j4 1 x7) fun v147=>
 b7 (c9 S v147) fun v148=>
 b7 (J9 .u8 v148) fun v149=>
 j8 Tryz.prog E w0 s5 [(.int .i64 0),(.int .i64 4294967295)] S fun v150 S151=>
 r7 v147 S S151∧b7 (E1 (r6 [(.int .i64 0), .nilFn] [(0,1,(.int .i64 4)),(1,1,v150)])) fun v152=>
 j6 S151 [(.int .i64 0), .nilFn] fun v153 S154=>
 r7 v147 S S154∧j8 Tryz.prog E w0 D3 [v149] S154 fun v155 S156=>
 b7 (E1 (r6 [(.int .i64 0), .nilFn] [(0,1,(.int .i64 8)),(1,1,v155)])) fun v157=>
 j6 S156 [(.int .i64 0), .nilFn] fun v158 S159=>
 i7 S159 2 v158 v152 fun v160 S161=>
 i7 S161 2 v153 v157 fun v162 S163=>
 s6 E w0 Q x4 x7 x10 v158 v153 S163))∧
 ((b7 (j4 1 x7) fun v164=>
 b7 (c9 S v164) fun v165=>
 b7 (J9 .u8 v165) fun v166=>
 j8 Tryz.prog E w0 s5 [(.int .i64 0),(.int .i64 4294967295)] S fun v167 S168=>
 r7 v164 S S168∧b7 (E1 (r6 [(.int .i64 0), .nilFn] [(0,1,(.int .i64 4)),(1,1,v167)])) fun v169=>
 j6 S168 [(.int .i64 0), .nilFn] fun v170 S171=>
 r7 v164 S S171∧j8 Tryz.prog E w0 D3 [v166] S171 fun v172 S173=>
 b7 (E1 (r6 [(.int .i64 0), .nilFn] [(0,1,(.int .i64 8)),(1,1,v172)])) fun v174=>
 j6 S173 [(.int .i64 0), .nilFn] fun v175 S176=>
 i7 S176 2 v170 v169 fun v177 S178=>
 i7 S178 2 v175 v174 fun v179 S180=>
 s6 E w0 Q x4 x7 x10 v170 v175 S180)∧
 ((b7 (j4 1 x7) fun v181=>
 b7 (c9 S v181) fun v182=>
 b7 (J9 .u8 v182) fun v183=>
 j8 Tryz.prog E w0 s5 [(.int .i64 0),(.int .i64 4294967295)] S fun v184 S185=>
 r7 v181 S S185∧b7 (E1 (r6 [(.int .i64 0), .nilFn] [(0,1,(.int .i64 4)),(1,1,v184)])) fun v186=>
 j6 S185 [(.int .i64 0), .nilFn] fun v187 S188=>
 r7 v181 S S188∧j6 S188 [(.int .i64 0), .nilFn] fun v189 S190=>
 r7 v181 S S190∧j8 Tryz.prog E w0 D3 [v183] S190 fun v191 S192=>
 b7 (E1 (r6 [(.int .i64 0), .nilFn] [(0,1,(.int .i64 8)),(1,1,v191)])) fun v193=>
 i7 S192 2 v187 v186 fun v194 S195=>
 i7 S195 2 v189 v193 fun v196 S197=>
 s6 E w0 Q x4 x7 x10 v187 v189 S197)∧
 (b7 (j4 1 x7) fun v198=>
 b7 (c9 S v198) fun v199=>
 b7 (J9 .u8 v199) fun v200=>
 j8 Tryz.prog E w0 s5 [(.int .i64 0),(.int .i64 4294967295)] S fun v201 S202=>
 r7 v198 S S202∧b7 (E1 (r6 [(.int .i64 0), .nilFn] [(0,1,(.int .i64 4)),(1,1,v201)])) fun v203=>
 j6 S202 [(.int .i64 0), .nilFn] fun v204 S205=>
 r7 v198 S S205∧j6 S205 [(.int .i64 0), .nilFn] fun v206 S207=>
 r7 v198 S S207∧j8 Tryz.prog E w0 D3 [v200] S207 fun v208 S209=>
 b7 (E1 (r6 [(.int .i64 0), .nilFn] [(0,1,(.int .i64 8)),(1,1,v208)])) fun v210=>
 i7 S209 2 v206 v203 fun v211 S212=>
 i7 S212 2 v204 v210 fun v213 S214=>
 s6 E w0 Q x4 x7 x10 v206 v204 S214))))∧
 ((b7 (j4 1 x7) fun v215=>
 b7 (c9 S v215) fun v216=>
 b7 (J9 .u8 v216) fun v217=>
 j6 S [(.int .i64 0), .nilFn] fun v218 S219=>
 r7 v215 S S219∧j8 Tryz.prog E w0 s5 [(.int .i64 0),(.int .i64 4294967295)] S219 fun v220 S221=>
 r7 v215 S S221∧b7 (E1 (r6 [(.int .i64 0), .nilFn] [(0,1,(.int .i64 4)),(1,1,v220)])) fun v222=>
 j8 Tryz.prog E w0 D3 [v217] S221 fun v223 S224=>
 b7 (E1 (r6 [(.int .i64 0), .nilFn] [(0,1,(.int .i64 8)),(1,1,v223)])) fun v225=>
 j6 S224 [(.int .i64 0), .nilFn] fun v226 S227=>
 i7 S227 2 v226 v222 fun v228 S229=>
 i7 S229 2 v218 v225 fun v230 S231=>
 s6 E w0 Q x4 x7 x10 v226 v218 S231)∧
 (b7 (j4 1 x7) fun v232=>
 b7 (c9 S v232) fun v233=>
 b7 (J9 .u8 v233) fun v234=>
 j6 S [(.int .i64 0), .nilFn] fun v235 S236=>
 r7 v232 S S236∧j8 Tryz.prog E w0 s5 [(.int .i64 0),(.int .i64 4294967295)] S236 fun v237 S238=>
 r7 v232 S S238∧b7 (E1 (r6 [(.int .i64 0), .nilFn] [(0,1,(.int .i64 4)),(1,1,v237)])) fun v239=>
 j6 S238 [(.int .i64 0), .nilFn] fun v240 S241=>
 r7 v232 S S241∧j8 Tryz.prog E w0 D3 [v234] S241 fun v242 S243=>
 b7 (E1 (r6 [(.int .i64 0), .nilFn] [(0,1,(.int .i64 8)),(1,1,v242)])) fun v244=>
 i7 S243 2 v240 v239 fun v245 S246=>
 i7 S246 2 v235 v244 fun v247 S248=>
 s6 E w0 Q x4 x7 x10 v240 v235 S248)))∧
 (((b7 (j4 1 x7) fun v249=>
 b7 (c9 S v249) fun v250=>
 b7 (J9 .u8 v250) fun v251=>
 j6 S [(.int .i64 0), .nilFn] fun v252 S253=>
 r7 v249 S S253∧j8 Tryz.prog E w0 s5 [(.int .i64 0),(.int .i64 4294967295)] S253 fun v254 S255=>
 r7 v249 S S255∧b7 (E1 (r6 [(.int .i64 0), .nilFn] [(0,1,(.int .i64 4)),(1,1,v254)])) fun v256=>
 j8 Tryz.prog E w0 D3 [v251] S255 fun v257 S258=>
 b7 (E1 (r6 [(.int .i64 0), .nilFn] [(0,1,(.int .i64 8)),(1,1,v257)])) fun v259=>
 j6 S258 [(.int .i64 0), .nilFn] fun v260 S261=>
 i7 S261 2 v252 v256 fun v262 S263=>
 i7 S263 2 v260 v259 fun v264 S265=>
 s6 E w0 Q x4 x7 x10 v252 v260 S265)∧
 (b7 (j4 1 x7) fun v266=>
 b7 (c9 S v266) fun v267=>
 b7 (J9 .u8 v267) fun v268=>
 j6 S [(.int .i64 0), .nilFn] fun v269 S270=>
 r7 v266 S S270∧j8 Tryz.prog E w0 s5 [(.int .i64 0),(.int .i64 4294967295)] S270 fun v271 S272=>
 r7 v266 S S272∧b7 (E1 (r6 [(.int .i64 0), .nilFn] [(0,1,(.int .i64 4)),(1,1,v271)])) fun v273=>
 j6 S272 [(.int .i64 0), .nilFn] fun v274 S275=>
 r7 v266 S S275∧j8 Tryz.prog E w0 D3 [v268] S275 fun v276 S277=>
 b7 (E1 (r6 [(.int .i64 0), .nilFn] [(0,1,(.int .i64 8)),(1,1,v276)])) fun v278=>
 i7 S277 2 v269 v273 fun v279 S280=>
 i7 S280 2 v274 v278 fun v281 S282=>
 s6 E w0 Q x4 x7 x10 v269 v274 S282))∧
 ((b7 (j4 1 x7) fun v283=>
 b7 (c9 S v283) fun v284=>
 b7 (J9 .u8 v284) fun v285=>
 j6 S [(.int .i64 0), .nilFn] fun v286 S287=>
 r7 v283 S S287∧j6 S287 [(.int .i64 0), .nilFn] fun v288 S289=>
 r7 v283 S S289∧j8 Tryz.prog E w0 s5 [(.int .i64 0),(.int .i64 4294967295)] S289 fun v290 S291=>
 r7 v283 S S291∧b7 (E1 (r6 [(.int .i64 0), .nilFn] [(0,1,(.int .i64 4)),(1,1,v290)])) fun v292=>
 j8 Tryz.prog E w0 D3 [v285] S291 fun v293 S294=>
 b7 (E1 (r6 [(.int .i64 0), .nilFn] [(0,1,(.int .i64 8)),(1,1,v293)])) fun v295=>
 i7 S294 2 v286 v292 fun v296 S297=>
 i7 S297 2 v288 v295 fun v298 S299=>
 s6 E w0 Q x4 x7 x10 v286 v288 S299)∧
 (b7 (j4 1 x7) fun v300=>
 b7 (c9 S v300) fun v301=>
 b7 (J9 .u8 v301) fun v302=>
 j6 S [(.int .i64 0), .nilFn] fun v303 S304=>
 r7 v300 S S304∧j6 S304 [(.int .i64 0), .nilFn] fun v305 S306=>
 r7 v300 S S306∧j8 Tryz.prog E w0 s5 [(.int .i64 0),(.int .i64 4294967295)] S306 fun v307 S308=>
 r7 v300 S S308∧b7 (E1 (r6 [(.int .i64 0), .nilFn] [(0,1,(.int .i64 4)),(1,1,v307)])) fun v309=>
 j8 Tryz.prog E w0 D3 [v302] S308 fun v310 S311=>
 b7 (E1 (r6 [(.int .i64 0), .nilFn] [(0,1,(.int .i64 8)),(1,1,v310)])) fun v312=>
 i7 S311 2 v305 v309 fun v313 S314=>
 i7 S314 2 v303 v312 fun v315 S316=>
 s6 E w0 Q x4 x7 x10 v305 v303 S316))))
 (a0w E w0 Q x4 x7 x10 S))
theorem b6Y{E:j2}{w0:j9}{N0:D→D→D→D→D→D→b8→Prop}{Q:D→b8→Prop}{x4 x7 x10 x45 x46 x47:D}{S:b8}(h:a6G E w0 N0 Q x4 x7 x10 x45 x46 x47 S):
  j1 Tryz.prog E w0 a6i (m6 120 [4,7,10,45,46,47] [x4,x7,x10,x45,x46,x47]) S (B0 (fun T S=>N0 (T.getD 4 b9) (T.getD 7 b9) (T.getD 10 b9) (T.getD 45 b9) (T.getD 46 b9) (T.getD 47 b9) S) (a6g E w0 Q)):=j3 V8 W0 V2 mixed (by kernel_rfl) h
theorem b7C{E:j2}{w0:j9}{Q:D→b8→Prop}(I:Nat→D→D→D→D→D→D→b8→Prop)
  (step:∀n x4 x7 x10 x45 x46 x47 S,I n x4 x7 x10 x45 x46 x47 S→a6G E w0 (fun x4 x7 x10 x45 x46 x47 S=>∃m,m<n∧I m x4 x7 x10 x45 x46 x47 S) Q x4 x7 x10 x45 x46 x47 S)
  {n:Nat} {x4 x7 x10 x45 x46 x47:D} {S:b8} (h:I n x4 x7 x10 x45 x46 x47 S):j1 Tryz.prog E w0 (.loop a6i) (m6 120 [4,7,10,45,46,47] [x4,x7,x10,x45,x46,x47]) S (a6g E w0 Q):=
 o7 (k:=120) (n:=n) (I:=fun n T S=>I n (T.getD 4 b9) (T.getD 7 b9) (T.getD 10 b9) (T.getD 45 b9) (T.getD 46 b9) (T.getD 47 b9) S) (fun n T S hl hI=>p8 [4,7,10,45,46,47] hl (j1.mono (b6Y (step n _ _ _ _ _ _ S hI)) fun ex T' S' _ hq=>by cases ex<;>exact hq)) (m7 ..) (Eq.mp (by kernel_rfl) h)
def b6p(E:j2)(w0:j9)(Q:D→b8→Prop)(a0 a1:D)(S:b8):Prop:=
 j6 S [(.int .u8 0),(.int .i64 0),(.int .i64 0), .nilSlc] fun v0 S1=>
 b7 (i4 .lss a1 (.int .i64 0)) fun v2=>
 b7 (f9 (d6 v2 false) (some a1)) fun v3=>
 b7 (f9 (d6 v2 false) (some a0)) fun v4=>
 b7 (f9 (d6 v2 false) (m9 v4)) fun v5=>
 b7 (f9 (d6 v2 false) (i4 .geq v3 v5)) fun v6=>
 b7 (q9 v2 (.bool true) v6) fun v7=>
 i6 v7
 (b7 (E1 (r6 [(.int .u8 0),(.int .i64 0),(.int .i64 0), .nilSlc] [])) fun v8=>
 i7 S1 4 v0 v8 fun v9 S10=>
 b7 (i5 S10 4 v0) fun v11=>Q (.tup [v11,(.int .i64 0),(.int .i64 2)]) S10)
 (b7 (o6 1 a0 a1) fun v12=>
 b7 (c9 S1 v12) fun v13=>
 b7 (E1 (r6 [(.int .u8 0),(.int .i64 0),(.int .i64 0), .nilSlc] [(0,1,v13)])) fun v14=>
 j6 S1 [(.int .u8 0),(.int .i64 0),(.int .i64 0), .nilSlc] fun v15 S16=>
 i7 S16 4 v15 v14 fun v17 S18=>
 b7 (j4 0 v15) fun v19=>
 b7 (c9 S18 v19) fun v20=>
 j8 Tryz.prog E w0 a5U [v20] S18 fun v21 S22=>
 b7 (j5 v21 0) fun v23=>
 b7 (j5 v21 1) fun v24=>
 b7 (unD .not v24) fun v25=>
 i6 v25
 (b7 (E1 (r6 [(.int .u8 0),(.int .i64 0),(.int .i64 0), .nilSlc] [])) fun v26=>
 i7 S22 4 v0 v26 fun v27 S28=>
 b7 (i5 S28 4 v0) fun v29=>Q (.tup [v29,(.int .i64 0),(.int .i64 120)]) S28)
 (b7 (i4 .add a1 (.int .i64 1)) fun v30=>
 b7 (E1 (r6 [.nilSlc,(.int .i64 0),(.int .i64 0)] [(0,1,a0),(1,1,v30)])) fun v31=>
 b7 (o3 v31) fun cs=>j6 S22 cs fun v32 S33=>
 b7 (m9 v23) fun v34=>
 j1 Tryz.prog E w0 (.loop a6i) (m6 120 [4,7,10,45,46,47] [v0,v15,v32,v23,v34,(.int .i64 0)]) S33 (a6g E w0 Q)))
theorem c0B{E:j2}{w0:j9}{Q:D→b8→Prop}{a0 a1:D}{S:b8}(h:b6p E w0 (d9 E Q) a0 a1 S):j8 Tryz.prog E w0 a5H [a0,a1] S Q:=
 j0 V8 W0 V2 (fn:=Tryz.f54) (c:=Tryz.f54.body.getD .skip) mixed Tryz.func54 (by kernel_rfl) (by kernel_rfl) h
def b5a:List (Nat×List Nat):=[(8,[0,5,6,7])]
def b5E:List (Nat×List Nat):=[]
def b5v:List (Nat×O6):=[]
noncomputable def b2N:Code:=(j7 [1,1,1,0,1,0,0] (Tryz.f32.body.getD .skip))
def b2e(E:j2)(w0:j9)(Q:D→b8→Prop):o8→List D→b8→Prop:=
 (q8 0 (H4 Tryz.prog E w0 b5a b5E b5v (j7 [1,1,1,1] (Tryz.f32.body.getD .skip)) (F5 Tryz.prog Tryz.f32 Q)))
def b1I(E:j2)(w0:j9)(N0:D→D→D→D→b8→Prop)(Q:D→b8→Prop)(x0 x5 x6 x7:D)(S:b8):Prop:=
 b7 (m9 x0) fun v0=>
 b7 (i4 .lss x7 v0) fun v1=>
 i6 v1
 (j8 Tryz.prog E w0 a5H [x0,x7] S fun v2 S3=>
 b7 (j5 v2 0) fun v4=>
 b7 (j5 v2 1) fun v5=>
 b7 (j5 v2 2) fun v6=>
 j6 S3 [(.int .u8 0),(.int .i64 0),(.int .i64 0), .nilSlc] fun v7 S8=>
 i7 S8 4 v7 v4 fun v9 S10=>
 b7 (i4 .neq v6 (.int .i64 0)) fun v11=>
 i6 v11
 (Q (.tup [.nilSlc, .nilSlc,v6]) S10)
 (b7 (i5 S10 4 v7) fun v12=>
 r9 S10 4 (m8 4 (List.replicate 1 [(.int .u8 0),(.int .i64 0),(.int .i64 0), .nilSlc]) [(0,v12)]) 1 fun v13 S14=>
 w9 S14 4 48 x5 v13 fun v15 S16=>
 r9 S16 1 (m8 1 (List.replicate 1 [(.int .i64 0)]) [(0,x7)]) 1 fun v17 S18=>
 w9 S18 1 8 x6 v17 fun v19 S20=>
 N0 x0 v15 v19 v5 S20))
 (Q (.tup [x5,x6,(.int .i64 0)]) S)
theorem c3R{E:j2}{w0:j9}{N0:D→D→D→D→b8→Prop}{Q:D→b8→Prop}{x0 x5 x6 x7:D}{S:b8}(h:b1I E w0 N0 Q x0 x5 x6 x7 S):
  j1 Tryz.prog E w0 b2N (m6 36 [0,5,6,7] [x0,x5,x6,x7]) S (B0 (fun T S=>N0 (T.getD 0 b9) (T.getD 5 b9) (T.getD 6 b9) (T.getD 7 b9) S) (b2e E w0 Q)):=j3 b5a b5E b5v mixed (by kernel_rfl) h
theorem c3q{E:j2}{w0:j9}{Q:D→b8→Prop}(I:Nat→D→D→D→D→b8→Prop)
  (step:∀n x0 x5 x6 x7 S,I n x0 x5 x6 x7 S→b1I E w0 (fun x0 x5 x6 x7 S=>∃m,m<n∧I m x0 x5 x6 x7 S) Q x0 x5 x6 x7 S)
  {n:Nat} {x0 x5 x6 x7:D} {S:b8} (h:I n x0 x5 x6 x7 S):j1 Tryz.prog E w0 (.loop b2N) (m6 36 [0,5,6,7] [x0,x5,x6,x7]) S (b2e E w0 Q):=
 o7 (k:=36) (n:=n) (I:=fun n T S=>I n (T.getD 0 b9) (T.getD 5 b9) (T.getD 6 b9) (T.getD 7 b9) S) (fun n T S hl hI=>p8 [0,5,6,7] hl (j1.mono (c3R (step n _ _ _ _ S hI)) fun ex T' S' _ hq=>by cases ex<;>exact hq)) (m7 ..) (Eq.mp (by kernel_rfl) h)
def c5i(E:j2)(w0:j9)(Q:D→b8→Prop)(a0:D)(S:b8):Prop:=
 j1 Tryz.prog E w0 (.loop b2N) (m6 36 [0,5,6,7] [a0, .nilSlc, .nilSlc,(.int .i64 0)]) S (b2e E w0 Q)
theorem c7h{E:j2}{w0:j9}{Q:D→b8→Prop}{a0:D}{S:b8}(h:c5i E w0 (d9 E Q) a0 S):j8 Tryz.prog E w0 a5X [a0] S Q:=
 j0 b5a b5E b5v (fn:=Tryz.f32) (c:=Tryz.f32.body.getD .skip) mixed Tryz.func32 (by kernel_rfl) (by kernel_rfl) h
end Go.Proofs.YtdkidgkiplcggaaGreat.d
end
section
open Go.Proofs Go Go.Am Go.Op
namespace Go.Proofs.YtdkidgkiplcggaaGreat.d
section
def rdC(bs:List Int)(s:Nat×Int):List D:=[bD bs, .int .i64 (s.1:Int), .int .i64 s.2]
theorem d9e{s:Nat}(h:s<8):(2:Nat)^(8*s)≤2^56:=Nat.pow_le_pow_right (by decide) (by omega)
section
variable{E:j2}{w0:j9}
theorem c7U{bs:List Int}(hb:∀b∈bs,a1m b)(hl:bs.length<2^60){s:Nat×Int}(hs:s.1≤bs.length){row:List D}{f:Fld}(hf:c2k row f)(h1:1≤f.size)(h8:f.size≤8){S:b8}{k:Nat}{acs:List AV}(hk:S k=some ⟨3,[rdC bs s],acs⟩):
  j8 Tryz.prog E w0 B9 [.ptr k 0, .agg row] S fun v S'=>v= .int .i64 (G7 bs f s).1∧∃acs',S'=S.set k ⟨3,[rdC bs (G7 bs f s).2],acs'⟩:=by
 obtain⟨fv,rfl,hm⟩:=hf
 refine b3a ?_
 unfold a7S
 rw[U9,oD]
 intro k0 a0 n0
 have d:k≠k0:=b8.ne_of hk n0
 generalize hS1:S.set k0 _=S1
 have bk:S1 k=some ⟨3,[rdC bs s],acs⟩:=by rw[←hS1,b8.set_ne _ _ _ d];exact hk
 have b0:S1 k0=some ⟨2,[[.int .i64 (f.size:Int),fv]],a0⟩:=by rw[←hS1];exact b8.set_same _ _ _
 have drop:∀ {o:D5} {Q:D→b8→Prop} {v:D},d9 E Q v (S.set k o)→d9 E Q v (S1.set k o):=fun{o Q v} h=>by
  rw[←hS1,b8.set_comm _ (Ne.symm d)]
  exact d9.drop (by rw[b8.set_ne _ _ _ (Ne.symm d)];exact n0) h
 have l2:c9 S1 (.ptr k 2)=some (.int .i64 s.2):=ldP bk
 have l1:c9 S1 (.ptr k 1)=some (.int .i64 (s.1:Int)):=ldP bk
 have l0:c9 S1 (.ptr k 0)=some (bD bs):=ldP bk
 have m0:c9 S1 (.ptr k0 0)=some (.int .i64 (f.size:Int)):=ldP b0
 have m1:c9 S1 (.ptr k0 1)=some fv:=ldP b0
 simp only[ndP,E2,oD,Nat.zero_add,l2,l1,l0,m0,c4H]
 rw[d6a,I6]
 refine⟨fun he=> ?_,fun he=> ?_⟩
 ·rw[d2f he, ←hS1]
  exact d9.drop n0 (d9.here ⟨rfl,acs,(b8.set_self hk).symm⟩)
 have he:s.2=0:=Classical.not_not.1 he
 refine(c7B hb hl hs h1 h8).use ?_
 have hset:∀n m:Int,l7 (rdC bs (s.1,n)) 2 [.int .i64 m]=rdC bs (s.1,m):=fun _ _=>rfl
 have hset1:∀m:Nat,l7 (rdC bs s) 1 [.int .i64 (m:Int)]=rdC bs (m,s.2):=fun _=>rfl
 by_cases hsh:bs.length<s.1+f.size
 ·rw[if_pos hsh]
  have e:G7 bs f s=(0,s.1,10):=by unfold G7;rw[if_neg (by simp[he]),if_pos hsh]
  simp only[exD,List.getElem?_cons_zero,List.getElem?_cons_succ,oD,c4H]
  rw[show((10:Int) != 0)=true from rfl,cdT]
  refine stP bk (clI _ _) ⟨rfl,by decide,by simp[rdC]⟩ fun acs'=>drop (d9.here ?_)
  rw[e]
  exact⟨rfl,acs',rfl⟩
 rw[if_neg hsh]
 simp only[exD,List.getElem?_cons_zero,List.getElem?_cons_succ,oD,c4H,cvI]
 rw[show((0:Int) != 0)=false from rfl,cdF]
 obtain⟨u,hu⟩:∃u,u=leN ((bs.drop s.1).take f.size):=⟨_,rfl⟩
 have hur:G7 bs f s=match rdN f u with|some n=>(n,s.1+f.size,0)|none=>(0,s.1,120):=by
  unfold G7;rw[if_neg (by simp[he]),if_neg hsh, ←hu]
  cases rdN f u<;>rfl
 have hult:u<2^(8*f.size):=by
  rw[hu]
  have hbs:∀b∈(bs.drop s.1).take f.size,a1m b:=fun b hb'=>hb b (List.mem_of_mem_drop (List.mem_of_mem_take hb'))
  have:=c3A hbs
  rwa [show((bs.drop s.1).take f.size).length=f.size by rw[List.length_take,List.length_drop];omega]at this
 rw[←hu]
 obtain⟨n,hn⟩:∃n,n=IntKind.i64.wrap (u:Int):=⟨_,rfl⟩
 have hn64:I64 n:=by rw[hn];exact c9j _
 rw[←hn,m1,oD]
 have tail:∀n':Int,I64 n'→n'=(if f.may n=false∧f.size<8 then n - 2^(8*f.size) else n)→K7 E w0 (d9 E fun v S'=>v= .int .i64 (G7 bs f s).1∧∃acs',S'=S.set k ⟨3,[rdC bs (G7 bs f s).2],acs'⟩) (.ptr k 0) (.ptr k0 0) (.int .i64 ((s.1+f.size:Nat):Int)) (.int .i64 n') S1:=fun n' hn' he'=>by
  refine a8V ?_
  unfold a4M
  simp only[E2,oD,Nat.zero_add,m1]
  refine c3p hm hn' ?_
  rw[unN,oD]
  have hrd:rdN f u=if f.may n'=true then some n' else none:=by
   unfold rdN;simp only;rw[←hn, ←he']
  have hmm:decide (f.lo≤n'∧n'≤f.hi)=f.may n':=rfl
  rw[hmm,cdB]
  refine⟨fun hf=> ?_,fun hf=> ?_⟩
  ·have hf:f.may n'=false:=by simpa using hf
   rw[hf,if_neg (by decide)]at hrd
   rw[hrd]at hur
   simp only[ndP,E2,oD,Nat.zero_add]
   refine stP bk (clI _ _) ⟨rfl,by decide,by simp[rdC]⟩ fun acs'=>drop (d9.here ?_)
   rw[hur]
   exact⟨rfl,acs',rfl⟩
  ·have hf:f.may n'=true:=by simpa using hf
   rw[if_pos hf]at hrd
   rw[hrd]at hur
   simp only[ndP,E2,oD,Nat.zero_add]
   refine stP bk (clI _ _) ⟨rfl,by decide,by simp[rdC]⟩ fun acs'=>drop (d9.here ?_)
   rw[hur,hset1,he]
   exact⟨rfl,acs',rfl⟩
 refine c3p hm hn64 ?_
 have hmm:decide (f.lo≤n∧n≤f.hi)=f.may n:=rfl
 rw[hmm,unN,oD]
 have e8:decide ((f.size:Int)<8)=decide (f.size<8):=decide_eq_decide.2 (by omega)
 have key:(b7 (i4 .mul (.int .i64 8) (.int .i64 (f.size:Int))) fun v49=>b7 (i4 .shl (.int .i64 1) v49) fun v50=>b7 (i4 .sub (.int .i64 n) v50) fun v51=>K7 E w0 (d9 E fun v S'=>v= .int .i64 (G7 bs f s).1∧∃acs',S'=S.set k ⟨3,[rdC bs (G7 bs f s).2],acs'⟩) (.ptr k 0) (.ptr k0 0) (.int .i64 ((s.1+f.size:Nat):Int)) v51 S1)∨¬(f.may n=false∧f.size<8):=by
  by_cases hc:f.may n=false∧f.size<8
  ·left
   have h56:=d9e hc.2
   have hnu:n=u:=by rw[hn];exact l8 (by omega) (by omega)
   rw[d4T,oD,l8 (by omega) (by omega),d6p _ _ _ _ (by omega),oD]
   have e1:min (8*(f.size:Int)).toNat IntKind.i64.bits=8*f.size:=by
    have:IntKind.i64.bits=64:=rfl
    omega
   have e2:(1:Int)*2^(8*f.size)=((2^(8*f.size):Nat):Int):=by rw[Int.one_mul];exact_mod_cast rfl
   rw[e1,e2,l8 (by omega) (by omega),b4u,oD,l8 (by omega) (by omega)]
   refine tail _ ⟨by omega,by omega⟩ ?_
   rw[if_pos hc]
   congr 1
  ·exact .inr hc
 cases hmn:f.may n with
 |true=>
  simp only[Bool.not_true,M4,vdF,oD,M8,Bool.false_eq_true,if_false,cdF,show((false==true)=false) from rfl]
  exact tail n hn64 (by rw[if_neg (by rw[hmn];simp)])
 |false=>
  simp only[Bool.not_false,M4,vdT,oD,M8,if_true,show((true==true)=true) from rfl,m0,H7,e8]
  rw[I6]
  refine⟨fun h=> ?_,fun h=> ?_⟩
  ·exact key.resolve_right fun hc=>hc ⟨hmn,h⟩
  ·exact tail n hn64 (by rw[if_neg (fun hc=>h hc.2)])
end
end
section
def zC:List D:=[.int .u8 0, .int .i64 0, .int .i64 0, .nilSlc]
def a1r(op a b:Int)(t:D):List D:=[.int .u8 op, .int .i64 a, .int .i64 b,t]
def c6B(r:Dat×(Nat×Int))(t:D):D:= .tup [.agg (a1r r.1.1 r.1.2.1 r.1.2.2.1 t), .int .i64 (r.2.1:Int), .int .i64 r.2.2]
section
variable{E:j2}{w0:j9}
theorem d1O{Q:D→b8→Prop}{S:b8}{k4 k7 k10:Nat}{c4:List D}{op a b:Int}{t:D}{bs:List Int}{s:Nat×Int}(h4:u9 S k4 4 c4)(h7:u9 S k7 4 (a1r op a b t))(h10:u9 S k10 3 (rdC bs s))(l4:c4.length=4)(ht:o3 t=some [t])
  (hQ:∀S',(∀j,j≠k4→S' j=S j)→d9 E Q (if s.2=0 then .tup [.agg (a1r op a b t), .int .i64 (s.1:Int), .int .i64 0]else .tup [.agg zC, .int .i64 0, .int .i64 s.2]) S'):a0w E w0 (d9 E Q) (.ptr k4 0) (.ptr k7 0) (.ptr k10 0) S:=by
 refine b5M ?_
 unfold b0Y
 have e410:k10≠k4:=h10.ne h4 (by decide)
 have ld2:(rdC bs s)[2]? =some (.int .i64 s.2):=rfl
 have ld1:(rdC bs s)[1]? =some (.int .i64 (s.1:Int)):=rfl
 simp only[ndP,E2,oD,Nat.zero_add,h10.ld,ld2,ld1,c4H,fiN,agS]
 rw[d6a,I6]
 refine⟨fun he=> ?_,fun he=> ?_⟩
 ·refine h4.st (U9 _) ⟨rfl,by decide,by omega⟩ fun a4=>⟨by rw[fwP,b8.set_ne _ _ _ e410], ?_⟩
  have hs:l7 c4 0 [D.int .u8 0, .int .i64 0, .int .i64 0, .nilSlc]=zC:=by
   match c4,l4 with
   | [_,_,_,_],_=>rfl
  rw[hs,(u9.new).all (n:=4) (by decide) rfl,oD]
  have:=hQ (S.set k4 ⟨4,[zC],a4⟩) (fun j hj=>b8.set_ne _ _ _ hj)
  rw[if_neg he]at this
  exact this
 ·rw[h7.all (n:=4) (by decide) rfl,oD]
  refine h4.st (ds:=a1r op a b t) (U9 _) ⟨rfl,by decide,by omega⟩ fun a4=>⟨by rw[fwP,b8.set_ne _ _ _ e410], ?_⟩
  have hs:l7 c4 0 (a1r op a b t)=a1r op a b t:=by
   match c4,l4 with
   | [_,_,_,_],_=>rfl
  rw[hs,(u9.new).all (n:=4) (by decide) rfl,oD]
  have:=hQ (S.set k4 ⟨4,[a1r op a b t],a4⟩) (fun j hj=>b8.set_ne _ _ _ hj)
  rw[if_pos (Classical.not_not.1 he)]at this
  exact this
structure a1c (S:b8) (k4 k7 k10:Nat) (c7:List D) (bs:List Int) (s:Nat×Int) (S':b8):Prop where
 le:S.le S'
 n4:S k4=none
 n7:S k7=none
 n10:S k10=none
 d47:k4≠k7
 h4:u9 S' k4 4 zC
 h7:u9 S' k7 4 c7
 h10:u9 S' k10 3 (rdC bs s)
section
variable{S S':b8}{k4 k7 k10:Nat}{c7:List D}{bs:List Int}{s:Nat×Int}
theorem a1c.d410(h:a1c S k4 k7 k10 c7 bs s S'):k4≠k10:=h.h4.ne h.h10 (by decide)
theorem a1c.d710(h:a1c S k4 k7 k10 c7 bs s S'):k7≠k10:=h.h7.ne h.h10 (by decide)
theorem a1c.set7(h:a1c S k4 k7 k10 c7 bs s S'){c:List D}{a:List AV}:a1c S k4 k7 k10 c bs s (S'.set k7 ⟨4,[c],a⟩):=
 ⟨b8.le_set h.le h.n7,h.n4,h.n7,h.n10,h.d47,h.h4.set_ne h.d47,u9.new,h.h10.set_ne (Ne.symm h.d710)⟩
theorem a1c.set10(h:a1c S k4 k7 k10 c7 bs s S'){s':Nat×Int}{a:List AV}:a1c S k4 k7 k10 c7 bs s' (S'.set k10 ⟨3,[rdC bs s'],a⟩):=
 ⟨b8.le_set h.le h.n10,h.n4,h.n7,h.n10,h.d47,h.h4.set_ne h.d410,h.h7.set_ne h.d710,u9.new⟩
theorem a1c.new(h:a1c S k4 k7 k10 c7 bs s S'){k:Nat}{o:D5}(hk:S' k=none):a1c S k4 k7 k10 c7 bs s (S'.set k o):=
 ⟨b8.le_set h.le (b8.none_of h.le hk),h.n4,h.n7,h.n10,h.d47,h.h4.set hk,h.h7.set hk,h.h10.set hk⟩
theorem a1c.of(h:a1c S k4 k7 k10 c7 bs s S'){S2:b8}(hl:S.le S2)(e:∀j∈[k4,k7,k10],S2 j=S' j):a1c S k4 k7 k10 c7 bs s S2:=
 ⟨hl,h.n4,h.n7,h.n10,h.d47,h.h4.of (e _ (by simp)),h.h7.of (e _ (by simp)),h.h10.of (e _ (by simp))⟩
end
theorem c2k.len{row:List D}{f:Fld}(h:c2k row f):row.length=2:=by obtain⟨fv,rfl,_⟩:=h;rfl
theorem d5B{row:List D}{f:Fld}(h:c2k row f):l7 [D.int .i64 0, .nilFn] 0 row=row:=by obtain⟨fv,rfl,_⟩:=h;rfl
theorem a8Q{S S':b8}{k4 k7 k10:Nat}{c7:List D}{bs:List Int}{s:Nat×Int}(h:a1c S k4 k7 k10 c7 bs s S')(hb:∀b∈bs,a1m b)(hl:bs.length<2^60)(hs:s.1≤bs.length){row:List D}{f:Fld}(hf:c2k row f)(h1:1≤f.size)(h8:f.size≤8):
  j8 Tryz.prog E w0 B9 [.ptr k10 0, .agg row] S' fun v S2=>v= .int .i64 (G7 bs f s).1∧a1c S k4 k7 k10 c7 bs (G7 bs f s).2 S2∧∀j,j≠k10→S2 j=S' j:=by
 obtain⟨a,e⟩:=h.h10
 refine(c7U hb hl hs hf h1 h8 e).use fun v S2 ⟨e1,a',e2⟩=>⟨e1, ?_, ?_⟩
 ·rw[e2];exact h.set10
 ·rw[e2];exact fun j hj=>b8.set_ne _ _ _ hj
theorem d5t(bs:List Int)(f:Fld)(s:Nat×Int):(G7 bs f s).1=0∨f.may (G7 bs f s).1=true:=by
 unfold G7
 split
 ·exact .inl rfl
 split
 ·exact .inl rfl
 ·split
  ·rename_i m hm
   unfold rdN at hm
   simp only[Option.ite_none_right_eq_some,Option.some.injEq]at hm
   obtain⟨h1,h2⟩:=hm
   right;rw[←h2];exact h1
  ·exact .inl rfl
theorem d7D{Q:D→b8→Prop}{S:b8}{k4 k7 k10 k13 k14:Nat}{op a:Int}{bs:List Int}{s:Nat×Int}{S':b8}(hb:∀b∈bs,a1m b)(hl:bs.length<2^30)(h:a1c S k4 k7 k10 (a1r op a 0 .nilSlc) bs s S')(hs:s.1≤bs.length)
  (h13:u9 S' k13 2 [.int .i64 4,a0y 0 4294967295]) (h14:u9 S' k14 2 [.int .i64 8,a7r (IntKind.u8.wrap a)]) (n13:S k13=none) (n14:S k14=none) (d7:k7≠k13∧k7≠k14)
  (hQ:∀t S',Grw S t ((a9b bs op a s).1.2.2.2.map a0J) 2 S'→d9 E Q (if(a9b bs op a s).2.2=0 then .tup [.agg (a1r op a (a9b bs op a s).1.2.2.1 t), .int .i64 ((a9b bs op a s).2.1:Int), .int .i64 0]else .tup [.agg zC, .int .i64 0, .int .i64 (a9b bs op a s).2.2]) S'):
  s6 E w0 (d9 E Q) (.ptr k4 0) (.ptr k7 0) (.ptr k10 0) (.ptr k13 0) (.ptr k14 0) S':=by
 refine b4V ?_
 unfold b0L
 refine F0.use ?_
 rw[a4E (b4s _ _),oD]
 have hl60:bs.length<2^60:=by omega
 refine(a8Q h hb hl60 hs (row:=[.int .i64 2,a0y 0 65535]) (f:=fIx) ⟨_,rfl,c0v.bet _ _⟩ (by decide) (by decide)).use ?_
 rintro v S2 ⟨rfl,h2,ke⟩
 have hs2:=c5U (f:=fIx) hs
 have hn0:0≤(G7 bs fIx s).1∧(G7 bs fIx s).1≤65535:=by
  rcases d5t bs fIx s with h|h
  ·omega
  ·exact of_decide_eq_true h
 have e13:k13≠k10:=h13.ne h.h10 (by decide)
 have e14:k14≠k10:=h14.ne h.h10 (by decide)
 have h13:=h13.of (ke _ e13)
 have h14:=h14.of (ke _ e14)
 obtain⟨N,hN⟩:∃N:Nat,(G7 bs fIx s).1=(N:Int):=⟨(G7 bs fIx s).1.toNat,by omega⟩
 have hdec:a9b bs op a s=((op,a,(G7 bs Q6 (R3 bs (IntKind.u8.wrap a) N (G7 bs fIx s).2 []).2).1,(R3 bs (IntKind.u8.wrap a) N (G7 bs fIx s).2 []).1),(G7 bs Q6 (R3 bs (IntKind.u8.wrap a) N (G7 bs fIx s).2 []).2).2):=by
  unfold a9b;rw[hN];rfl
 rw[hN]
 refine b7a (I:=fun n x4 x7 x10 x13 x14 x15 T=>x4= .ptr k4 0∧x7= .ptr k7 0∧x10= .ptr k10 0∧x13= .ptr k13 0∧x14= .ptr k14 0∧x15= .int .i64 (n:Int)∧n≤N∧∃(s':Nat×Int) (acc:List (Int×Int)) (t:D),a1c S k4 k7 k10 (a1r op a 0 t) bs s' T∧s'.1≤bs.length∧
   u9 T k13 2 [.int .i64 4,a0y 0 4294967295]∧u9 T k14 2 [.int .i64 8,a7r (IntKind.u8.wrap a)]∧GrA S [k4,k7,k10,k13,k14] t (acc.map a0J) 2 T∧acc.length+n=N∧R3 bs (IntKind.u8.wrap a) n s' acc=R3 bs (IntKind.u8.wrap a) N (G7 bs fIx s).2 []) ?_ (n:=N)
  ⟨rfl,rfl,rfl,rfl,rfl,rfl,Nat.le_refl _,_,[], .nilSlc,h2,hs2,h13,h14,GrA.nil,by simp,rfl⟩
 rintro n _ _ _ _ _ _ T ⟨rfl,rfl,rfl,rfl,rfl,rfl,hnN,s',acc,t,hd,hs',g13,g14,hg,hacc,hrd⟩
 unfold a6D
 have ld2:c9 T (.ptr k10 2)=some (.int .i64 s'.2):=hd.h10.ld 2
 have fin:(n=0∨s'.2≠0)→(b7 (i5 T 2 (.ptr k13 0)) fun v107=>j8 Tryz.prog E w0 B9 [.ptr k10 0,v107] T fun v108 S109=>b7 (j4 2 (.ptr k7 0)) fun v110=>i7 S109 1 v110 v108 fun v111 S112=>a0w E w0 (d9 E Q) (.ptr k4 0) (.ptr k7 0) (.ptr k10 0) S112):=fun hend=>by
  have hrd':R3 bs (IntKind.u8.wrap a) N (G7 bs fIx s).2 []=(acc,s'):=by
   rw[←hrd]
   rcases hend with rfl|h
   ·rfl
   ·exact c1N h
  rw[hrd']at hdec
  rw[g13.all (n:=2) (by decide) rfl,oD]
  refine(a8Q hd hb hl60 hs' (row:=[.int .i64 4,a0y 0 4294967295]) (f:=Q6) ⟨_,rfl,c0v.bet _ _⟩ (by decide) (by decide)).use ?_
  rintro v T2 ⟨rfl,hd2,ke2⟩
  rw[E2,oD]
  refine hd2.h7.st (clI _ _) ⟨rfl,by decide,by simp[a1r]⟩ fun a7=> ?_
  have hd3:=hd2.set7 (c:=a1r op a (G7 bs Q6 s').1 t) (a:=a7)
  have hg3:GrA S [k4,k7,k10,k13,k14] t (acc.map a0J) 2 (T2.set k7 ⟨4,[a1r op a (G7 bs Q6 s').1 t],a7⟩):=(hg.of fun k o hk e=>by rw[ke2 k (fun e=>hk (by simp[e]))];exact e).set (.inl (by simp))
  refine d1O hd3.h4 hd3.h7 hd3.h10 rfl hg.cells fun S'' hS''=> ?_
  have hg4:GrA S [k4,k7,k10,k13,k14] t (acc.map a0J) 2 S'':=hg3.of fun k o hk e=>by rw[hS'' k (fun e=>hk (by simp[e]))];exact e
  have hle:S.le S'':=fun j o e=>by rw[hS'' j (fun e'=>by rw[e',hd.n4]at e;cases e)];exact hd3.le _ _ e
  obtain⟨S3,l3,g3⟩:=hg4.grw hle
  refine d9.less l3 ?_
  have:=hQ t S3 (by rw[hdec];exact g3)
  rw[hdec]at this
  exact this
 simp only[a7w,oD,ndP,E2,Nat.zero_add,ld2,a8b]
 by_cases h0:n=0
 ·subst h0
  simp only[Int.natCast_zero,gt_iff_lt,Int.lt_irrefl,decide_false,M4,vdF,oD,M8,Bool.false_eq_true,if_false,cdF,show((false==true)=false) from rfl]
  exact fin (.inl rfl)
 have hpos:decide ((n:Int)>0)=true:=decide_eq_true (by omega)
 simp only[hpos,M4,vdT,oD,M8,if_true,show((true==true)=true) from rfl,ndP,E2,Nat.zero_add,ld2,a8b]
 rw[cdB]
 refine⟨fun h0'=> ?_,fun h0'=> ?_⟩
 ·have hs0:s'.2=0:=by simpa using h0'
  rw[g14.all (n:=2) (by decide) rfl,oD]
  refine(a8Q hd hb hl60 hs' (row:=[.int .i64 8,a7r (IntKind.u8.wrap a)]) (f:=vF (IntKind.u8.wrap a)) ⟨_,rfl,c0v.fit _⟩ (by show 1≤8;decide) (by show 8≤8;decide)).use ?_
  rintro v T2 ⟨rfl,hd2,ke2⟩
  have hs2':=c5U (f:=vF (IntKind.u8.wrap a)) hs'
  have f13:=g13.of (ke2 _ e13)
  have f14:=g14.of (ke2 _ e14)
  have ld3:c9 T2 (.ptr k7 3)=some t:=hd2.h7.ld 3
  rw[ld3,oD]
  rw[f13.all (n:=2) (by decide) rfl,oD]
  refine(a8Q hd2 hb hl60 hs2' (row:=[.int .i64 4,a0y 0 4294967295]) (f:=Q6) ⟨_,rfl,c0v.bet _ _⟩ (by decide) (by decide)).use ?_
  rintro v T3 ⟨rfl,hd3,ke3⟩
  have k7e:T3 k7=T2 k7:=ke3 _ hd.d710
  refine⟨by rw[fwP,k7e], ?_⟩
  have hfa:E1 (r6 [D.int .i64 0, .int .i64 0] [(0,1, .int .i64 (G7 bs (vF (IntKind.u8.wrap a)) s').1),(1,1, .int .i64 (G7 bs Q6 (G7 bs (vF (IntKind.u8.wrap a)) s').2).1)])=some (.agg (a0J ((G7 bs (vF (IntKind.u8.wrap a)) s').1,(G7 bs Q6 (G7 bs (vF (IntKind.u8.wrap a)) s').2).1))):=rfl
  rw[hfa,oD]
  refine G6 (rows:=[a0J _]) rfl ⟨by rw[fwP,k7e], ?_⟩
  have hg2:GrA S [k4,k7,k10,k13,k14] t (acc.map a0J) 2 T2:=hg.of fun k o hk e=>by rw[ke2 k (fun e=>hk (by simp[e]))];exact e
  have hg3:GrA S [k4,k7,k10,k13,k14] t (acc.map a0J) 2 T3:=hg2.of fun k o hk e=>by rw[ke3 k (fun e=>hk (by simp[e]))];exact e
  have q13:=f13.of (ke3 _ e13)
  have q14:=f14.of (ke3 _ e14)
  refine hg3.push hd3.le (fun j hj=> ?_) (news:=[a0J ((G7 bs (vF (IntKind.u8.wrap a)) s').1,(G7 bs Q6 (G7 bs (vF (IntKind.u8.wrap a)) s').2).1)]) (by simp[rowsS,L5]) (by simp) (by simp;omega) fun t' T4 hle4 he4 hg4=> ?_
  ·simp only[List.mem_cons,List.not_mem_nil,or_false]at hj
   rcases hj with rfl|rfl|rfl|rfl|rfl
   ·exact hd3.h4.there
   ·exact hd3.h7.there
   ·exact hd3.h10.there
   ·exact q13.there
   ·exact q14.there
  have hd4:a1c S k4 k7 k10 (a1r op a 0 t) bs _ T4:=hd3.of hle4 fun j hj=>he4 j (by simp only[List.mem_cons,List.not_mem_nil,or_false]at hj ⊢;rcases hj with rfl|rfl|rfl<;>simp)
  refine hd4.h7.st (hg4.cells) ⟨rfl,by decide,by simp[a1r]⟩ fun a7=> ?_
  rw[b4u,oD,l8 (by omega) (by omega)]
  obtain⟨m,rfl⟩:∃m,n=m+1:=⟨n - 1,by omega⟩
  rw[R3,if_neg (by simpa using hs0)]at hrd
  refine⟨m,by omega,by trivial,by trivial,by trivial,by trivial,by trivial,by congr 1;omega,by omega,_,acc++[_],t',hd4.set7 (c:=a1r op a 0 t'),c5U hs2', ?_, ?_, ?_,by simp;omega,hrd⟩
  ·exact(q13.of (he4 _ (by simp))).set_ne (Ne.symm d7.1)
  ·exact(q14.of (he4 _ (by simp))).set_ne (Ne.symm d7.2)
  ·rw[List.map_append]
   exact hg4.set (.inl (by simp))
 ·exact fin (.inr (by simpa using h0'))
end
end
end Go.Proofs.YtdkidgkiplcggaaGreat.d
end
