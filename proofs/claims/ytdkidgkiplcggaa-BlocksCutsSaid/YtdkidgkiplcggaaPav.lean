/-
  BlocksCutsSaid: part Pav of its proof.
-/
import Derived.Test.YtdkidgkiplcggaaRows
import Derived.Test.YtdkidgkiplcggaaPar
import Derived.KernelRfl
import Derived.Test.YtdkidgkiplcggaaPat
import Derived.Test.YtdkidgkiplcggaaPau
set_option linter.unusedVariables false
set_option linter.unusedSimpArgs false
set_option maxRecDepth 100000
section
open Go.Proofs Go Go.Am
namespace Go.Proofs.Ytdkidgkiplcggaa.d
def a3t:List (Nat×List Nat):=[]
def a3e:List (Nat×List Nat):=[(20,[0,3,6,8])]
def a3k:List (Nat×Arr):=[]
noncomputable def a8e:Code:=(i9 [1,1,1,1,1,1] (Try.f61.body.getD .skip))
def a7g(E:g8)(w0:j0)(Q:D→b5→Prop):j7→List D→b5→Prop:=
 (F5 Try.prog Try.f61 Q)
def a2c(E:g8)(w0:j0)(Q:D→b5→Prop)(x0 x3 x6 x8:D)(S:b5):Prop:=
 b4 (p9 1 x3) fun v25=>
 b4 (d9 S v25) fun v26=>
 a7h Try.prog (p8 Try.prog E w0) S v26 [x8] fun v27 S28=>
 b4 (unD .not v27) fun v29=>
 i5 v29
 (b4 (W6 x0) fun v30=>
 b4 (p9 2 v30) fun v31=>
 j1 S28 1 v31 (.int .i64 120) fun v32 S33=>
 Q (.int .i64 0) S33)
 (b4 (W6 x0) fun v34=>
 b4 (p9 1 v34) fun v35=>
 j1 S28 1 v35 x6 fun v36 S37=>
 Q x8 S37)
def F8(E:g8)(w0:j0)(Q:D→b5→Prop)(x0 x3 x6 x8:D)(S:b5):Prop:=f9 Try.prog E w0 a8e (i7 65 [0,3,6,8] [x0,x3,x6,x8]) S (a7g E w0 Q)
theorem a5M{E:g8}{w0:j0}{Q:D→b5→Prop}{x0 x3 x6 x8:D}{S:b5}(h:a2c E w0 Q x0 x3 x6 x8 S):F8 E w0 Q x0 x3 x6 x8 S:=g9 a3t a3e a3k mixed (by kernel_rfl) h
def a4h(E:g8)(w0:j0)(Q:D→b5→Prop)(a0 a1:D)(S:b5):Prop:=
 b4 (s5 a1) fun cs=>o6 S cs fun v0 S1=>
 b4 (W6 a0) fun v2=>
 b4 (p9 2 v2) fun v3=>
 b4 (d9 S1 v3) fun v4=>
 b4 (d5 .neq v4 (.int .i64 0)) fun v5=>
 i5 v5
 (Q (.int .i64 0) S1)
 (b4 (W6 a0) fun v6=>
 b4 (p9 0 v6) fun v7=>
 b4 (d9 S1 v7) fun v8=>
 b4 (W6 a0) fun v9=>
 b4 (p9 1 v9) fun v10=>
 b4 (d9 S1 v10) fun v11=>
 b4 (p9 0 v0) fun v12=>
 b4 (d9 S1 v12) fun v13=>
 p8 Try.prog E w0 a8f [v8,v11,v13] S1 fun v14 S15=>
 b4 (o5 v14 0) fun v16=>
 b4 (o5 v14 1) fun v17=>
 b4 (o5 v14 2) fun v18=>
 b4 (d5 .neq v18 (.int .i64 0)) fun v19=>
 i5 v19
 (b4 (W6 a0) fun v20=>
 b4 (p9 2 v20) fun v21=>
 j1 S15 1 v21 (.int .i64 10) fun v22 S23=>
 Q (.int .i64 0) S23)
 (b4 (Q9 .i64 v16) fun v24=>
 b4 (p9 1 v0) fun v38=>
 b4 (d9 S15 v38) fun v39=>
 a7h Try.prog (p8 Try.prog E w0) S15 v39 [v24] fun v40 S41=>
 b4 (unD .not v40) fun v42=>
 b4 (d6 (b8 v42 true) (p9 0 v0)) fun v43=>
 b4 (d6 (b8 v42 true) (d9 S41 v43)) fun v44=>
 b4 (d6 (b8 v42 true) (d5 .lss v44 (.int .i64 8))) fun v45=>
 b4 (y9 v42 v45 (.bool false)) fun v46=>
 i5 v46
 (b4 (p9 0 v0) fun v47=>
 b4 (d9 S41 v47) fun v48=>
 b4 (d5 .mul (.int .i64 8) v48) fun v49=>
 b4 (d5 .shl (.int .i64 1) v49) fun v50=>
 b4 (d5 .sub v24 v50) fun v51=>
 F8 E w0 Q a0 v0 v17 v51 S41)
 (F8 E w0 Q a0 v0 v17 v24 S41)))
theorem a7G{E:g8}{w0:j0}{Q:D→b5→Prop}{a0 a1:D}{S:b5}(h:a4h E w0 (b9 E Q) a0 a1 S):p8 Try.prog E w0 A0 [a0,a1] S Q:=
 j6 a3t a3e a3k (fn:=Try.f61) (c:=Try.f61.body.getD .skip) mixed Try.func61 (by kernel_rfl) (by kernel_rfl) h
def L8:List (Nat×List Nat):=[(18,[4,7,10,45,46,47]),(36,[4,7,10,13,14,15])]
def M0:List (Nat×List Nat):=[(34,[4,7,10,13,14]),(46,[4,7,10])]
def M2:List (Nat×Arr):=[(16,(.node 0 7 (.node 0 8 (.node 5 7 (.node 5 8 (.node 7 8 (.leaf [2,3,4,0,1,5,6,7,8,9,10]) (.leaf [2,3,4,0,1,5,6,8,7,9,10])) (.leaf [2,3,4,0,1,8,5,6,7,9,10])) (.node 5 8 (.leaf [2,3,4,0,1,7,5,6,8,9,10]) (.node 7 8 (.leaf [2,3,4,0,1,7,8,5,6,9,10]) (.leaf [2,3,4,0,1,8,7,5,6,9,10])))) (.node 5 7 (.leaf [2,3,4,8,0,1,5,6,7,9,10]) (.leaf [2,3,4,8,0,1,7,5,6,9,10]))) (.node 0 8 (.node 5 8 (.leaf [2,3,4,7,0,1,5,6,8,9,10]) (.leaf [2,3,4,7,0,1,8,5,6,9,10])) (.node 7 8 (.leaf [2,3,4,7,8,0,1,5,6,9,10]) (.leaf [2,3,4,8,7,0,1,5,6,9,10])))))]
noncomputable def a2F:Code:=(i9 [1,1,1,1,1,1,1,1] (Try.f44.body.getD .skip))
def b2I(E:g8)(w0:j0)(Q:D→b5→Prop):j7→List D→b5→Prop:=
 (F5 Try.prog Try.f44 Q)
def a6R(E:g8)(w0:j0)(Q:D→b5→Prop)(x4 x7 x10:D)(S:b5):Prop:=
 b4 (W6 x10) fun v57=>
 b4 (p9 2 v57) fun v58=>
 b4 (d9 S v58) fun v59=>
 b4 (d5 .neq v59 (.int .i64 0)) fun v60=>
 i5 v60
 (b4 (B3 (l8 [(.int .u8 0),(.int .i64 0),(.int .i64 0), .nilSlc] [])) fun v61=>
 b4 (W6 x10) fun v62=>
 b4 (p9 2 v62) fun v63=>
 b4 (d9 S v63) fun v64=>
 j1 S 4 x4 v61 fun v65 S66=>
 C9 v63 S S66∧b4 (l9 S66 4 x4) fun v67=>Q (.tup [v67,(.int .i64 0),v64]) S66)
 (b4 (l9 S 4 x7) fun v68=>
 b4 (W6 x10) fun v69=>
 b4 (p9 1 v69) fun v70=>
 b4 (d9 S v70) fun v71=>
 j1 S 4 x4 v68 fun v72 S73=>
 C9 v70 S S73∧b4 (l9 S73 4 x4) fun v74=>Q (.tup [v74,v71,(.int .i64 0)]) S73)
def Q6(E:g8)(w0:j0)(Q:D→b5→Prop)(x4 x7 x10:D)(S:b5):Prop:=f9 Try.prog E w0 a2F (i7 120 [4,7,10] [x4,x7,x10]) S (b2I E w0 Q)
theorem b0F{E:g8}{w0:j0}{Q:D→b5→Prop}{x4 x7 x10:D}{S:b5}(h:a6R E w0 Q x4 x7 x10 S):Q6 E w0 Q x4 x7 x10 S:=g9 L8 M0 M2 mixed (by kernel_rfl) h
noncomputable def a3d:Code:=(i9 [1,1,1,1,1,1,1,0,1,0,1,0,1,0,0] (Try.f44.body.getD .skip))
def a3m(E:g8)(w0:j0)(Q:D→b5→Prop):j7→List D→b5→Prop:=
 (p5 2 (L4 Try.prog E w0 L8 M0 M2 (i9 [1,1,1,1,1,1,1,0,1,0,1,1] (Try.f44.body.getD .skip)) (c0t Try.prog E w0 120 [4,7,10] a2F (F5 Try.prog Try.f44 Q))))
def a3S(E:g8)(w0:j0)(N1:D→D→D→D→D→D→b5→Prop)(Q:D→b5→Prop)(x4 x7 x10 x13 x14 x15:D)(S:b5):Prop:=
 b4 (d5 .gtr x15 (.int .i64 0)) fun v83=>
 b4 (d6 (b8 v83 true) (some x10)) fun v84=>
 b4 (d6 (b8 v83 true) (W6 v84)) fun v85=>
 b4 (d6 (b8 v83 true) (p9 2 v85)) fun v86=>
 b4 (d6 (b8 v83 true) (d9 S v86)) fun v87=>
 b4 (d6 (b8 v83 true) (d5 .eql v87 (.int .i64 0))) fun v88=>
 b4 (y9 v83 v88 (.bool false)) fun v89=>
 i5 v89
 (b4 (l9 S 2 x14) fun v90=>
 p8 Try.prog E w0 A0 [x10,v90] S fun v91 S92=>
 b4 (p9 3 x7) fun v93=>
 b4 (d9 S92 v93) fun v94=>
 b4 (l9 S92 2 x13) fun v95=>
 p8 Try.prog E w0 A0 [x10,v95] S92 fun v96 S97=>
 C9 v93 S92 S97∧b4 (B3 (l8 [(.int .i64 0),(.int .i64 0)] [(0,1,v91),(1,1,v96)])) fun v98=>
 C7 S97 2 (o7 2 (List.replicate 1 [(.int .i64 0),(.int .i64 0)]) [(0,v98)]) 1 fun v99 S100=>
 C9 v93 S92 S100∧u4 S100 2 16 v94 v99 fun v101 S102=>
 b4 (p9 3 x7) fun v103=>
 j1 S102 1 v103 v101 fun v104 S105=>
 b4 (d5 .sub x15 (.int .i64 1)) fun v106=>
 N1 x4 x7 x10 x13 x14 v106 S105)
 (b4 (l9 S 2 x13) fun v107=>
 p8 Try.prog E w0 A0 [x10,v107] S fun v108 S109=>
 b4 (p9 2 x7) fun v110=>
 j1 S109 1 v110 v108 fun v111 S112=>
 Q6 E w0 Q x4 x7 x10 S112)
theorem b0N{E:g8}{w0:j0}{N1:D→D→D→D→D→D→b5→Prop}{Q:D→b5→Prop}{x4 x7 x10 x13 x14 x15:D}{S:b5}(h:a3S E w0 N1 Q x4 x7 x10 x13 x14 x15 S):
  f9 Try.prog E w0 a3d (i7 120 [4,7,10,13,14,15] [x4,x7,x10,x13,x14,x15]) S (A3 (fun T S=>N1 (T.getD 4 b6) (T.getD 7 b6) (T.getD 10 b6) (T.getD 13 b6) (T.getD 14 b6) (T.getD 15 b6) S) (a3m E w0 Q)):=g9 L8 M0 M2 mixed (by kernel_rfl) h
theorem b0T{E:g8}{w0:j0}{Q:D→b5→Prop}(I:Nat→D→D→D→D→D→D→b5→Prop)
  (step:∀n x4 x7 x10 x13 x14 x15 S,I n x4 x7 x10 x13 x14 x15 S→a3S E w0 (fun x4 x7 x10 x13 x14 x15 S=>∃m,m<n∧I m x4 x7 x10 x13 x14 x15 S) Q x4 x7 x10 x13 x14 x15 S)
  {n:Nat} {x4 x7 x10 x13 x14 x15:D} {S:b5} (h:I n x4 x7 x10 x13 x14 x15 S):f9 Try.prog E w0 (.loop a3d) (i7 120 [4,7,10,13,14,15] [x4,x7,x10,x13,x14,x15]) S (a3m E w0 Q):=
 o4 (k:=120) (n:=n) (I:=fun n T S=>I n (T.getD 4 b6) (T.getD 7 b6) (T.getD 10 b6) (T.getD 13 b6) (T.getD 14 b6) (T.getD 15 b6) S) (fun n T S hl hI=>q8 [4,7,10,13,14,15] hl (f9.mono (b0N (step n _ _ _ _ _ _ S hI)) fun ex T' S' _ hq=>by cases ex<;>exact hq)) (j2 ..) (Eq.mp (by kernel_rfl) h)
noncomputable def b4F:Code:=(i9 [1,1,1,1,1,1,1,0,1,0,1] (Try.f44.body.getD .skip))
def b3a(E:g8)(w0:j0)(Q:D→b5→Prop):j7→List D→b5→Prop:=
 (c0t Try.prog E w0 120 [4,7,10] a2F (F5 Try.prog Try.f44 Q))
def a6Y(E:g8)(w0:j0)(Q:D→b5→Prop)(x4 x7 x10 x13 x14:D)(S:b5):Prop:=
 p8 Try.prog E w0 p6 [(.int .i64 0),(.int .i64 65535)] S fun v78 S79=>
 b4 (B3 (l8 [(.int .i64 0), .nilFn] [(0,1,(.int .i64 2)),(1,1,v78)])) fun v80=>
 p8 Try.prog E w0 A0 [x10,v80] S79 fun v81 S82=>
 f9 Try.prog E w0 (.loop a3d) (i7 120 [4,7,10,13,14,15] [x4,x7,x10,x13,x14,v81]) S82 (a3m E w0 Q)
def o8(E:g8)(w0:j0)(Q:D→b5→Prop)(x4 x7 x10 x13 x14:D)(S:b5):Prop:=f9 Try.prog E w0 b4F (i7 120 [4,7,10,13,14] [x4,x7,x10,x13,x14]) S (b3a E w0 Q)
theorem b0l{E:g8}{w0:j0}{Q:D→b5→Prop}{x4 x7 x10 x13 x14:D}{S:b5}(h:a6Y E w0 Q x4 x7 x10 x13 x14 S):o8 E w0 Q x4 x7 x10 x13 x14 S:=g9 L8 M0 M2 mixed (by kernel_rfl) h
noncomputable def a3F:Code:=(i9 [1,1,1,1,1,1,0,1,0,0] (Try.f44.body.getD .skip))
def a3n(E:g8)(w0:j0)(Q:D→b5→Prop):j7→List D→b5→Prop:=
 (p5 0 (L4 Try.prog E w0 L8 M0 M2 (i9 [1,1,1,1,1,1,1] (Try.f44.body.getD .skip)) (F5 Try.prog Try.f44 Q)))
def a3D(E:g8)(w0:j0)(N0:D→D→D→D→D→D→b5→Prop)(Q:D→b5→Prop)(x4 x7 x10 x45 x46 x47:D)(S:b5):Prop:=
 b4 (d5 .lss x47 x46) fun v35=>
 i5 v35
 (b4 (j5 2 x45 x47) fun v36=>
 b4 (l9 S 2 v36) fun v37=>
 o6 S [(.int .i64 0), .nilFn] fun v38 S39=>
 j1 S39 2 v38 v37 fun v40 S41=>
 b4 (d5 .eql x47 (.int .i64 0)) fun v42=>
 i5 v42
 (b4 (l9 S41 2 v38) fun v43=>
 p8 Try.prog E w0 A0 [x10,v43] S41 fun v44 S45=>
 b4 (p9 1 x7) fun v46=>
 j1 S45 1 v46 v44 fun v47 S48=>
 b4 (d5 .add x47 (.int .i64 1)) fun v49=>
 N0 x4 x7 x10 x45 x46 v49 S48)
 (b4 (l9 S41 2 v38) fun v50=>
 p8 Try.prog E w0 A0 [x10,v50] S41 fun v51 S52=>
 b4 (p9 2 x7) fun v53=>
 j1 S52 1 v53 v51 fun v54 S55=>
 b4 (d5 .add x47 (.int .i64 1)) fun v56=>
 N0 x4 x7 x10 x45 x46 v56 S55))
 (b4 (p9 0 x7) fun v75=>
 b4 (d9 S v75) fun v76=>
 b4 (d5 .eql v76 (.int .u8 49)) fun v77=>
 i5 v77
 ((((((b4 (p9 1 x7) fun v113=>
 b4 (d9 S v113) fun v114=>
 b4 (Q9 .u8 v114) fun v115=>
 p8 Try.prog E w0 p6 [(.int .i64 0),(.int .i64 4294967295)] S fun v116 S117=>
 C9 v113 S S117∧b4 (B3 (l8 [(.int .i64 0), .nilFn] [(0,1,(.int .i64 4)),(1,1,v116)])) fun v118=>
 p8 Try.prog E w0 B4 [v115] S117 fun v119 S120=>
 b4 (B3 (l8 [(.int .i64 0), .nilFn] [(0,1,(.int .i64 8)),(1,1,v119)])) fun v121=>
 o6 S120 [(.int .i64 0), .nilFn] fun v122 S123=>
 o6 S123 [(.int .i64 0), .nilFn] fun v124 S125=>
 j1 S125 2 v122 v118 fun v126 S127=>
 j1 S127 2 v124 v121 fun v128 S129=>
 o8 E w0 Q x4 x7 x10 v122 v124 S129)∧
 (b4 (p9 1 x7) fun v130=>
 b4 (d9 S v130) fun v131=>
 b4 (Q9 .u8 v131) fun v132=>
 p8 Try.prog E w0 p6 [(.int .i64 0),(.int .i64 4294967295)] S fun v133 S134=>
 C9 v130 S S134∧b4 (B3 (l8 [(.int .i64 0), .nilFn] [(0,1,(.int .i64 4)),(1,1,v133)])) fun v135=>
 p8 Try.prog E w0 B4 [v132] S134 fun v136 S137=>
 b4 (B3 (l8 [(.int .i64 0), .nilFn] [(0,1,(.int .i64 8)),(1,1,v136)])) fun v138=>
 o6 S137 [(.int .i64 0), .nilFn] fun v139 S140=>
 o6 S140 [(.int .i64 0), .nilFn] fun v141 S142=>
 j1 S142 2 v141 v135 fun v143 S144=>
 j1 S144 2 v139 v138 fun v145 S146=>
 o8 E w0 Q x4 x7 x10 v141 v139 S146))∧
 (b4 (p9 1 x7) fun v147=>
 b4 (d9 S v147) fun v148=>
 b4 (Q9 .u8 v148) fun v149=>
 p8 Try.prog E w0 p6 [(.int .i64 0),(.int .i64 4294967295)] S fun v150 S151=>
 C9 v147 S S151∧b4 (B3 (l8 [(.int .i64 0), .nilFn] [(0,1,(.int .i64 4)),(1,1,v150)])) fun v152=>
 o6 S151 [(.int .i64 0), .nilFn] fun v153 S154=>
 C9 v147 S S154∧p8 Try.prog E w0 B4 [v149] S154 fun v155 S156=>
 b4 (B3 (l8 [(.int .i64 0), .nilFn] [(0,1,(.int .i64 8)),(1,1,v155)])) fun v157=>
 o6 S156 [(.int .i64 0), .nilFn] fun v158 S159=>
 j1 S159 2 v158 v152 fun v160 S161=>
 j1 S161 2 v153 v157 fun v162 S163=>
 o8 E w0 Q x4 x7 x10 v158 v153 S163))∧
 ((b4 (p9 1 x7) fun v164=>
 b4 (d9 S v164) fun v165=>
 b4 (Q9 .u8 v165) fun v166=>
 p8 Try.prog E w0 p6 [(.int .i64 0),(.int .i64 4294967295)] S fun v167 S168=>
 C9 v164 S S168∧b4 (B3 (l8 [(.int .i64 0), .nilFn] [(0,1,(.int .i64 4)),(1,1,v167)])) fun v169=>
 o6 S168 [(.int .i64 0), .nilFn] fun v170 S171=>
 C9 v164 S S171∧p8 Try.prog E w0 B4 [v166] S171 fun v172 S173=>
 b4 (B3 (l8 [(.int .i64 0), .nilFn] [(0,1,(.int .i64 8)),(1,1,v172)])) fun v174=>
 o6 S173 [(.int .i64 0), .nilFn] fun v175 S176=>
 j1 S176 2 v170 v169 fun v177 S178=>
 j1 S178 2 v175 v174 fun v179 S180=>
 o8 E w0 Q x4 x7 x10 v170 v175 S180)∧
 ((b4 (p9 1 x7) fun v181=>
 b4 (d9 S v181) fun v182=>
 b4 (Q9 .u8 v182) fun v183=>
 p8 Try.prog E w0 p6 [(.int .i64 0),(.int .i64 4294967295)] S fun v184 S185=>
 C9 v181 S S185∧b4 (B3 (l8 [(.int .i64 0), .nilFn] [(0,1,(.int .i64 4)),(1,1,v184)])) fun v186=>
 o6 S185 [(.int .i64 0), .nilFn] fun v187 S188=>
 C9 v181 S S188∧o6 S188 [(.int .i64 0), .nilFn] fun v189 S190=>
 C9 v181 S S190∧p8 Try.prog E w0 B4 [v183] S190 fun v191 S192=>
 b4 (B3 (l8 [(.int .i64 0), .nilFn] [(0,1,(.int .i64 8)),(1,1,v191)])) fun v193=>
 j1 S192 2 v187 v186 fun v194 S195=>
 j1 S195 2 v189 v193 fun v196 S197=>
 o8 E w0 Q x4 x7 x10 v187 v189 S197)∧
 (b4 (p9 1 x7) fun v198=>
 b4 (d9 S v198) fun v199=>
 b4 (Q9 .u8 v199) fun v200=>
 p8 Try.prog E w0 p6 [(.int .i64 0),(.int .i64 4294967295)] S fun v201 S202=>
 C9 v198 S S202∧b4 (B3 (l8 [(.int .i64 0), .nilFn] [(0,1,(.int .i64 4)),(1,1,v201)])) fun v203=>
 o6 S202 [(.int .i64 0), .nilFn] fun v204 S205=>
 C9 v198 S S205∧o6 S205 [(.int .i64 0), .nilFn] fun v206 S207=>
 C9 v198 S S207∧p8 Try.prog E w0 B4 [v200] S207 fun v208 S209=>
 b4 (B3 (l8 [(.int .i64 0), .nilFn] [(0,1,(.int .i64 8)),(1,1,v208)])) fun v210=>
 j1 S209 2 v206 v203 fun v211 S212=>
 j1 S212 2 v204 v210 fun v213 S214=>
 o8 E w0 Q x4 x7 x10 v206 v204 S214))))∧
 ((b4 (p9 1 x7) fun v215=>
 b4 (d9 S v215) fun v216=>
 b4 (Q9 .u8 v216) fun v217=>
 o6 S [(.int .i64 0), .nilFn] fun v218 S219=>
 C9 v215 S S219∧p8 Try.prog E w0 p6 [(.int .i64 0),(.int .i64 4294967295)] S219 fun v220 S221=>
 C9 v215 S S221∧b4 (B3 (l8 [(.int .i64 0), .nilFn] [(0,1,(.int .i64 4)),(1,1,v220)])) fun v222=>
 p8 Try.prog E w0 B4 [v217] S221 fun v223 S224=>
 b4 (B3 (l8 [(.int .i64 0), .nilFn] [(0,1,(.int .i64 8)),(1,1,v223)])) fun v225=>
 o6 S224 [(.int .i64 0), .nilFn] fun v226 S227=>
 j1 S227 2 v226 v222 fun v228 S229=>
 j1 S229 2 v218 v225 fun v230 S231=>
 o8 E w0 Q x4 x7 x10 v226 v218 S231)∧
 (b4 (p9 1 x7) fun v232=>
 b4 (d9 S v232) fun v233=>
 b4 (Q9 .u8 v233) fun v234=>
 o6 S [(.int .i64 0), .nilFn] fun v235 S236=>
 C9 v232 S S236∧p8 Try.prog E w0 p6 [(.int .i64 0),(.int .i64 4294967295)] S236 fun v237 S238=>
 C9 v232 S S238∧b4 (B3 (l8 [(.int .i64 0), .nilFn] [(0,1,(.int .i64 4)),(1,1,v237)])) fun v239=>
 o6 S238 [(.int .i64 0), .nilFn] fun v240 S241=>
 C9 v232 S S241∧p8 Try.prog E w0 B4 [v234] S241 fun v242 S243=>
 b4 (B3 (l8 [(.int .i64 0), .nilFn] [(0,1,(.int .i64 8)),(1,1,v242)])) fun v244=>
 j1 S243 2 v240 v239 fun v245 S246=>
 j1 S246 2 v235 v244 fun v247 S248=>
 o8 E w0 Q x4 x7 x10 v240 v235 S248)))∧
 (((b4 (p9 1 x7) fun v249=>
 b4 (d9 S v249) fun v250=>
 b4 (Q9 .u8 v250) fun v251=>
 o6 S [(.int .i64 0), .nilFn] fun v252 S253=>
 C9 v249 S S253∧p8 Try.prog E w0 p6 [(.int .i64 0),(.int .i64 4294967295)] S253 fun v254 S255=>
 C9 v249 S S255∧b4 (B3 (l8 [(.int .i64 0), .nilFn] [(0,1,(.int .i64 4)),(1,1,v254)])) fun v256=>
 p8 Try.prog E w0 B4 [v251] S255 fun v257 S258=>
 b4 (B3 (l8 [(.int .i64 0), .nilFn] [(0,1,(.int .i64 8)),(1,1,v257)])) fun v259=>
 o6 S258 [(.int .i64 0), .nilFn] fun v260 S261=>
 j1 S261 2 v252 v256 fun v262 S263=>
 j1 S263 2 v260 v259 fun v264 S265=>
 o8 E w0 Q x4 x7 x10 v252 v260 S265)∧
 (b4 (p9 1 x7) fun v266=>
 b4 (d9 S v266) fun v267=>
 b4 (Q9 .u8 v267) fun v268=>
 o6 S [(.int .i64 0), .nilFn] fun v269 S270=>
 C9 v266 S S270∧p8 Try.prog E w0 p6 [(.int .i64 0),(.int .i64 4294967295)] S270 fun v271 S272=>
 C9 v266 S S272∧b4 (B3 (l8 [(.int .i64 0), .nilFn] [(0,1,(.int .i64 4)),(1,1,v271)])) fun v273=>
 o6 S272 [(.int .i64 0), .nilFn] fun v274 S275=>
 C9 v266 S S275∧p8 Try.prog E w0 B4 [v268] S275 fun v276 S277=>
 b4 (B3 (l8 [(.int .i64 0), .nilFn] [(0,1,(.int .i64 8)),(1,1,v276)])) fun v278=>
 j1 S277 2 v269 v273 fun v279 S280=>
 j1 S280 2 v274 v278 fun v281 S282=>
 o8 E w0 Q x4 x7 x10 v269 v274 S282))∧
 ((b4 (p9 1 x7) fun v283=>
 b4 (d9 S v283) fun v284=>
 b4 (Q9 .u8 v284) fun v285=>
 o6 S [(.int .i64 0), .nilFn] fun v286 S287=>
 C9 v283 S S287∧o6 S287 [(.int .i64 0), .nilFn] fun v288 S289=>
 C9 v283 S S289∧p8 Try.prog E w0 p6 [(.int .i64 0),(.int .i64 4294967295)] S289 fun v290 S291=>
 C9 v283 S S291∧b4 (B3 (l8 [(.int .i64 0), .nilFn] [(0,1,(.int .i64 4)),(1,1,v290)])) fun v292=>
 p8 Try.prog E w0 B4 [v285] S291 fun v293 S294=>
 b4 (B3 (l8 [(.int .i64 0), .nilFn] [(0,1,(.int .i64 8)),(1,1,v293)])) fun v295=>
 j1 S294 2 v286 v292 fun v296 S297=>
 j1 S297 2 v288 v295 fun v298 S299=>
 o8 E w0 Q x4 x7 x10 v286 v288 S299)∧
 (b4 (p9 1 x7) fun v300=>
 b4 (d9 S v300) fun v301=>
 b4 (Q9 .u8 v301) fun v302=>
 o6 S [(.int .i64 0), .nilFn] fun v303 S304=>
 C9 v300 S S304∧o6 S304 [(.int .i64 0), .nilFn] fun v305 S306=>
 C9 v300 S S306∧p8 Try.prog E w0 p6 [(.int .i64 0),(.int .i64 4294967295)] S306 fun v307 S308=>
 C9 v300 S S308∧b4 (B3 (l8 [(.int .i64 0), .nilFn] [(0,1,(.int .i64 4)),(1,1,v307)])) fun v309=>
 p8 Try.prog E w0 B4 [v302] S308 fun v310 S311=>
 b4 (B3 (l8 [(.int .i64 0), .nilFn] [(0,1,(.int .i64 8)),(1,1,v310)])) fun v312=>
 j1 S311 2 v305 v309 fun v313 S314=>
 j1 S314 2 v303 v312 fun v315 S316=>
 o8 E w0 Q x4 x7 x10 v305 v303 S316))))
 (Q6 E w0 Q x4 x7 x10 S))
theorem b2f{E:g8}{w0:j0}{N0:D→D→D→D→D→D→b5→Prop}{Q:D→b5→Prop}{x4 x7 x10 x45 x46 x47:D}{S:b5}(h:a3D E w0 N0 Q x4 x7 x10 x45 x46 x47 S):
  f9 Try.prog E w0 a3F (i7 120 [4,7,10,45,46,47] [x4,x7,x10,x45,x46,x47]) S (A3 (fun T S=>N0 (T.getD 4 b6) (T.getD 7 b6) (T.getD 10 b6) (T.getD 45 b6) (T.getD 46 b6) (T.getD 47 b6) S) (a3n E w0 Q)):=g9 L8 M0 M2 mixed (by kernel_rfl) h
theorem b1k{E:g8}{w0:j0}{Q:D→b5→Prop}(I:Nat→D→D→D→D→D→D→b5→Prop)
  (step:∀n x4 x7 x10 x45 x46 x47 S,I n x4 x7 x10 x45 x46 x47 S→a3D E w0 (fun x4 x7 x10 x45 x46 x47 S=>∃m,m<n∧I m x4 x7 x10 x45 x46 x47 S) Q x4 x7 x10 x45 x46 x47 S)
  {n:Nat} {x4 x7 x10 x45 x46 x47:D} {S:b5} (h:I n x4 x7 x10 x45 x46 x47 S):f9 Try.prog E w0 (.loop a3F) (i7 120 [4,7,10,45,46,47] [x4,x7,x10,x45,x46,x47]) S (a3n E w0 Q):=
 o4 (k:=120) (n:=n) (I:=fun n T S=>I n (T.getD 4 b6) (T.getD 7 b6) (T.getD 10 b6) (T.getD 45 b6) (T.getD 46 b6) (T.getD 47 b6) S) (fun n T S hl hI=>q8 [4,7,10,45,46,47] hl (f9.mono (b2f (step n _ _ _ _ _ _ S hI)) fun ex T' S' _ hq=>by cases ex<;>exact hq)) (j2 ..) (Eq.mp (by kernel_rfl) h)
def b1q(E:g8)(w0:j0)(Q:D→b5→Prop)(a0 a1:D)(S:b5):Prop:=
 o6 S [(.int .u8 0),(.int .i64 0),(.int .i64 0), .nilSlc] fun v0 S1=>
 b4 (d5 .lss a1 (.int .i64 0)) fun v2=>
 b4 (d6 (b8 v2 false) (some a1)) fun v3=>
 b4 (d6 (b8 v2 false) (some a0)) fun v4=>
 b4 (d6 (b8 v2 false) (j9 v4)) fun v5=>
 b4 (d6 (b8 v2 false) (d5 .geq v3 v5)) fun v6=>
 b4 (y9 v2 (.bool true) v6) fun v7=>
 i5 v7
 (b4 (B3 (l8 [(.int .u8 0),(.int .i64 0),(.int .i64 0), .nilSlc] [])) fun v8=>
 j1 S1 4 v0 v8 fun v9 S10=>
 b4 (l9 S10 4 v0) fun v11=>Q (.tup [v11,(.int .i64 0),(.int .i64 2)]) S10)
 (b4 (j5 1 a0 a1) fun v12=>
 b4 (d9 S1 v12) fun v13=>
 b4 (B3 (l8 [(.int .u8 0),(.int .i64 0),(.int .i64 0), .nilSlc] [(0,1,v13)])) fun v14=>
 o6 S1 [(.int .u8 0),(.int .i64 0),(.int .i64 0), .nilSlc] fun v15 S16=>
 j1 S16 4 v15 v14 fun v17 S18=>
 b4 (p9 0 v15) fun v19=>
 b4 (d9 S18 v19) fun v20=>
 p8 Try.prog E w0 a6u [v20] S18 fun v21 S22=>
 b4 (o5 v21 0) fun v23=>
 b4 (o5 v21 1) fun v24=>
 b4 (unD .not v24) fun v25=>
 i5 v25
 (b4 (B3 (l8 [(.int .u8 0),(.int .i64 0),(.int .i64 0), .nilSlc] [])) fun v26=>
 j1 S22 4 v0 v26 fun v27 S28=>
 b4 (l9 S28 4 v0) fun v29=>Q (.tup [v29,(.int .i64 0),(.int .i64 120)]) S28)
 (b4 (d5 .add a1 (.int .i64 1)) fun v30=>
 b4 (B3 (l8 [.nilSlc,(.int .i64 0),(.int .i64 0)] [(0,1,a0),(1,1,v30)])) fun v31=>
 b4 (s5 v31) fun cs=>o6 S22 cs fun v32 S33=>
 b4 (j9 v23) fun v34=>
 f9 Try.prog E w0 (.loop a3F) (i7 120 [4,7,10,45,46,47] [v0,v15,v32,v23,v34,(.int .i64 0)]) S33 (a3n E w0 Q)))
theorem b4q{E:g8}{w0:j0}{Q:D→b5→Prop}{a0 a1:D}{S:b5}(h:b1q E w0 (b9 E Q) a0 a1 S):p8 Try.prog E w0 a2U [a0,a1] S Q:=
 j6 L8 M0 M2 (fn:=Try.f44) (c:=Try.f44.body.getD .skip) mixed Try.func44 (by kernel_rfl) (by kernel_rfl) h
def b0t:List (Nat×List Nat):=[(8,[0,5,6,7])]
def b0k:List (Nat×List Nat):=[]
def a9X:List (Nat×Arr):=[]
noncomputable def a7l:Code:=(i9 [1,1,1,0,1,0,0] (Try.f23.body.getD .skip))
def a8m(E:g8)(w0:j0)(Q:D→b5→Prop):j7→List D→b5→Prop:=
 (p5 0 (L4 Try.prog E w0 b0t b0k a9X (i9 [1,1,1,1] (Try.f23.body.getD .skip)) (F5 Try.prog Try.f23 Q)))
def a7S(E:g8)(w0:j0)(N0:D→D→D→D→b5→Prop)(Q:D→b5→Prop)(x0 x5 x6 x7:D)(S:b5):Prop:=
 b4 (j9 x0) fun v0=>
 b4 (d5 .lss x7 v0) fun v1=>
 i5 v1
 (p8 Try.prog E w0 a2U [x0,x7] S fun v2 S3=>
 b4 (o5 v2 0) fun v4=>
 b4 (o5 v2 1) fun v5=>
 b4 (o5 v2 2) fun v6=>
 o6 S3 [(.int .u8 0),(.int .i64 0),(.int .i64 0), .nilSlc] fun v7 S8=>
 j1 S8 4 v7 v4 fun v9 S10=>
 b4 (d5 .neq v6 (.int .i64 0)) fun v11=>
 i5 v11
 (Q (.tup [.nilSlc, .nilSlc,v6]) S10)
 (b4 (l9 S10 4 v7) fun v12=>
 C7 S10 4 (o7 4 (List.replicate 1 [(.int .u8 0),(.int .i64 0),(.int .i64 0), .nilSlc]) [(0,v12)]) 1 fun v13 S14=>
 u4 S14 4 48 x5 v13 fun v15 S16=>
 C7 S16 1 (o7 1 (List.replicate 1 [(.int .i64 0)]) [(0,x7)]) 1 fun v17 S18=>
 u4 S18 1 8 x6 v17 fun v19 S20=>
 N0 x0 v15 v19 v5 S20))
 (Q (.tup [x5,x6,(.int .i64 0)]) S)
theorem b6m{E:g8}{w0:j0}{N0:D→D→D→D→b5→Prop}{Q:D→b5→Prop}{x0 x5 x6 x7:D}{S:b5}(h:a7S E w0 N0 Q x0 x5 x6 x7 S):
  f9 Try.prog E w0 a7l (i7 36 [0,5,6,7] [x0,x5,x6,x7]) S (A3 (fun T S=>N0 (T.getD 0 b6) (T.getD 5 b6) (T.getD 6 b6) (T.getD 7 b6) S) (a8m E w0 Q)):=g9 b0t b0k a9X mixed (by kernel_rfl) h
theorem b5Q{E:g8}{w0:j0}{Q:D→b5→Prop}(I:Nat→D→D→D→D→b5→Prop)
  (step:∀n x0 x5 x6 x7 S,I n x0 x5 x6 x7 S→a7S E w0 (fun x0 x5 x6 x7 S=>∃m,m<n∧I m x0 x5 x6 x7 S) Q x0 x5 x6 x7 S)
  {n:Nat} {x0 x5 x6 x7:D} {S:b5} (h:I n x0 x5 x6 x7 S):f9 Try.prog E w0 (.loop a7l) (i7 36 [0,5,6,7] [x0,x5,x6,x7]) S (a8m E w0 Q):=
 o4 (k:=36) (n:=n) (I:=fun n T S=>I n (T.getD 0 b6) (T.getD 5 b6) (T.getD 6 b6) (T.getD 7 b6) S) (fun n T S hl hI=>q8 [0,5,6,7] hl (f9.mono (b6m (step n _ _ _ _ S hI)) fun ex T' S' _ hq=>by cases ex<;>exact hq)) (j2 ..) (Eq.mp (by kernel_rfl) h)
def b8z(E:g8)(w0:j0)(Q:D→b5→Prop)(a0:D)(S:b5):Prop:=
 f9 Try.prog E w0 (.loop a7l) (i7 36 [0,5,6,7] [a0, .nilSlc, .nilSlc,(.int .i64 0)]) S (a8m E w0 Q)
theorem b9N{E:g8}{w0:j0}{Q:D→b5→Prop}{a0:D}{S:b5}(h:b8z E w0 (b9 E Q) a0 S):p8 Try.prog E w0 a8y [a0] S Q:=
 j6 b0t b0k a9X (fn:=Try.f23) (c:=Try.f23.body.getD .skip) mixed Try.func23 (by kernel_rfl) (by kernel_rfl) h
def H8:List (Nat×List Nat):=[(16,[0,3,5,6])]
def H9:List (Nat×List Nat):=[(28,[0,3,5])]
def I0:List (Nat×Arr):=[]
noncomputable def a5f:Code:=(i9 [1,1,1,1,1,1,1] (Try.f73.body.getD .skip))
def a4b(E:g8)(w0:j0)(Q:D→b5→Prop):j7→List D→b5→Prop:=
 (F5 Try.prog Try.f73 Q)
def a0x(E:g8)(w0:j0)(Q:D→b5→Prop)(x0 x3 x5:D)(S:b5):Prop:=
 b4 (l9 S 4 x3) fun v48=>
 b4 (Q9 .i64 x5) fun v49=>
 p8 Try.prog E w0 a3b [v48,v49] S fun v50 S51=>
 b4 (unD .not v50) fun v52=>
 i5 v52
 (b4 (W6 x0) fun v53=>
 b4 (p9 2 v53) fun v54=>
 j1 S51 1 v54 (.int .i64 120) fun v55 S56=>
 Q (.int .i64 0) S56)
 (b4 (Q9 .i64 x5) fun v57=>
 Q v57 S51)
def F3(E:g8)(w0:j0)(Q:D→b5→Prop)(x0 x3 x5:D)(S:b5):Prop:=f9 Try.prog E w0 a5f (i7 94 [0,3,5] [x0,x3,x5]) S (a4b E w0 Q)
theorem a2L{E:g8}{w0:j0}{Q:D→b5→Prop}{x0 x3 x5:D}{S:b5}(h:a0x E w0 Q x0 x3 x5 S):F3 E w0 Q x0 x3 x5 S:=g9 H8 H9 I0 mixed (by kernel_rfl) h
noncomputable def N4:Code:=(i9 [1,1,1,1,0,1,0,0] (Try.f73.body.getD .skip))
def M9(E:g8)(w0:j0)(Q:D→b5→Prop):j7→List D→b5→Prop:=
 (p5 0 (L4 Try.prog E w0 H8 H9 I0 (i9 [1,1,1,1,1] (Try.f73.body.getD .skip)) (F5 Try.prog Try.f73 Q)))
def O3(E:g8)(w0:j0)(N0:D→D→D→D→b5→Prop)(Q:D→b5→Prop)(x0 x3 x5 x6:D)(S:b5):Prop:=
 b4 (p9 0 x3) fun v21=>
 b4 (d9 S v21) fun v22=>
 b4 (d5 .lss x6 v22) fun v23=>
 i5 v23
 (b4 (W6 x0) fun v24=>
 b4 (p9 0 v24) fun v25=>
 b4 (d9 S v25) fun v26=>
 b4 (W6 x0) fun v27=>
 b4 (p9 1 v27) fun v28=>
 b4 (d9 S v28) fun v29=>
 b4 (d5 .add v29 x6) fun v30=>
 b4 (j5 1 v26 v30) fun v31=>
 b4 (d9 S v31) fun v32=>
 b4 (Q9 .u64 v32) fun v33=>
 b4 (d5 .mul (.int .i64 8) x6) fun v34=>
 b4 (d5 .shl v33 v34) fun v35=>
 b4 (d5 .or x5 v35) fun v36=>
 b4 (d5 .add x6 (.int .i64 1)) fun v37=>
 N0 x0 x3 v36 v37 S)
 (b4 (W6 x0) fun v38=>
 b4 (p9 1 v38) fun v39=>
 b4 (d9 S v39) fun v40=>
 b4 (p9 0 x3) fun v41=>
 b4 (d9 S v41) fun v42=>
 b4 (d5 .add v40 v42) fun v43=>
 b4 (W6 x0) fun v44=>
 b4 (p9 1 v44) fun v45=>
 j1 S 1 v45 v43 fun v46 S47=>
 b4 (p9 3 x3) fun v58=>
 b4 (d9 S47 v58) fun v59=>
 b4 (d6 (b8 v59 true) (p9 0 x3)) fun v60=>
 b4 (d6 (b8 v59 true) (d9 S47 v60)) fun v61=>
 b4 (d6 (b8 v59 true) (d5 .lss v61 (.int .i64 8))) fun v62=>
 b4 (y9 v59 v62 (.bool false)) fun v63=>
 b4 (d6 (b8 v63 true) (some x5)) fun v64=>
 b4 (d6 (b8 v63 true) (p9 0 x3)) fun v65=>
 b4 (d6 (b8 v63 true) (d9 S47 v65)) fun v66=>
 b4 (d6 (b8 v63 true) (d5 .mul (.int .i64 8) v66)) fun v67=>
 b4 (d6 (b8 v63 true) (d5 .sub v67 (.int .i64 1))) fun v68=>
 b4 (d6 (b8 v63 true) (d5 .shr v64 v68)) fun v69=>
 b4 (d6 (b8 v63 true) (d5 .eql v69 (.int .u64 1))) fun v70=>
 b4 (y9 v63 v70 (.bool false)) fun v71=>
 i5 v71
 (b4 (p9 0 x3) fun v72=>
 b4 (d9 S47 v72) fun v73=>
 b4 (d5 .mul (.int .i64 8) v73) fun v74=>
 b4 (d5 .shl (.int .u64 1) v74) fun v75=>
 b4 (d5 .sub x5 v75) fun v76=>
 F3 E w0 Q x0 x3 v76 S47)
 (F3 E w0 Q x0 x3 x5 S47))
theorem a3U{E:g8}{w0:j0}{N0:D→D→D→D→b5→Prop}{Q:D→b5→Prop}{x0 x3 x5 x6:D}{S:b5}(h:O3 E w0 N0 Q x0 x3 x5 x6 S):
  f9 Try.prog E w0 N4 (i7 94 [0,3,5,6] [x0,x3,x5,x6]) S (A3 (fun T S=>N0 (T.getD 0 b6) (T.getD 3 b6) (T.getD 5 b6) (T.getD 6 b6) S) (M9 E w0 Q)):=g9 H8 H9 I0 mixed (by kernel_rfl) h
theorem a3g{E:g8}{w0:j0}{Q:D→b5→Prop}(I:Nat→D→D→D→D→b5→Prop)
  (step:∀n x0 x3 x5 x6 S,I n x0 x3 x5 x6 S→O3 E w0 (fun x0 x3 x5 x6 S=>∃m,m<n∧I m x0 x3 x5 x6 S) Q x0 x3 x5 x6 S)
  {n:Nat} {x0 x3 x5 x6:D} {S:b5} (h:I n x0 x3 x5 x6 S):f9 Try.prog E w0 (.loop N4) (i7 94 [0,3,5,6] [x0,x3,x5,x6]) S (M9 E w0 Q):=
 o4 (k:=94) (n:=n) (I:=fun n T S=>I n (T.getD 0 b6) (T.getD 3 b6) (T.getD 5 b6) (T.getD 6 b6) S) (fun n T S hl hI=>q8 [0,3,5,6] hl (f9.mono (a3U (step n _ _ _ _ S hI)) fun ex T' S' _ hq=>by cases ex<;>exact hq)) (j2 ..) (Eq.mp (by kernel_rfl) h)
def a1x(E:g8)(w0:j0)(Q:D→b5→Prop)(a0 a1:D)(S:b5):Prop:=
 b4 (s5 a1) fun cs=>o6 S cs fun v0 S1=>
 b4 (W6 a0) fun v2=>
 b4 (p9 2 v2) fun v3=>
 b4 (d9 S1 v3) fun v4=>
 b4 (d5 .neq v4 (.int .i64 0)) fun v5=>
 i5 v5
 (Q (.int .i64 0) S1)
 (b4 (p9 0 v0) fun v6=>
 b4 (d9 S1 v6) fun v7=>
 b4 (W6 a0) fun v8=>
 b4 (p9 0 v8) fun v9=>
 b4 (d9 S1 v9) fun v10=>
 b4 (j9 v10) fun v11=>
 b4 (W6 a0) fun v12=>
 b4 (p9 1 v12) fun v13=>
 b4 (d9 S1 v13) fun v14=>
 b4 (d5 .sub v11 v14) fun v15=>
 b4 (d5 .gtr v7 v15) fun v16=>
 i5 v16
 (b4 (W6 a0) fun v17=>
 b4 (p9 2 v17) fun v18=>
 j1 S1 1 v18 (.int .i64 10) fun v19 S20=>
 Q (.int .i64 0) S20)
 (f9 Try.prog E w0 (.loop N4) (i7 94 [0,3,5,6] [a0,v0,(.int .u64 0),(.int .i64 0)]) S1 (M9 E w0 Q)))
theorem a4Z{E:g8}{w0:j0}{Q:D→b5→Prop}{a0 a1:D}{S:b5}(h:a1x E w0 (b9 E Q) a0 a1 S):p8 Try.prog E w0 y8 [a0,a1] S Q:=
 j6 H8 H9 I0 (fn:=Try.f73) (c:=Try.f73.body.getD .skip) mixed Try.func73 (by kernel_rfl) (by kernel_rfl) h
def K3:List (Nat×List Nat):=[(18,[0,5,7,8,9])]
def L2:List (Nat×List Nat):=[(14,[0,5,7])]
def K9:List (Nat×Arr):=[]
noncomputable def R9:Code:=(i9 [1,1,1,1,1,1,0,1,0,0] (Try.f74.body.getD .skip))
def R8(E:g8)(w0:j0)(Q:D→b5→Prop):j7→List D→b5→Prop:=
 (p5 0 (L4 Try.prog E w0 K3 L2 K9 (i9 [1,1,1,1,1,1,1] (Try.f74.body.getD .skip)) (F5 Try.prog Try.f74 Q)))
def U3(E:g8)(w0:j0)(N0:D→D→D→D→D→b5→Prop)(Q:D→b5→Prop)(x0 x5 x7 x8 x9:D)(S:b5):Prop:=
 b4 (d5 .lss x9 x5) fun v12=>
 b4 (d6 (b8 v12 true) (some x0)) fun v13=>
 b4 (d6 (b8 v12 true) (W6 v13)) fun v14=>
 b4 (d6 (b8 v12 true) (p9 2 v14)) fun v15=>
 b4 (d6 (b8 v12 true) (d9 S v15)) fun v16=>
 b4 (d6 (b8 v12 true) (d5 .eql v16 (.int .i64 0))) fun v17=>
 b4 (y9 v12 v17 (.bool false)) fun v18=>
 i5 v18
 (b4 (l9 S 4 x7) fun v19=>
 p8 Try.prog E w0 y8 [x0,v19] S fun v20 S21=>
 p8 Try.prog E w0 a1s [] S21 fun v22 S23=>
 p8 Try.prog E w0 y8 [x0,v22] S23 fun v24 S25=>
 b4 (B3 (l8 [(.int .i64 0),(.int .i64 0)] [(0,1,v20),(1,1,v24)])) fun v26=>
 C7 S25 2 (o7 2 (List.replicate 1 [(.int .i64 0),(.int .i64 0)]) [(0,v26)]) 1 fun v27 S28=>
 u4 S28 2 16 x8 v27 fun v29 S30=>
 b4 (d5 .add x9 (.int .i64 1)) fun v31=>
 N0 x0 x5 x7 v29 v31 S30)
 (Q x8 S)
theorem a4Y{E:g8}{w0:j0}{N0:D→D→D→D→D→b5→Prop}{Q:D→b5→Prop}{x0 x5 x7 x8 x9:D}{S:b5}(h:U3 E w0 N0 Q x0 x5 x7 x8 x9 S):
  f9 Try.prog E w0 R9 (i7 59 [0,5,7,8,9] [x0,x5,x7,x8,x9]) S (A3 (fun T S=>N0 (T.getD 0 b6) (T.getD 5 b6) (T.getD 7 b6) (T.getD 8 b6) (T.getD 9 b6) S) (R8 E w0 Q)):=g9 K3 L2 K9 mixed (by kernel_rfl) h
theorem a4H{E:g8}{w0:j0}{Q:D→b5→Prop}(I:Nat→D→D→D→D→D→b5→Prop)
  (step:∀n x0 x5 x7 x8 x9 S,I n x0 x5 x7 x8 x9 S→U3 E w0 (fun x0 x5 x7 x8 x9 S=>∃m,m<n∧I m x0 x5 x7 x8 x9 S) Q x0 x5 x7 x8 x9 S)
  {n:Nat} {x0 x5 x7 x8 x9:D} {S:b5} (h:I n x0 x5 x7 x8 x9 S):f9 Try.prog E w0 (.loop R9) (i7 59 [0,5,7,8,9] [x0,x5,x7,x8,x9]) S (R8 E w0 Q):=
 o4 (k:=59) (n:=n) (I:=fun n T S=>I n (T.getD 0 b6) (T.getD 5 b6) (T.getD 7 b6) (T.getD 8 b6) (T.getD 9 b6) S) (fun n T S hl hI=>q8 [0,5,7,8,9] hl (f9.mono (a4Y (step n _ _ _ _ _ S hI)) fun ex T' S' _ hq=>by cases ex<;>exact hq)) (j2 ..) (Eq.mp (by kernel_rfl) h)
noncomputable def a6i:Code:=(i9 [1,1,1,1,1] (Try.f74.body.getD .skip))
def a5C(E:g8)(w0:j0)(Q:D→b5→Prop):j7→List D→b5→Prop:=
 (F5 Try.prog Try.f74 Q)
def a1l(E:g8)(w0:j0)(Q:D→b5→Prop)(x0 x5 x7:D)(S:b5):Prop:=
 f9 Try.prog E w0 (.loop R9) (i7 59 [0,5,7,8,9] [x0,x5,x7, .nilSlc,(.int .i64 0)]) S (R8 E w0 Q)
def I1(E:g8)(w0:j0)(Q:D→b5→Prop)(x0 x5 x7:D)(S:b5):Prop:=f9 Try.prog E w0 a6i (i7 59 [0,5,7] [x0,x5,x7]) S (a5C E w0 Q)
theorem a4c{E:g8}{w0:j0}{Q:D→b5→Prop}{x0 x5 x7:D}{S:b5}(h:a1l E w0 Q x0 x5 x7 S):I1 E w0 Q x0 x5 x7 S:=g9 K3 L2 K9 mixed (by kernel_rfl) h
def a2I(E:g8)(w0:j0)(Q:D→b5→Prop)(a0 a1:D)(S:b5):Prop:=
 p8 Try.prog E w0 R4 [] S fun v0 S1=>
 p8 Try.prog E w0 y8 [a0,v0] S1 fun v2 S3=>
 b4 (Q9 .u8 a1) fun v4=>
 p8 Try.prog E w0 a6h [v4] S3 fun v5 S6=>
 b4 (B3 (l8 [(.int .i64 0),(.int .i64 0),(.int .i64 0),(.bool false)] [(0,1,(.int .i64 8)),(1,1,(.int .i64 (-9223372036854775808))),(2,1,(.int .i64 9223372036854775807)),(3,1,(.bool true))])) fun v7=>
 o6 S6 [(.int .i64 0),(.int .i64 0),(.int .i64 0),(.bool false)] fun v8 S9=>
 j1 S9 4 v8 v7 fun v10 S11=>
 b4 (d5 .gtr v5 (.int .i64 0)) fun v32=>
 b4 (d6 (b8 v32 true) (some v5)) fun v33=>
 b4 (d6 (b8 v32 true) (d5 .lss v33 (.int .i64 64))) fun v34=>
 b4 (y9 v32 v34 (.bool false)) fun v35=>
 i5 v35
 (b4 (d5 .sub v5 (.int .i64 1)) fun v36=>
 b4 (d5 .shl (.int .i64 (-1)) v36) fun v37=>
 b4 (p9 1 v8) fun v38=>
 j1 S11 1 v38 v37 fun v39 S40=>
 b4 (d5 .sub v5 (.int .i64 1)) fun v41=>
 b4 (d5 .shl (.int .i64 1) v41) fun v42=>
 b4 (d5 .sub v42 (.int .i64 1)) fun v43=>
 b4 (p9 2 v8) fun v44=>
 j1 S40 1 v44 v43 fun v45 S46=>
 I1 E w0 Q a0 v2 v8 S46)
 (I1 E w0 Q a0 v2 v8 S11)
theorem a6J{E:g8}{w0:j0}{Q:D→b5→Prop}{a0 a1:D}{S:b5}(h:a2I E w0 (b9 E Q) a0 a1 S):p8 Try.prog E w0 a0f [a0,a1] S Q:=
 j6 K3 L2 K9 (fn:=Try.f74) (c:=Try.f74.body.getD .skip) mixed Try.func74 (by kernel_rfl) (by kernel_rfl) h
def a0A:List (Nat×List Nat):=[]
def a0z:List (Nat×List Nat):=[(20,[4,7,9,10]),(24,[4,9,10]),(30,[4,9,10])]
def a0B:List (Nat×Arr):=[]
noncomputable def b1m:Code:=(i9 [1,1,1,1,1,1,1,1,1] (Try.f52.body.getD .skip))
def a9S(E:g8)(w0:j0)(Q:D→b5→Prop):j7→List D→b5→Prop:=
 (F5 Try.prog Try.f52 Q)
def a4C(E:g8)(w0:j0)(Q:D→b5→Prop)(x4 x9 x10:D)(S:b5):Prop:=
 b4 (W6 x9) fun v34=>
 b4 (p9 2 v34) fun v35=>
 b4 (d9 S v35) fun v36=>
 b4 (d5 .neq v36 (.int .i64 0)) fun v37=>
 i5 v37
 (b4 (B3 (l8 [(.int .u8 0),(.int .i64 0),(.int .i64 0), .nilSlc] [])) fun v38=>
 b4 (W6 x9) fun v39=>
 b4 (p9 2 v39) fun v40=>
 b4 (d9 S v40) fun v41=>
 j1 S 4 x4 v38 fun v42 S43=>
 C9 v40 S S43∧b4 (l9 S43 4 x4) fun v44=>Q (.tup [v44,(.int .i64 0),v41]) S43)
 (b4 (l9 S 4 x10) fun v45=>
 b4 (W6 x9) fun v46=>
 b4 (p9 1 v46) fun v47=>
 b4 (d9 S v47) fun v48=>
 j1 S 4 x4 v45 fun v49 S50=>
 C9 v47 S S50∧b4 (l9 S50 4 x4) fun v51=>Q (.tup [v51,v48,(.int .i64 0)]) S50)
def U6(E:g8)(w0:j0)(Q:D→b5→Prop)(x4 x9 x10:D)(S:b5):Prop:=f9 Try.prog E w0 b1m (i7 86 [4,9,10] [x4,x9,x10]) S (a9S E w0 Q)
theorem a8o{E:g8}{w0:j0}{Q:D→b5→Prop}{x4 x9 x10:D}{S:b5}(h:a4C E w0 Q x4 x9 x10 S):U6 E w0 Q x4 x9 x10 S:=g9 a0A a0z a0B mixed (by kernel_rfl) h
noncomputable def b1P:Code:=(i9 [1,1,1,1,1,1,1,1] (Try.f52.body.getD .skip))
def b0g(E:g8)(w0:j0)(Q:D→b5→Prop):j7→List D→b5→Prop:=
 (F5 Try.prog Try.f52 Q)
def a4x(E:g8)(w0:j0)(Q:D→b5→Prop)(x4 x9 x10:D)(S:b5):Prop:=
 b4 (p9 0 x10) fun v52=>
 b4 (d9 S v52) fun v53=>
 b4 (d5 .eql v53 (.int .u8 49)) fun v54=>
 i5 v54
 (b4 (p9 1 x10) fun v55=>
 b4 (d9 S v55) fun v56=>
 p8 Try.prog E w0 a0f [x9,v56] S fun v57 S58=>
 b4 (p9 3 x10) fun v59=>
 j1 S58 1 v59 v57 fun v60 S61=>
 p8 Try.prog E w0 a1s [] S61 fun v62 S63=>
 p8 Try.prog E w0 y8 [x9,v62] S63 fun v64 S65=>
 b4 (p9 2 x10) fun v66=>
 j1 S65 1 v66 v64 fun v67 S68=>
 U6 E w0 Q x4 x9 x10 S68)
 (U6 E w0 Q x4 x9 x10 S)
def V1(E:g8)(w0:j0)(Q:D→b5→Prop)(x4 x9 x10:D)(S:b5):Prop:=f9 Try.prog E w0 b1P (i7 86 [4,9,10] [x4,x9,x10]) S (b0g E w0 Q)
theorem a7u{E:g8}{w0:j0}{Q:D→b5→Prop}{x4 x9 x10:D}{S:b5}(h:a4x E w0 Q x4 x9 x10 S):V1 E w0 Q x4 x9 x10 S:=g9 a0A a0z a0B mixed (by kernel_rfl) h
noncomputable def b1U:Code:=(i9 [1,1,1,1,1,1,1] (Try.f52.body.getD .skip))
def a9T(E:g8)(w0:j0)(Q:D→b5→Prop):j7→List D→b5→Prop:=
 (F5 Try.prog Try.f52 Q)
def a4w(E:g8)(w0:j0)(Q:D→b5→Prop)(x4 x7 x9 x10:D)(S:b5):Prop:=
 b4 (j9 x7) fun v69=>
 b4 (d5 .gtr v69 (.int .i64 1)) fun v70=>
 i5 v70
 (b4 (j5 4 x7 (.int .i64 1)) fun v71=>
 b4 (l9 S 4 v71) fun v72=>
 p8 Try.prog E w0 y8 [x9,v72] S fun v73 S74=>
 b4 (p9 2 x10) fun v75=>
 j1 S74 1 v75 v73 fun v76 S77=>
 V1 E w0 Q x4 x9 x10 S77)
 (V1 E w0 Q x4 x9 x10 S)
def V4(E:g8)(w0:j0)(Q:D→b5→Prop)(x4 x7 x9 x10:D)(S:b5):Prop:=f9 Try.prog E w0 b1U (i7 86 [4,7,9,10] [x4,x7,x9,x10]) S (a9T E w0 Q)
theorem a7m{E:g8}{w0:j0}{Q:D→b5→Prop}{x4 x7 x9 x10:D}{S:b5}(h:a4w E w0 Q x4 x7 x9 x10 S):V4 E w0 Q x4 x7 x9 x10 S:=g9 a0A a0z a0B mixed (by kernel_rfl) h
def a8i(E:g8)(w0:j0)(Q:D→b5→Prop)(a0 a1:D)(S:b5):Prop:=
 o6 S [(.int .u8 0),(.int .i64 0),(.int .i64 0), .nilSlc] fun v0 S1=>
 b4 (d5 .lss a1 (.int .i64 0)) fun v2=>
 b4 (d6 (b8 v2 false) (some a1)) fun v3=>
 b4 (d6 (b8 v2 false) (some a0)) fun v4=>
 b4 (d6 (b8 v2 false) (j9 v4)) fun v5=>
 b4 (d6 (b8 v2 false) (d5 .geq v3 v5)) fun v6=>
 b4 (y9 v2 (.bool true) v6) fun v7=>
 i5 v7
 (b4 (B3 (l8 [(.int .u8 0),(.int .i64 0),(.int .i64 0), .nilSlc] [])) fun v8=>
 j1 S1 4 v0 v8 fun v9 S10=>
 b4 (l9 S10 4 v0) fun v11=>Q (.tup [v11,(.int .i64 0),(.int .i64 2)]) S10)
 (b4 (j5 1 a0 a1) fun v12=>
 b4 (d9 S1 v12) fun v13=>
 p8 Try.prog E w0 a5c [v13] S1 fun v14 S15=>
 b4 (o5 v14 0) fun v16=>
 b4 (o5 v14 1) fun v17=>
 b4 (unD .not v17) fun v18=>
 i5 v18
 (b4 (B3 (l8 [(.int .u8 0),(.int .i64 0),(.int .i64 0), .nilSlc] [])) fun v19=>
 j1 S15 4 v0 v19 fun v20 S21=>
 b4 (l9 S21 4 v0) fun v22=>Q (.tup [v22,(.int .i64 0),(.int .i64 120)]) S21)
 (b4 (d5 .add a1 (.int .i64 1)) fun v23=>
 b4 (B3 (l8 [.nilSlc,(.int .i64 0),(.int .i64 0)] [(0,1,a0),(1,1,v23)])) fun v24=>
 b4 (s5 v24) fun cs=>o6 S15 cs fun v25 S26=>
 b4 (j5 1 a0 a1) fun v27=>
 b4 (d9 S26 v27) fun v28=>
 b4 (B3 (l8 [(.int .u8 0),(.int .i64 0),(.int .i64 0), .nilSlc] [(0,1,v28)])) fun v29=>
 o6 S26 [(.int .u8 0),(.int .i64 0),(.int .i64 0), .nilSlc] fun v30 S31=>
 j1 S31 4 v30 v29 fun v32 S33=>
 b4 (j9 v16) fun v78=>
 b4 (d5 .gtr v78 (.int .i64 0)) fun v79=>
 i5 v79
 (b4 (j5 4 v16 (.int .i64 0)) fun v80=>
 b4 (l9 S33 4 v80) fun v81=>
 p8 Try.prog E w0 y8 [v25,v81] S33 fun v82 S83=>
 b4 (p9 1 v30) fun v84=>
 j1 S83 1 v84 v82 fun v85 S86=>
 V4 E w0 Q v0 v16 v25 v30 S86)
 (V4 E w0 Q v0 v16 v25 v30 S33)))
theorem b1n{E:g8}{w0:j0}{Q:D→b5→Prop}{a0 a1:D}{S:b5}(h:a8i E w0 (b9 E Q) a0 a1 S):p8 Try.prog E w0 a3T [a0,a1] S Q:=
 j6 a0A a0z a0B (fn:=Try.f52) (c:=Try.f52.body.getD .skip) mixed Try.func52 (by kernel_rfl) (by kernel_rfl) h
def a6n:List (Nat×List Nat):=[(8,[0,5,6,7])]
def a5U:List (Nat×List Nat):=[]
def a6l:List (Nat×Arr):=[]
noncomputable def a4Q:Code:=(i9 [1,1,1,0,1,0,0] (Try.f34.body.getD .skip))
def a4J(E:g8)(w0:j0)(Q:D→b5→Prop):j7→List D→b5→Prop:=
 (p5 0 (L4 Try.prog E w0 a6n a5U a6l (i9 [1,1,1,1] (Try.f34.body.getD .skip)) (F5 Try.prog Try.f34 Q)))
def a4G(E:g8)(w0:j0)(N0:D→D→D→D→b5→Prop)(Q:D→b5→Prop)(x0 x5 x6 x7:D)(S:b5):Prop:=
 b4 (j9 x0) fun v0=>
 b4 (d5 .lss x7 v0) fun v1=>
 i5 v1
 (p8 Try.prog E w0 a3T [x0,x7] S fun v2 S3=>
 b4 (o5 v2 0) fun v4=>
 b4 (o5 v2 1) fun v5=>
 b4 (o5 v2 2) fun v6=>
 o6 S3 [(.int .u8 0),(.int .i64 0),(.int .i64 0), .nilSlc] fun v7 S8=>
 j1 S8 4 v7 v4 fun v9 S10=>
 b4 (d5 .neq v6 (.int .i64 0)) fun v11=>
 i5 v11
 (Q (.tup [.nilSlc, .nilSlc,v6]) S10)
 (b4 (l9 S10 4 v7) fun v12=>
 C7 S10 4 (o7 4 (List.replicate 1 [(.int .u8 0),(.int .i64 0),(.int .i64 0), .nilSlc]) [(0,v12)]) 1 fun v13 S14=>
 u4 S14 4 48 x5 v13 fun v15 S16=>
 C7 S16 1 (o7 1 (List.replicate 1 [(.int .i64 0)]) [(0,x7)]) 1 fun v17 S18=>
 u4 S18 1 8 x6 v17 fun v19 S20=>
 N0 x0 v15 v19 v5 S20))
 (Q (.tup [x5,x6,(.int .i64 0)]) S)
theorem b2K{E:g8}{w0:j0}{N0:D→D→D→D→b5→Prop}{Q:D→b5→Prop}{x0 x5 x6 x7:D}{S:b5}(h:a4G E w0 N0 Q x0 x5 x6 x7 S):
  f9 Try.prog E w0 a4Q (i7 36 [0,5,6,7] [x0,x5,x6,x7]) S (A3 (fun T S=>N0 (T.getD 0 b6) (T.getD 5 b6) (T.getD 6 b6) (T.getD 7 b6) S) (a4J E w0 Q)):=g9 a6n a5U a6l mixed (by kernel_rfl) h
theorem b2t{E:g8}{w0:j0}{Q:D→b5→Prop}(I:Nat→D→D→D→D→b5→Prop)
  (step:∀n x0 x5 x6 x7 S,I n x0 x5 x6 x7 S→a4G E w0 (fun x0 x5 x6 x7 S=>∃m,m<n∧I m x0 x5 x6 x7 S) Q x0 x5 x6 x7 S)
  {n:Nat} {x0 x5 x6 x7:D} {S:b5} (h:I n x0 x5 x6 x7 S):f9 Try.prog E w0 (.loop a4Q) (i7 36 [0,5,6,7] [x0,x5,x6,x7]) S (a4J E w0 Q):=
 o4 (k:=36) (n:=n) (I:=fun n T S=>I n (T.getD 0 b6) (T.getD 5 b6) (T.getD 6 b6) (T.getD 7 b6) S) (fun n T S hl hI=>q8 [0,5,6,7] hl (f9.mono (b2K (step n _ _ _ _ S hI)) fun ex T' S' _ hq=>by cases ex<;>exact hq)) (j2 ..) (Eq.mp (by kernel_rfl) h)
def b3Y(E:g8)(w0:j0)(Q:D→b5→Prop)(a0:D)(S:b5):Prop:=
 f9 Try.prog E w0 (.loop a4Q) (i7 36 [0,5,6,7] [a0, .nilSlc, .nilSlc,(.int .i64 0)]) S (a4J E w0 Q)
theorem b5S{E:g8}{w0:j0}{Q:D→b5→Prop}{a0:D}{S:b5}(h:b3Y E w0 (b9 E Q) a0 S):p8 Try.prog E w0 a4l [a0] S Q:=
 j6 a6n a5U a6l (fn:=Try.f34) (c:=Try.f34.body.getD .skip) mixed Try.func34 (by kernel_rfl) (by kernel_rfl) h
end Go.Proofs.Ytdkidgkiplcggaa.d
end
section
open Go.Proofs Go Go.Am Go.Op
namespace Go.Proofs.Ytdkidgkiplcggaa.d
def rdC(bs:List Int)(s:Nat×Int):List D:=[bD bs, .int .i64 (s.1:Int), .int .i64 s.2]
theorem d0s{s:Nat}(h:s<8):(2:Nat)^(8*s)≤2^56:=Nat.pow_le_pow_right (by decide) (by omega)
section
variable{E:g8}{w0:j0}
theorem c2m{bs:List Int}(hb:∀b∈bs,J0 b)(hl:bs.length<2^60){s:Nat×Int}(hs:s.1≤bs.length){row:List D}{f:Fld}(hf:c1q row f)(h1:1≤f.size)(h8:f.size≤8){S:b5}{k:Nat}{acs:List AV}(hk:S k=some ⟨3,[rdC bs s],acs⟩):
  p8 Try.prog E w0 A0 [.ptr k 0, .agg row] S fun v S'=>v= .int .i64 (w9 bs f s).1∧∃acs',S'=S.set k ⟨3,[rdC bs (w9 bs f s).2],acs'⟩:=by
 obtain⟨fv,rfl,hm⟩:=hf
 refine a7G ?_
 unfold a4h
 rw[clA,oD]
 intro k0 a0 n0
 have d:k≠k0:=b5.ne_of hk n0
 generalize hS1:S.set k0 _=S1
 have bk:S1 k=some ⟨3,[rdC bs s],acs⟩:=by rw[←hS1,b5.set_ne _ _ _ d];exact hk
 have b0:S1 k0=some ⟨2,[[.int .i64 (f.size:Int),fv]],a0⟩:=by rw[←hS1];exact b5.set_same _ _ _
 have drop:∀ {o:A2} {Q:D→b5→Prop} {v:D},b9 E Q v (S.set k o)→b9 E Q v (S1.set k o):=fun{o Q v} h=>by
  rw[←hS1,b5.set_comm _ (Ne.symm d)]
  exact b9.drop (by rw[b5.set_ne _ _ _ (Ne.symm d)];exact n0) h
 have l2:d9 S1 (.ptr k 2)=some (.int .i64 s.2):=ldP bk
 have l1:d9 S1 (.ptr k 1)=some (.int .i64 (s.1:Int)):=ldP bk
 have l0:d9 S1 (.ptr k 0)=some (bD bs):=ldP bk
 have m0:d9 S1 (.ptr k0 0)=some (.int .i64 (f.size:Int)):=ldP b0
 have m1:d9 S1 (.ptr k0 1)=some fv:=ldP b0
 simp only[ndP,ofP,oD,Nat.zero_add,l2,l1,l0,m0,a9c]
 rw[b9v,V7]
 refine⟨fun he=> ?_,fun he=> ?_⟩
 ·rw[c0e he, ←hS1]
  exact b9.drop n0 (b9.here ⟨rfl,acs,(b5.set_self hk).symm⟩)
 have he:s.2=0:=Classical.not_not.1 he
 refine(c0X hb hl hs h1 h8).use ?_
 have hset:∀n m:Int,j4 (rdC bs (s.1,n)) 2 [.int .i64 m]=rdC bs (s.1,m):=fun _ _=>rfl
 have hset1:∀m:Nat,j4 (rdC bs s) 1 [.int .i64 (m:Int)]=rdC bs (m,s.2):=fun _=>rfl
 by_cases hsh:bs.length<s.1+f.size
 ·rw[if_pos hsh]
  have e:w9 bs f s=(0,s.1,10):=by unfold w9;rw[if_neg (by simp[he]),if_pos hsh]
  simp only[exD,List.getElem?_cons_zero,List.getElem?_cons_succ,oD,a9c]
  rw[show((10:Int) != 0)=true from rfl,cdT]
  refine stP bk (clI _ _) ⟨rfl,by decide,by simp[rdC]⟩ fun acs'=>drop (b9.here ?_)
  rw[e]
  exact⟨rfl,acs',rfl⟩
 rw[if_neg hsh]
 simp only[exD,List.getElem?_cons_zero,List.getElem?_cons_succ,oD,a9c,cvI]
 rw[show((0:Int) != 0)=false from rfl,cdF]
 obtain⟨u,hu⟩:∃u,u=leN ((bs.drop s.1).take f.size):=⟨_,rfl⟩
 have hur:w9 bs f s=match rdN f u with|some n=>(n,s.1+f.size,0)|none=>(0,s.1,120):=by
  unfold w9;rw[if_neg (by simp[he]),if_neg hsh, ←hu]
  cases rdN f u<;>rfl
 have hult:u<2^(8*f.size):=by
  rw[hu]
  have hbs:∀b∈(bs.drop s.1).take f.size,J0 b:=fun b hb'=>hb b (List.mem_of_mem_drop (List.mem_of_mem_take hb'))
  have:=a7M hbs
  rwa [show((bs.drop s.1).take f.size).length=f.size by rw[List.length_take,List.length_drop];omega]at this
 rw[←hu]
 obtain⟨n,hn⟩:∃n,n=IntKind.i64.wrap (u:Int):=⟨_,rfl⟩
 have hn64:I64 n:=by rw[hn];exact c2K _
 rw[←hn,m1,oD]
 have tail:∀n':Int,I64 n'→n'=(if f.may n=false∧f.size<8 then n - 2^(8*f.size) else n)→F8 E w0 (b9 E fun v S'=>v= .int .i64 (w9 bs f s).1∧∃acs',S'=S.set k ⟨3,[rdC bs (w9 bs f s).2],acs'⟩) (.ptr k 0) (.ptr k0 0) (.int .i64 ((s.1+f.size:Nat):Int)) (.int .i64 n') S1:=fun n' hn' he'=>by
  refine a5M ?_
  unfold a2c
  simp only[ofP,oD,Nat.zero_add,m1]
  refine c1Q hm hn' ?_
  rw[unN,oD]
  have hrd:rdN f u=if f.may n'=true then some n' else none:=by
   unfold rdN;simp only;rw[←hn, ←he']
  have hmm:decide (f.lo≤n'∧n'≤f.hi)=f.may n':=rfl
  rw[hmm,cdB]
  refine⟨fun hf=> ?_,fun hf=> ?_⟩
  ·have hf:f.may n'=false:=by simpa using hf
   rw[hf,if_neg (by decide)]at hrd
   rw[hrd]at hur
   simp only[ndP,ofP,oD,Nat.zero_add]
   refine stP bk (clI _ _) ⟨rfl,by decide,by simp[rdC]⟩ fun acs'=>drop (b9.here ?_)
   rw[hur]
   exact⟨rfl,acs',rfl⟩
  ·have hf:f.may n'=true:=by simpa using hf
   rw[if_pos hf]at hrd
   rw[hrd]at hur
   simp only[ndP,ofP,oD,Nat.zero_add]
   refine stP bk (clI _ _) ⟨rfl,by decide,by simp[rdC]⟩ fun acs'=>drop (b9.here ?_)
   rw[hur,hset1,he]
   exact⟨rfl,acs',rfl⟩
 refine c1Q hm hn64 ?_
 have hmm:decide (f.lo≤n∧n≤f.hi)=f.may n:=rfl
 rw[hmm,unN,oD]
 have e8:decide ((f.size:Int)<8)=decide (f.size<8):=decide_eq_decide.2 (by omega)
 have key:(b4 (d5 .mul (.int .i64 8) (.int .i64 (f.size:Int))) fun v49=>b4 (d5 .shl (.int .i64 1) v49) fun v50=>b4 (d5 .sub (.int .i64 n) v50) fun v51=>F8 E w0 (b9 E fun v S'=>v= .int .i64 (w9 bs f s).1∧∃acs',S'=S.set k ⟨3,[rdC bs (w9 bs f s).2],acs'⟩) (.ptr k 0) (.ptr k0 0) (.int .i64 ((s.1+f.size:Nat):Int)) v51 S1)∨¬(f.may n=false∧f.size<8):=by
  by_cases hc:f.may n=false∧f.size<8
  ·left
   have h56:=d0s hc.2
   have hnu:n=u:=by rw[hn];exact i6 (by omega) (by omega)
   rw[c4C,oD,i6 (by omega) (by omega),c4Q _ _ _ _ (by omega),oD]
   have e1:min (8*(f.size:Int)).toNat IntKind.i64.bits=8*f.size:=by
    have:IntKind.i64.bits=64:=rfl
    omega
   have e2:(1:Int)*2^(8*f.size)=((2^(8*f.size):Nat):Int):=by rw[Int.one_mul];exact_mod_cast rfl
   rw[e1,e2,i6 (by omega) (by omega),a0M,oD,i6 (by omega) (by omega)]
   refine tail _ ⟨by omega,by omega⟩ ?_
   rw[if_pos hc]
   congr 1
  ·exact .inr hc
 cases hmn:f.may n with
 |true=>
  simp only[Bool.not_true,wdB,vdF,oD,pdB,Bool.false_eq_true,if_false,cdF,show((false==true)=false) from rfl]
  exact tail n hn64 (by rw[if_neg (by rw[hmn];simp)])
 |false=>
  simp only[Bool.not_false,wdB,vdT,oD,pdB,if_true,show((true==true)=true) from rfl,m0,M7,e8]
  rw[V7]
  refine⟨fun h=> ?_,fun h=> ?_⟩
  ·exact key.resolve_right fun hc=>hc ⟨hmn,h⟩
  ·exact tail n hn64 (by rw[if_neg (fun hc=>h hc.2)])
end
end Go.Proofs.Ytdkidgkiplcggaa.d
end
