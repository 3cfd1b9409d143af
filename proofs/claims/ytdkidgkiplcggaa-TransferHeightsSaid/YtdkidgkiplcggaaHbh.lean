/-
  TransferHeightsSaid: part Hbh of its proof.
-/
import Derived.Test.YtdkidgkiplcggaaRows
import Derived.Test.YtdkidgkiplcggaaHar
import Derived.KernelRfl
import Derived.Test.YtdkidgkiplcggaaHbg
set_option linter.unusedVariables false
set_option linter.unusedSimpArgs false
set_option maxRecDepth 100000
section
open Go.Proofs Go Go.Am
namespace Go.Proofs.Ytdkidgkiplcggaa.d
def A4:List (Nat×List Nat):=[(22,[1,4,9,11,13,15])]
def A1:List (Nat×List Nat):=[(4,[1,2,4,9,10]),(28,[1,4,9,11,13,15,16,17])]
def A3:List (Nat×V1):=[(1,(.node 4 5 (.leaf [0,1,2,3,4,5,6,7]) (.leaf [0,1,2,3,5,4,6,7]))),(13,(.node 10 11 (.leaf [0,1,2,3,4,5,6,7,8,9,10,11,12,13]) (.leaf [0,1,2,3,4,5,6,7,8,9,11,10,12,13])))]
noncomputable def a5v:Code:=(j7 [1,1,1,1,1,1,1,0,1,0,0,1,0,0,1] (Try.f9.body.getD .skip))
def a5f(E:j3)(w0:j8)(N0:D→D→D→D→D→D→b8→Prop)(Q:D→b8→Prop):o9→List D→b8→Prop:=
 (q8 1 (G5 Try.prog E w0 A4 A1 A3 (j7 [1,1,1,1,1,1,1,0,1,0,0,1,1] (Try.f9.body.getD .skip)) (B1 (fun T S=>N0 (T.getD 1 b9) (T.getD 4 b9) (T.getD 9 b9) (T.getD 11 b9) (T.getD 13 b9) (T.getD 15 b9) S) (q8 0 (G5 Try.prog E w0 A4 A1 A3 (j7 [1,1,1,1,1,1,1,1] (Try.f9.body.getD .skip)) (E7 Try.prog Try.f9 Q))))))
def a0Z(E:j3)(w0:j8)(N0:D→D→D→D→D→D→b8→Prop)(Q:D→b8→Prop)(x1 x4 x9 x11 x13 x15 x16 x17:D)(S:b8):Prop:=
 b7 (o7 3 x11 x15) fun v63=>
 b7 (j1 0 v63) fun v64=>
 b7 (c9 S v64) fun v65=>
 b7 (o7 3 x13 x15) fun v66=>
 b7 (j1 0 v66) fun v67=>
 b7 (c9 S v67) fun v68=>
 b7 (i5 .neq v65 v68) fun v69=>
 b7 (d9 (d6 v69 false) (j1 1 x16)) fun v70=>
 b7 (d9 (d6 v69 false) (c9 S v70)) fun v71=>
 b7 (d9 (d6 v69 false) (m8 v71)) fun v72=>
 b7 (d9 (d6 v69 false) (j1 1 x17)) fun v73=>
 b7 (d9 (d6 v69 false) (c9 S v73)) fun v74=>
 b7 (d9 (d6 v69 false) (m8 v74)) fun v75=>
 b7 (d9 (d6 v69 false) (i5 .neq v72 v75)) fun v76=>
 b7 (q7 v69 (.bool true) v76) fun v77=>
 b7 (d9 (d6 v77 false) (j1 0 x16)) fun v78=>
 b7 (d9 (d6 v77 false) (c9 S v78)) fun v79=>
 b7 (d9 (d6 v77 false) (m8 v79)) fun v80=>
 b7 (d9 (d6 v77 false) (j1 0 x9)) fun v81=>
 b7 (d9 (d6 v77 false) (c9 S v81)) fun v82=>
 b7 (d9 (d6 v77 false) (m8 v82)) fun v83=>
 b7 (d9 (d6 v77 false) (i5 .neq v80 v83)) fun v84=>
 b7 (q7 v77 (.bool true) v84) fun v85=>
 b7 (d9 (d6 v85 false) (j1 0 x17)) fun v86=>
 b7 (d9 (d6 v85 false) (c9 S v86)) fun v87=>
 b7 (d9 (d6 v85 false) (m8 v87)) fun v88=>
 b7 (d9 (d6 v85 false) (j1 0 x9)) fun v89=>
 b7 (d9 (d6 v85 false) (c9 S v89)) fun v90=>
 b7 (d9 (d6 v85 false) (m8 v90)) fun v91=>
 b7 (d9 (d6 v85 false) (i5 .neq v88 v91)) fun v92=>
 b7 (q7 v85 (.bool true) v92) fun v93=>
 b7 (d9 (d6 v93 false) (j1 1 x16)) fun v94=>
 b7 (d9 (d6 v93 false) (c9 S v94)) fun v95=>
 b7 (d9 (d6 v93 false) (m8 v95)) fun v96=>
 b7 (d9 (d6 v93 false) (j1 2 x4)) fun v97=>
 b7 (d9 (d6 v93 false) (c9 S v97)) fun v98=>
 b7 (d9 (d6 v93 false) (some x1)) fun v99=>
 b7 (d9 (d6 v93 false) (o7 6 v98 v99)) fun v100=>
 b7 (d9 (d6 v93 false) (j1 4 v100)) fun v101=>
 b7 (d9 (d6 v93 false) (c9 S v101)) fun v102=>
 b7 (d9 (d6 v93 false) (i5 .gtr v96 v102)) fun v103=>
 b7 (q7 v93 (.bool true) v103) fun v104=>
 b7 (d9 (d6 v104 false) (some x15)) fun v105=>
 b7 (d9 (d6 v104 false) (i5 .gtr v105 (.int .i64 0))) fun v106=>
 b7 (d9 (d6 v104 false) (some v106)) fun v107=>
 b7 (d9 (d6 v107 true) (some x11)) fun v108=>
 b7 (d9 (d6 v107 true) (some x15)) fun v109=>
 b7 (d9 (d6 v107 true) (o7 3 v108 v109)) fun v110=>
 b7 (d9 (d6 v107 true) (j1 0 v110)) fun v111=>
 b7 (d9 (d6 v107 true) (c9 S v111)) fun v112=>
 b7 (d9 (d6 v107 true) (some x11)) fun v113=>
 b7 (d9 (d6 v107 true) (some x15)) fun v114=>
 b7 (d9 (d6 v107 true) (i5 .sub v114 (.int .i64 1))) fun v115=>
 b7 (d9 (d6 v107 true) (o7 3 v113 v115)) fun v116=>
 b7 (d9 (d6 v107 true) (j1 0 v116)) fun v117=>
 b7 (d9 (d6 v107 true) (c9 S v117)) fun v118=>
 b7 (d9 (d6 v107 true) (i5 .leq v112 v118)) fun v119=>
 b7 (d9 (d6 v104 false) (q7 v107 v119 (.bool false))) fun v120=>
 b7 (q7 v104 (.bool true) v120) fun v121=>
 i9 v121
 (Q (.bool false) S)
 (b7 (i5 .add x15 (.int .i64 1)) fun v122=>
 N0 x1 x4 x9 x11 x13 v122 S)
def F8(E:j3)(w0:j8)(N0:D→D→D→D→D→D→b8→Prop)(Q:D→b8→Prop)(x1 x4 x9 x11 x13 x15 x16 x17:D)(S:b8):Prop:=j2 Try.prog E w0 a5v (m6 173 [1,4,9,11,13,15,16,17] [x1,x4,x9,x11,x13,x15,x16,x17]) S (a5f E w0 N0 Q)
theorem a4f{E:j3}{w0:j8}{N0:D→D→D→D→D→D→b8→Prop}{Q:D→b8→Prop}{x1 x4 x9 x11 x13 x15 x16 x17:D}{S:b8}(h:a0Z E w0 N0 Q x1 x4 x9 x11 x13 x15 x16 x17 S):F8 E w0 N0 Q x1 x4 x9 x11 x13 x15 x16 x17 S:=j4 A4 A1 A3 mixed (by kernel_rfl) h
noncomputable def H3:Code:=(j7 [1,1,1,1,1,1,1,0,1,0,0] (Try.f9.body.getD .skip))
def G8(E:j3)(w0:j8)(Q:D→b8→Prop):o9→List D→b8→Prop:=
 (q8 0 (G5 Try.prog E w0 A4 A1 A3 (j7 [1,1,1,1,1,1,1,1] (Try.f9.body.getD .skip)) (E7 Try.prog Try.f9 Q)))
def P3(E:j3)(w0:j8)(N0:D→D→D→D→D→D→b8→Prop)(Q:D→b8→Prop)(x1 x4 x9 x11 x13 x15:D)(S:b8):Prop:=
 b7 (m8 x11) fun v61=>
 b7 (i5 .lss x15 v61) fun v62=>
 i9 v62
 ((b7 (o7 3 x11 x15) fun v123=>
 b7 (j1 1 v123) fun v124=>
 b7 (i6 S 2 v124) fun v125=>
 b7 (o7 3 x13 x15) fun v126=>
 b7 (j1 1 v126) fun v127=>
 b7 (i6 S 2 v127) fun v128=>
 j6 S [.nilSlc, .nilSlc] fun v129 S130=>
 o4 v124 S S130∧o4 v127 S S130∧j6 S130 [.nilSlc, .nilSlc] fun v131 S132=>
 o4 v124 S S132∧o4 v127 S S132∧i7 S132 2 v129 v125 fun v133 S134=>
 o4 v127 S S134∧i7 S134 2 v131 v128 fun v135 S136=>
 F8 E w0 N0 Q x1 x4 x9 x11 x13 x15 v129 v131 S136)∧
 (b7 (o7 3 x11 x15) fun v137=>
 b7 (j1 1 v137) fun v138=>
 b7 (i6 S 2 v138) fun v139=>
 b7 (o7 3 x13 x15) fun v140=>
 b7 (j1 1 v140) fun v141=>
 b7 (i6 S 2 v141) fun v142=>
 j6 S [.nilSlc, .nilSlc] fun v143 S144=>
 o4 v138 S S144∧o4 v141 S S144∧j6 S144 [.nilSlc, .nilSlc] fun v145 S146=>
 o4 v138 S S146∧o4 v141 S S146∧i7 S146 2 v145 v139 fun v147 S148=>
 o4 v141 S S148∧i7 S148 2 v143 v142 fun v149 S150=>
 F8 E w0 N0 Q x1 x4 x9 x11 x13 x15 v145 v143 S150))
 (l8 Try.prog E w0 U3 [] S fun v151 S152=>
 Q v151 S152)
theorem a4C{E:j3}{w0:j8}{N0:D→D→D→D→D→D→b8→Prop}{Q:D→b8→Prop}{x1 x4 x9 x11 x13 x15:D}{S:b8}(h:P3 E w0 N0 Q x1 x4 x9 x11 x13 x15 S):
  j2 Try.prog E w0 H3 (m6 173 [1,4,9,11,13,15] [x1,x4,x9,x11,x13,x15]) S (B1 (fun T S=>N0 (T.getD 1 b9) (T.getD 4 b9) (T.getD 9 b9) (T.getD 11 b9) (T.getD 13 b9) (T.getD 15 b9) S) (G8 E w0 Q)):=j4 A4 A1 A3 mixed (by kernel_rfl) h
theorem a4w{E:j3}{w0:j8}{Q:D→b8→Prop}(I:Nat→D→D→D→D→D→D→b8→Prop)
  (step:∀n x1 x4 x9 x11 x13 x15 S,I n x1 x4 x9 x11 x13 x15 S→P3 E w0 (fun x1 x4 x9 x11 x13 x15 S=>∃m,m<n∧I m x1 x4 x9 x11 x13 x15 S) Q x1 x4 x9 x11 x13 x15 S)
  {n:Nat} {x1 x4 x9 x11 x13 x15:D} {S:b8} (h:I n x1 x4 x9 x11 x13 x15 S):j2 Try.prog E w0 (.loop H3) (m6 173 [1,4,9,11,13,15] [x1,x4,x9,x11,x13,x15]) S (G8 E w0 Q):=
 p8 (k:=173) (n:=n) (I:=fun n T S=>I n (T.getD 1 b9) (T.getD 4 b9) (T.getD 9 b9) (T.getD 11 b9) (T.getD 13 b9) (T.getD 15 b9) S) (fun n T S hl hI=>q9 [1,4,9,11,13,15] hl (j2.mono (a4C (step n _ _ _ _ _ _ S hI)) fun ex T' S' _ hq=>by cases ex<;>exact hq)) (o0 ..) (Eq.mp (by kernel_rfl) h)
noncomputable def a6H:Code:=(j7 [1,1] (Try.f9.body.getD .skip))
def a5F(E:j3)(w0:j8)(Q:D→b8→Prop):o9→List D→b8→Prop:=
 (E7 Try.prog Try.f9 Q)
def a1p(E:j3)(w0:j8)(Q:D→b8→Prop)(x1 x2 x4 x9 x10:D)(S:b8):Prop:=
 b7 (i6 S 3 x4) fun v4=>
 b7 (i6 S 2 x9) fun v5=>
 l8 Try.prog E w0 a3I [v4,v5] S fun v6 S7=>
 b7 (d9 (d6 v6 false) (i6 S7 3 x4)) fun v8=>
 b7 (d9 (d6 v6 false) (i6 S7 2 x10)) fun v9=>
 V8 (d6 v6 false) (fun K=>l8 Try.prog E w0 a3I [v8,v9] S7 K) S7 fun v10 S11=>
 b7 (q7 v6 (.bool true) v10) fun v12=>
 b7 (d9 (d6 v12 false) (j1 0 x9)) fun v13=>
 b7 (d9 (d6 v12 false) (c9 S11 v13)) fun v14=>
 b7 (d9 (d6 v12 false) (m8 v14)) fun v15=>
 b7 (d9 (d6 v12 false) (j1 0 x10)) fun v16=>
 b7 (d9 (d6 v12 false) (c9 S11 v16)) fun v17=>
 b7 (d9 (d6 v12 false) (m8 v17)) fun v18=>
 b7 (d9 (d6 v12 false) (i5 .neq v15 v18)) fun v19=>
 b7 (q7 v12 (.bool true) v19) fun v20=>
 b7 (d9 (d6 v20 false) (j1 1 x9)) fun v21=>
 b7 (d9 (d6 v20 false) (c9 S11 v21)) fun v22=>
 b7 (d9 (d6 v20 false) (m8 v22)) fun v23=>
 b7 (d9 (d6 v20 false) (j1 1 x10)) fun v24=>
 b7 (d9 (d6 v20 false) (c9 S11 v24)) fun v25=>
 b7 (d9 (d6 v20 false) (m8 v25)) fun v26=>
 b7 (d9 (d6 v20 false) (i5 .neq v23 v26)) fun v27=>
 b7 (q7 v20 (.bool true) v27) fun v28=>
 i9 v28
 (l8 Try.prog E w0 U3 [] S11 fun v29 S30=>
 Q v29 S30)
 (b7 (i6 S11 3 x4) fun v31=>
 b7 (i6 S11 2 x9) fun v32=>
 l8 Try.prog E w0 L2 [v31,x1,x2,v32] S11 fun v33 S34=>
 b7 (l9 v33 0) fun v35=>
 b7 (l9 v33 1) fun v36=>
 b7 (i6 S34 3 x4) fun v37=>
 b7 (i6 S34 2 x10) fun v38=>
 l8 Try.prog E w0 L2 [v37,x1,x2,v38] S34 fun v39 S40=>
 b7 (l9 v39 0) fun v41=>
 b7 (l9 v39 1) fun v42=>
 b7 (i5 .neq v36 (.int .i64 0)) fun v43=>
 b7 (d9 (d6 v43 false) (some v42)) fun v44=>
 b7 (d9 (d6 v43 false) (i5 .neq v44 (.int .i64 0))) fun v45=>
 b7 (q7 v43 (.bool true) v45) fun v46=>
 i9 v46
 (l8 Try.prog E w0 U3 [] S40 fun v47 S48=>
 Q v47 S48)
 (b7 (m8 v35) fun v49=>
 b7 (m8 v41) fun v50=>
 b7 (i5 .neq v49 v50) fun v51=>
 b7 (d9 (d6 v51 false) (some x1)) fun v52=>
 b7 (d9 (d6 v51 false) (i5 .lss v52 (.int .i64 0))) fun v53=>
 b7 (q7 v51 (.bool true) v53) fun v54=>
 b7 (d9 (d6 v54 false) (some x1)) fun v55=>
 b7 (d9 (d6 v54 false) (j1 2 x4)) fun v56=>
 b7 (d9 (d6 v54 false) (c9 S40 v56)) fun v57=>
 b7 (d9 (d6 v54 false) (m8 v57)) fun v58=>
 b7 (d9 (d6 v54 false) (i5 .geq v55 v58)) fun v59=>
 b7 (q7 v54 (.bool true) v59) fun v60=>
 i9 v60
 (Q (.bool false) S40)
 (j2 Try.prog E w0 (.loop H3) (m6 173 [1,4,9,11,13,15] [x1,x4,x9,v35,v41,(.int .i64 0)]) S40 (G8 E w0 Q))))
def G7(E:j3)(w0:j8)(Q:D→b8→Prop)(x1 x2 x4 x9 x10:D)(S:b8):Prop:=j2 Try.prog E w0 a6H (m6 173 [1,2,4,9,10] [x1,x2,x4,x9,x10]) S (a5F E w0 Q)
theorem a4y{E:j3}{w0:j8}{Q:D→b8→Prop}{x1 x2 x4 x9 x10:D}{S:b8}(h:a1p E w0 Q x1 x2 x4 x9 x10 S):G7 E w0 Q x1 x2 x4 x9 x10 S:=j4 A4 A1 A3 mixed (by kernel_rfl) h
def a1W(E:j3)(w0:j8)(Q:D→b8→Prop)(a0 a1 a2 a3:D)(S:b8):Prop:=
 b7 (o5 a0) fun cs=>j6 S cs fun v0 S1=>
 b7 (o5 a3) fun cs=>j6 S1 cs fun v2 S3=>
 (b7 (b0F 2 2 v2 (.int .i64 0)) fun v153=>
 b7 (i6 S3 2 v153) fun v154=>
 b7 (b0F 2 2 v2 (.int .i64 1)) fun v155=>
 b7 (i6 S3 2 v155) fun v156=>
 j6 S3 [.nilSlc, .nilSlc] fun v157 S158=>
 o4 v153 S3 S158∧o4 v155 S3 S158∧j6 S158 [.nilSlc, .nilSlc] fun v159 S160=>
 o4 v153 S3 S160∧o4 v155 S3 S160∧i7 S160 2 v157 v154 fun v161 S162=>
 o4 v155 S3 S162∧i7 S162 2 v159 v156 fun v163 S164=>
 G7 E w0 Q a1 a2 v0 v157 v159 S164)∧
 (b7 (b0F 2 2 v2 (.int .i64 0)) fun v165=>
 b7 (i6 S3 2 v165) fun v166=>
 b7 (b0F 2 2 v2 (.int .i64 1)) fun v167=>
 b7 (i6 S3 2 v167) fun v168=>
 j6 S3 [.nilSlc, .nilSlc] fun v169 S170=>
 o4 v165 S3 S170∧o4 v167 S3 S170∧j6 S170 [.nilSlc, .nilSlc] fun v171 S172=>
 o4 v165 S3 S172∧o4 v167 S3 S172∧i7 S172 2 v171 v166 fun v173 S174=>
 o4 v167 S3 S174∧i7 S174 2 v169 v168 fun v175 S176=>
 G7 E w0 Q a1 a2 v0 v171 v169 S176)
theorem a6l{E:j3}{w0:j8}{Q:D→b8→Prop}{a0 a1 a2 a3:D}{S:b8}(h:a1W E w0 (i4 E Q) a0 a1 a2 a3 S):l8 Try.prog E w0 a2a [a0,a1,a2,a3] S Q:=
 j5 A4 A1 A3 (fn:=Try.f9) (c:=Try.f9.body.getD .skip) mixed Try.func9 (by kernel_rfl) (by kernel_rfl) h
def b9Q:List (Nat×List Nat):=[]
def c0e:List (Nat×List Nat):=[]
def c1t:List (Nat×V1):=[]
def b3u(E:j3)(w0:j8)(Q:D→b8→Prop)(a0 a1:D)(S:b8):Prop:=
 b7 (o5 a0) fun cs=>j6 S cs fun v0 S1=>
 b7 (o5 a1) fun cs=>j6 S1 cs fun v2 S3=>
 b7 (i6 S3 3 v0) fun v4=>
 l8 Try.prog E w0 a8Q [v4,(.int .i64 10000)] S3 fun v5 S6=>
 b7 (i5 .gtr v5 (.int .i64 10000)) fun v7=>
 b7 (d9 (d6 v7 false) (j1 0 v2)) fun v8=>
 b7 (d9 (d6 v7 false) (c9 S6 v8)) fun v9=>
 b7 (d9 (d6 v7 false) (m8 v9)) fun v10=>
 b7 (d9 (d6 v7 false) (i5 .gtr v10 (.int .i64 2000))) fun v11=>
 b7 (q7 v7 (.bool true) v11) fun v12=>
 b7 (d9 (d6 v12 false) (j1 1 v2)) fun v13=>
 b7 (d9 (d6 v12 false) (c9 S6 v13)) fun v14=>
 b7 (d9 (d6 v12 false) (m8 v14)) fun v15=>
 b7 (d9 (d6 v12 false) (i5 .gtr v15 (.int .i64 2000))) fun v16=>
 b7 (q7 v12 (.bool true) v16) fun v17=>
 Q v17 S6
theorem b7t{E:j3}{w0:j8}{Q:D→b8→Prop}{a0 a1:D}{S:b8}(h:b3u E w0 (i4 E Q) a0 a1 S):l8 Try.prog E w0 a3I [a0,a1] S Q:=
 j5 b9Q c0e c1t (fn:=Try.f28) (c:=Try.f28.body.getD .skip) mixed Try.func28 (by kernel_rfl) (by kernel_rfl) h
def b8m:List (Nat×List Nat):=[]
def b8D:List (Nat×List Nat):=[]
def b9q:List (Nat×V1):=[]
def b0P(E:j3)(w0:j8)(Q:D→b8→Prop)(a0:D)(S:b8):Prop:=
 j6 S [.nilSlc, .nilSlc, .nilSlc] fun v0 S1=>
 r7 S1 1 (m9 1 (List.replicate 2 [(.int .i64 0)]) [(0,(.int .i64 1)),(1,(.int .i64 5))]) 2 fun v2 S3=>
 r7 S3 1 (m9 1 (List.replicate 1 [(.int .i64 0)]) [(0,(.int .i64 4))]) 1 fun v4 S5=>
 b7 (D3 (s0 [(.str []), .nilSlc, .nilSlc,(.int .i64 0),(.int .i64 0), .nilSlc] [(0,1,(.str [102])),(1,1,v2),(2,1,v4),(3,1,(.int .i64 3)),(4,1,(.int .i64 2)),(5,1,a0)])) fun v6=>
 r7 S5 6 (m9 6 (List.replicate 1 [(.str []), .nilSlc, .nilSlc,(.int .i64 0),(.int .i64 0), .nilSlc]) [(0,v6)]) 1 fun v7 S8=>
 b7 (D3 (s0 [.nilSlc, .nilSlc, .nilSlc] [(2,1,v7)])) fun v9=>
 i7 S8 3 v0 v9 fun v10 S11=>
 b7 (i6 S11 3 v0) fun v12=>Q v12 S11
theorem b5i{E:j3}{w0:j8}{Q:D→b8→Prop}{a0:D}{S:b8}(h:b0P E w0 (i4 E Q) a0 S):l8 Try.prog E w0 a2S [a0] S Q:=
 j5 b8m b8D b9q (fn:=Try.f32) (c:=Try.f32.body.getD .skip) mixed Try.func32 (by kernel_rfl) (by kernel_rfl) h
def c2a:List (Nat×List Nat):=[]
def c1v:List (Nat×List Nat):=[]
def c0V:List (Nat×V1):=[]
def b3i(E:j3)(w0:j8)(Q:D→b8→Prop)(S:b8):Prop:=
 r7 S 1 (m9 1 (List.replicate 2 [(.int .u8 0)]) [(0,(.int .u8 4)),(1,(.int .u8 51))]) 2 fun v0 S1=>
 l8 Try.prog E w0 a2S [v0] S1 fun v2 S3=>
 j6 S3 [.nilSlc, .nilSlc, .nilSlc] fun v4 S5=>
 i7 S5 3 v4 v2 fun v6 S7=>
 b7 (i6 S7 3 v4) fun v8=>
 l8 Try.prog E w0 N6 [v8,(.int .i64 0)] S7 fun v9 S10=>
 b7 (l9 v9 0) fun v11=>
 b7 (l9 v9 1) fun v12=>
 j6 S10 [.nilSlc, .nilSlc] fun v13 S14=>
 i7 S14 2 v13 v11 fun v15 S16=>
 b7 (i6 S16 3 v4) fun v17=>
 b7 (i6 S16 2 v13) fun v18=>
 l8 Try.prog E w0 L2 [v17,(.int .i64 0),(.int .i64 0),v18] S16 fun v19 S20=>
 b7 (l9 v19 0) fun v21=>
 b7 (l9 v19 1) fun v22=>
 b7 (i5 .eql v12 (.int .i64 0)) fun v23=>
 b7 (d9 (d6 v23 true) (some v22)) fun v24=>
 b7 (d9 (d6 v23 true) (i5 .eql v24 (.int .i64 0))) fun v25=>
 b7 (q7 v23 v25 (.bool false)) fun v26=>
 b7 (d9 (d6 v26 true) (some v21)) fun v27=>
 b7 (d9 (d6 v26 true) (m8 v27)) fun v28=>
 b7 (d9 (d6 v26 true) (i5 .eql v28 (.int .i64 1))) fun v29=>
 b7 (q7 v26 v29 (.bool false)) fun v30=>
 b7 (d9 (d6 v30 true) (some v21)) fun v31=>
 b7 (d9 (d6 v30 true) (o7 3 v31 (.int .i64 0))) fun v32=>
 b7 (d9 (d6 v30 true) (j1 0 v32)) fun v33=>
 b7 (d9 (d6 v30 true) (c9 S20 v33)) fun v34=>
 b7 (d9 (d6 v30 true) (i5 .eql v34 (.int .i64 1))) fun v35=>
 b7 (q7 v30 v35 (.bool false)) fun v36=>
 b7 (d9 (d6 v36 true) (some v21)) fun v37=>
 b7 (d9 (d6 v36 true) (o7 3 v37 (.int .i64 0))) fun v38=>
 b7 (d9 (d6 v36 true) (j1 1 v38)) fun v39=>
 b7 (d9 (d6 v36 true) (j1 0 v39)) fun v40=>
 b7 (d9 (d6 v36 true) (c9 S20 v40)) fun v41=>
 V8 (d6 v36 true) (fun K=>r7 S20 1 (m9 1 (List.replicate 3 [(.int .i64 0)]) [(0,(.int .i64 1)),(1,(.int .i64 5)),(2,(.int .i64 0))]) 3 K) S20 fun v42 S43=>
 V8 (d6 v36 true) (fun K=>l8 Try.prog E w0 V6 [v41,v42] S43 K) S43 fun v44 S45=>
 b7 (q7 v36 v44 (.bool false)) fun v46=>
 b7 (d9 (d6 v46 true) (some v21)) fun v47=>
 b7 (d9 (d6 v46 true) (o7 3 v47 (.int .i64 0))) fun v48=>
 b7 (d9 (d6 v46 true) (j1 1 v48)) fun v49=>
 b7 (d9 (d6 v46 true) (j1 1 v49)) fun v50=>
 b7 (d9 (d6 v46 true) (c9 S45 v50)) fun v51=>
 V8 (d6 v46 true) (fun K=>r7 S45 1 (m9 1 (List.replicate 1 [(.int .i64 0)]) [(0,(.int .i64 4))]) 1 K) S45 fun v52 S53=>
 V8 (d6 v46 true) (fun K=>l8 Try.prog E w0 V6 [v51,v52] S53 K) S53 fun v54 S55=>
 b7 (q7 v46 v54 (.bool false)) fun v56=>
 Q v56 S55
theorem b6L{E:j3}{w0:j8}{Q:D→b8→Prop}{S:b8}(h:b3i E w0 (i4 E Q) S):l8 Try.prog E w0 U3 [] S Q:=
 j5 c2a c1v c0V (fn:=Try.f29) (c:=Try.f29.body.getD .skip) mixed Try.func29 (by kernel_rfl) (by kernel_rfl) h
end Go.Proofs.Ytdkidgkiplcggaa.d
end
section
open Go.Proofs Go Go.Am Go.Op
namespace Go.Proofs.Ytdkidgkiplcggaa.d
section
set_option linter.unusedSectionVars false
def c7x(a:Int):List Int→List Int
 | []=>[a]
 |b::l=>if a<b then a::b::l else if a=b then b::l else b::c7x a l
theorem c0M(a:Int):∀(l:List Int) (n:Int),n∈c7x a l↔n=a∨n∈l
 | [],n=>by simp[c7x]
 |b::l,n=>by
  unfold c7x
  by_cases h1:a<b
  ·rw[if_pos h1];simp
  rw[if_neg h1]
  by_cases h2:a=b
  ·rw[if_pos h2];subst h2;simp
  rw[if_neg h2,List.mem_cons,c0M a l n,List.mem_cons]
  constructor
  ·rintro(h|h|h)
   ·exact .inr (.inl h)
   ·exact .inl h
   ·exact .inr (.inr h)
  ·rintro(h|h|h)
   ·exact .inr (.inl h)
   ·exact .inl h
   ·exact .inr (.inr h)
theorem c1H(a:Int):∀(l:List Int),l.Pairwise (· < ·)→(c7x a l).Pairwise (· < ·)
 | [],_=>List.pairwise_singleton _ _
 |b::l,h=>by
  obtain⟨h0,h3⟩:=List.pairwise_cons.1 h
  unfold c7x
  by_cases h1:a<b
  ·rw[if_pos h1]
   refine List.pairwise_cons.2 ⟨fun n hn=> ?_,h⟩
   rcases List.mem_cons.1 hn with rfl|hn
   ·exact h1
   ·have:=h0 n hn;omega
  rw[if_neg h1]
  by_cases h2:a=b
  ·rw[if_pos h2];exact h
  rw[if_neg h2]
  refine List.pairwise_cons.2 ⟨fun n hn=> ?_,c1H a l h3⟩
  rcases(c0M a l n).1 hn with rfl|hn
  ·omega
  ·exact h0 n hn
def c7u(l:List Int):List Int:=l.foldr c7x []
theorem c1w:∀l:List Int,(c7u l).Pairwise (· < ·)∧∀n,n∈c7u l↔n∈l
 | []=>⟨List.Pairwise.nil,fun n=>Iff.rfl⟩
 |a::l=>by
  obtain⟨h1,h2⟩:=c1w l
  refine⟨c1H a _ h1,fun n=> ?_⟩
  show n∈c7x a (c7u l)↔_
  rw[c0M,h2,List.mem_cons]
theorem d5i(l:List Int):rise l=c7u l:=c3f (b5D l).1 (c1w l).1 fun n=>by rw[(b5D l).2,(c1w l).2]
def c3U(y:In)(next:Int):List Int:=
 if y.op=51∨y.op=52 then[]else if y.op=46 then[y.a]else c7u (if y.op=47∨y.op=48 then[next,y.a]else if y.op=49 then y.b::y.arms.map (·.2) else[next])
theorem d3o(y:In)(next:Int):R5 y next=c3U y next:=by unfold R5 c3U;rw[d5i]
def b9D(m:Mo)(r:Ro)(y:In)(next:Int)(f:Fr):List (Int×Fr)×Int:=
 if(doS m r y f).2≠0 then([],(doS m r y f).2)
 else if(c3U y next).all (fun t=>decide (t∈b8H r)) then((c3U y next).map fun t=>(t,(doS m r y f).1),0) else([],190)
theorem d1a(m:Mo)(r:Ro)(y:In)(next:Int)(f:Fr):b1N m r y next f=b9D m r y next f:=by unfold b1N b9D;rw[d3o]
def d3O(m:Mo)(fn at':Int)(f:Fr):List (Int×Fr)×Int:=
 if(F5 m fn).2≠0 then([],(F5 m fn).2) else match m.funcs[fn.toNat]? with
  |some r=>if b1b m r f=false then([],2) else match (b8H r).findIdx? (fun p=>decide (p=at')) with
   |none=>([],190)
   |some i=>match (c2z r)[i]? with
    |some y=>b9D m r y (a6X r i) f
    |none=>([],190)
  |none=>([],4)
theorem d5a(m:Mo)(fn at':Int)(f:Fr):a2Q m fn at' f=d3O m fn at' f:=by
 unfold a2Q d3O
 by_cases h:(F5 m fn).2≠0
 ·rw[if_pos h,if_pos h]
 rw[if_neg h,if_neg h]
 cases m.funcs[fn.toNat]? with
 |none=>rfl
 |some r=>
  show b7K m r at' f=_
  unfold b7K
  show _=if b1b m r f=false then _ else _
  by_cases h:b1b m r f=false
  ·rw[if_pos h,if_pos h]
  rw[if_neg h,if_neg h]
  cases (b8H r).findIdx? (fun p=>decide (p=at')) with
  |none=>rfl
  |some i=>
   show(match (c2z r)[i]? with|some y=>b1N m r y (a6X r i) f|none=>([],190))=(match (c2z r)[i]? with|some y=>b9D m r y (a6X r i) f|none=>([],190))
   cases (c2z r)[i]? with
   |none=>rfl
   |some y=>exact d1a _ _ _ _ _
def a8R(code:List Int):Ro:=⟨[102],[1,5],[4],3,2,code⟩
def a7m(code:List Int):Mo:=⟨[],[],[a8R code]⟩
theorem c9X{code:List Int}(hb:∀b∈code,a0J b)(hl:code.length<1000):(a7m code).Fits:=by
 have hro:(a8R code).Ok:=by
  constructor
  ·simp[a8R]
  ·simp[a8R]
  ·simp[a8R]
  ·simp[a8R,I64]
  ·simp[a8R,I64]
  ·simp[a8R,I64]
  ·simp only[a8R];omega
  ·exact hb
 refine⟨⟨by simp[a7m],by simp[a7m],by simp[a7m], ?_, ?_, ?_⟩,by simp[a7m],by simp[a7m],by simp[a7m], ?_, ?_⟩
 ·intro t h;cases h
 ·intro t h;cases h
 ·intro r h;rcases List.mem_singleton.1 h with rfl;exact hro
 ·intro t h;cases h
 ·intro r h
  rcases List.mem_singleton.1 h with rfl
  refine⟨by simp[a8R],by simp[a8R], ?_⟩
  show code.length<_
  omega
section
variable{E:j3}{w0:j8}
theorem b8v{code:List Int}:U1 Try.prog E w0 a2S [bD code] (moD (a7m code)):=fun S=>by
 refine b5i ?_
 unfold b0P
 intro k a n
 rw[show m9 1 (List.replicate 2 [D.int .i64 0]) [(0, .int .i64 1),(1, .int .i64 5)]=some (iC [1,5]) from rfl]
 refine F3 rfl ?_
 rw[show m9 1 (List.replicate 1 [D.int .i64 0]) [(0, .int .i64 4)]=some (iC [4]) from rfl]
 refine F3 rfl ?_
 rw[show s0 [.str [], .nilSlc, .nilSlc, .int .i64 0, .int .i64 0, .nilSlc] [(0,1, .str [102]),(1,1,D.lst (iC [1,5]) 1),(2,1, .lst (iC [4]) 1),(3,1, .int .i64 3),(4,1, .int .i64 2),(5,1,bD code)]=some (K1 (a8R code)) from rfl,agS,oD,
  show m9 6 (List.replicate 1 [D.str [], .nilSlc, .nilSlc, .int .i64 0, .int .i64 0, .nilSlc]) [(0, .agg (K1 (a8R code)))]=some [K1 (a8R code)]from rfl]
 refine F3 rfl ?_
 rw[show s0 [D.nilSlc, .nilSlc, .nilSlc] [(2,1, .lst [K1 (a8R code)] 6)]=some [.nilSlc, .nilSlc, .lst [K1 (a8R code)] 6]from rfl,agS,oD]
 refine(u7.new (sz:=3) (c:=[.nilSlc, .nilSlc, .nilSlc])).st (ds:=[.nilSlc, .nilSlc, .lst [K1 (a8R code)] 6]) (Q8 _) ⟨rfl,by decide,by decide⟩ fun c'=> ?_
 rw[b8.set_set]
 have ck:u7 (S.set k ⟨3,[j9 [D.nilSlc, .nilSlc, .nilSlc] 0 [.nilSlc, .nilSlc, .lst [K1 (a8R code)] 6]],c'⟩) k 3 [.nilSlc, .nilSlc, .lst [K1 (a8R code)] 6]:=u7.new
 rw[ck.all (n:=3) (by decide) rfl,oD]
 refine i4.less (b8.le_new n) (i4.weak (d':=moD (a7m code)) (Wk.agg ⟨Wk.nil _,Wk.nil _,Wk.refl _,trivial⟩) (i4.here ⟨rfl,rfl⟩))
theorem b1v{m:Mo}(hm:m.Ok){f:Fr}{S:b8}:l8 Try.prog E w0 a3I [moD m,frD f] S fun d S'=>S'=S∧∃b:Bool,d= .bool b∧(b=false→m.Small 10000∧f.locals.length≤2000∧f.stack.length≤2000):=by
 refine b7t ?_
 unfold b3u
 refine d1p fun ka a na=> ?_
 have ca:u7 (S.set ka ⟨3,[K5 m],a⟩) ka 3 (K5 m):=u7.new
 have l1:S.le (S.set ka ⟨3,[K5 m],a⟩):=b8.le_new na
 generalize (S.set ka ⟨3,[K5 m],a⟩)=T at ca l1
 refine d3I fun kf b nb=> ?_
 have ca:=ca.set (o:=⟨2,[frC f],b⟩) nb
 have cf:u7 (T.set kf ⟨2,[frC f],b⟩) kf 2 (frC f):=u7.new
 have l1:=b8.le_trans l1 (b8.le_new (o:=⟨2,[frC f],b⟩) nb)
 generalize (T.set kf ⟨2,[frC f],b⟩)=T at ca cf l1
 rw[ca.all (n:=3) (by decide) rfl,oD]
 refine l8.use (show l8 Try.prog E w0 a8Q [moD m, .int .i64 10000] T _ from c7r hm (N:=10000) (by decide)) ?_
 rintro d S' ⟨rfl,bk,rfl,hbk⟩
 have f0:c9 S' (.ptr kf 0)=some (iD f.locals):=cf.ld 0
 have f1:c9 S' (.ptr kf 1)=some (iD f.stack):=cf.ld 1
 rw[a6n,oD]
 by_cases c1:bk>10000
 ·simp only[decide_eq_true c1,K7,t1,vdF,oD,L7,if_true]
  exact i4.less l1 (i4.here ⟨rfl,true,rfl,fun h=>by cases h⟩)
 simp only[decide_eq_false c1,K7,t2,vdT,oD,D8,Nat.zero_add,f0,Y7,a6n,L7,Bool.false_eq_true,if_false]
 by_cases c2:(f.locals.length:Int)>2000
 ·simp only[decide_eq_true c2,K7,t1,vdF,oD,L7,if_true]
  exact i4.less l1 (i4.here ⟨rfl,true,rfl,fun h=>by cases h⟩)
 simp only[decide_eq_false c2,K7,t2,vdT,oD,D8,Nat.zero_add,f1,Y7,a6n,L7,Bool.false_eq_true,if_false]
 refine i4.less l1 (i4.here ⟨rfl,_,rfl,fun h=>⟨hbk (by simpa using c1),by omega, ?_⟩⟩)
 have:=of_decide_eq_false h
 omega
theorem b4k:U1 Try.prog E w0 U3 [] (.bool true):=fun S=>by
 refine b6L ?_
 unfold b3i
 rw[show m9 1 (List.replicate 2 [D.int .u8 0]) [(0, .int .u8 4),(1, .int .u8 51)]=some (C6 ([4,51].map (D.int .u8))) from rfl]
 refine F3 rfl ?_
 refine(show l8 Try.prog E w0 a2S [bD [4,51]] S _ from b8v.use ?_)
 intro k a n
 refine(u7.new (sz:=3) (c:=[.nilSlc, .nilSlc, .nilSlc])).st (ds:=K5 (a7m [4,51])) (Q8 _) ⟨rfl,by decide,by decide⟩ fun c'=> ?_
 rw[b8.set_set,show j9 [D.nilSlc, .nilSlc, .nilSlc] 0 (K5 (a7m [4,51]))=K5 (a7m [4,51]) from rfl]
 have ck:u7 (S.set k ⟨3,[K5 (a7m [4,51])],c'⟩) k 3 (K5 (a7m [4,51])):=u7.new
 have l1:S.le (S.set k ⟨3,[K5 (a7m [4,51])],c'⟩):=b8.le_new n
 generalize (S.set k ⟨3,[K5 (a7m [4,51])],c'⟩)=T at ck l1
 rw[ck.all (n:=3) (by decide) rfl,oD]
 have hfit:(a7m [4,51]).Fits:=c9X (by simp[a0J]) (by decide)
 refine(show l8 Try.prog E w0 N6 [moD (a7m [4,51]), .int .i64 0] T _ from(a7c hfit (by simp[I64])).use ?_)
 have hfst:F5 (a7m [4,51]) 0=(⟨[1,5,0],[]⟩,0):=by kernel_rfl
 have hstp:a2Q (a7m [4,51]) 0 0 ⟨[1,5,0],[]⟩=([(1,⟨[1,5,0],[4]⟩)],0):=by rw[d5a];kernel_rfl
 rw[hfst]
 unfold b4b
 simp only[exD,List.getElem?_cons_zero,List.getElem?_cons_succ,oD]
 intro k2 a2 n2
 refine(u7.new (sz:=2) (c:=[.nilSlc, .nilSlc])).st (ds:=frC ⟨[1,5,0],[]⟩) (Q8 _) ⟨rfl,by decide,by decide⟩ fun c2=> ?_
 rw[b8.set_set,show j9 [D.nilSlc, .nilSlc] 0 (frC ⟨[1,5,0],[]⟩)=frC ⟨[1,5,0],[]⟩from rfl]
 have ck:=ck.set (o:=⟨2,[frC ⟨[1,5,0],[]⟩],c2⟩) n2
 have cf:u7 (T.set k2 ⟨2,[frC ⟨[1,5,0],[]⟩],c2⟩) k2 2 (frC ⟨[1,5,0],[]⟩):=u7.new
 have l1:=b8.le_trans l1 (b8.le_new (o:=⟨2,[frC ⟨[1,5,0],[]⟩],c2⟩) n2)
 generalize (T.set k2 ⟨2,[frC ⟨[1,5,0],[]⟩],c2⟩)=T at ck cf l1
 rw[ck.all (n:=3) (by decide) rfl,oD,cf.all (n:=2) (by decide) rfl,oD]
 refine(show l8 Try.prog E w0 L2 [moD (a7m [4,51]), .int .i64 0, .int .i64 0,frD ⟨[1,5,0],[]⟩] T _ from(a3m hfit (by simp[I64]) ⟨by decide,by decide,by simp[I64]⟩).use ?_)
 rw[hstp]
 unfold b4y
 simp only[exD,List.getElem?_cons_zero,List.getElem?_cons_succ,oD,U6,decide_true,K7,t4,vdT,L7,if_true]
 rw[show m8 (b0o [(1,⟨[1,5,0],[4]⟩)])=some (.int .i64 1) from rfl]
 simp only[oD,U6,decide_true,K7,t4,vdT,L7,if_true]
 have ei:o7 3 (b0o [(1,⟨[1,5,0],[4]⟩)]) (.int .i64 0)=some (.elt (edR (1,⟨[1,5,0],[4]⟩)) 0):=rfl
 have e0:∀T:b8,c9 T (.elt (edR (1,⟨[1,5,0],[4]⟩)) 0)=some (.int .i64 1):=fun _=>rfl
 have e1:∀T:b8,c9 T (.elt (edR (1,⟨[1,5,0],[4]⟩)) 1)=some (iD [1,5,0]):=fun _=>rfl
 have e2:∀T:b8,c9 T (.elt (edR (1,⟨[1,5,0],[4]⟩)) 2)=some (iD [4]):=fun _=>rfl
 simp only[oD,ofE,Nat.zero_add,Nat.add_zero,ei,e0,e1,U6,decide_true,K7,t4,vdT,L7,if_true,gdT]
 rw[show m9 1 (List.replicate 3 [D.int .i64 0]) [(0, .int .i64 1),(1, .int .i64 5),(2, .int .i64 0)]=some (iC [1,5,0]) from rfl]
 refine F3 (rows:=iC [1,5,0]) (len:=3) rfl ?_
 refine(show l8 Try.prog E w0 V6 [iD [1,5,0],iD [1,5,0]] T _ from(a9I (by decide) (by decide)).use ?_)
 simp only[oD,ofE,decide_true,K7,t4,vdT,L7,if_true,gdT,Nat.zero_add,Nat.reduceAdd,ei,e2]
 rw[show m9 1 (List.replicate 1 [D.int .i64 0]) [(0, .int .i64 4)]=some (iC [4]) from rfl]
 refine F3 (rows:=iC [4]) (len:=1) rfl ?_
 refine(show l8 Try.prog E w0 V6 [iD [4],iD [4]] T _ from(a9I (by decide) (by decide)).use ?_)
 simp only[oD,decide_true,L7,if_true]
 exact i4.less l1 (i4.here ⟨rfl,rfl⟩)
end
end
section
set_option linter.unusedSectionVars false
theorem a7H{r:Ro}{f:Fr}{news:List Int}:(a9H r f news).1.stack.length=f.stack.length+news.length:=by
 unfold a9H;simp
theorem d4K{m:Mo}{r:Ro}{y:In}{f g:Fr}(he:f.stack.length=g.stack.length)(hf:(doS m r y f).2=0)(hg:(doS m r y g).2=0):(doS m r y f).1.stack.length=(doS m r y g).1.stack.length:=by
 unfold doS at hf hg ⊢
 rw[he]at hf ⊢
 by_cases c1:y.op=51∧r.results.length<g.stack.length
 ·rw[if_pos c1]at hf;cases hf
 rw[if_neg c1]at hf hg ⊢
 rw[if_neg c1]
 generalize (if y.op=51 then r.results else(s9 y m).1)=tk at hf hg ⊢
 by_cases c2:g.stack.length<tk.length
 ·rw[if_pos c2]at hf;cases hf
 rw[if_neg c2]at hf hg ⊢
 rw[if_neg c2]
 by_cases c3:b3q tk (f.stack.drop (g.stack.length - tk.length)) (decide (y.op=9))=false
 ·rw[if_pos c3]at hf;cases hf
 by_cases c3':b3q tk (g.stack.drop (g.stack.length - tk.length)) (decide (y.op=9))=false
 ·rw[if_pos c3']at hg;cases hg
 rw[if_neg c3]at hf ⊢
 rw[if_neg c3']at hg ⊢
 by_cases c4:y.op=7
 ·rw[if_pos c4]at hf hg ⊢
  rw[if_pos c4]
  by_cases c5:f.locals.getD y.a.toNat 0=0
  ·rw[if_pos c5]at hf;cases hf
  by_cases c5':g.locals.getD y.a.toNat 0=0
  ·rw[if_pos c5']at hg;cases hg
  rw[if_neg c5,if_neg c5',a7H,a7H]
  simp[he]
 rw[if_neg c4]at hf hg ⊢
 rw[if_neg c4]
 by_cases c5:y.op=8
 ·rw[if_pos c5,if_pos c5];simp[he]
 rw[if_neg c5,if_neg c5]
 by_cases c6:y.op=10
 ·rw[if_pos c6,if_pos c6,a7H,a7H];simp[he]
 rw[if_neg c6,if_neg c6,a7H,a7H]
 simp[he]
theorem c8a(y:In)(n:Int):(R5 y n).Pairwise (· < ·):=by
 unfold R5
 split
 ·exact List.Pairwise.nil
 ·split
  ·exact List.pairwise_singleton _ _
  ·exact(b5D _).1
theorem c0y{m:Mo}{fn at':Int}{f:Fr}(h:(a2Q m fn at' f).2=0):(0≤fn∧fn<m.funcs.length)∧∃r,m.funcs[fn.toNat]? =some r∧b1b m r f=true∧∃i y,(b8H r).findIdx? (fun p=>decide (p=at'))=some i∧(c2z r)[i]? =some y∧(doS m r y f).2=0∧(a2Q m fn at' f).1=(R5 y (a6X r i)).map fun t=>(t,(doS m r y f).1):=by
 unfold a2Q at h ⊢
 by_cases h0:(F5 m fn).2≠0
 ·rw[if_pos h0]at h;exact absurd h h0
 rw[if_neg h0]at h ⊢
 have hr:0≤fn∧fn<m.funcs.length:=by
  have hfst:(F5 m fn).2=0:=Classical.not_not.1 h0
  unfold F5 at hfst
  by_cases he:(a4D m).2≠0
  ·rw[if_pos he]at hfst;exact absurd hfst he
  rw[if_neg he]at hfst
  by_cases hx:fn<0∨(m.funcs.length:Int)≤fn
  ·rw[if_pos hx]at hfst;cases hfst
  omega
 refine⟨hr, ?_⟩
 cases hf:m.funcs[fn.toNat]? with
 |none=>rw[hf]at h;cases h
 |some r=>
  rw[hf]at h
  refine⟨r,rfl, ?_⟩
  simp only at h ⊢
  unfold b7K at h ⊢
  cases hm:b1b m r f with
  |false=>rw[if_pos hm]at h;cases h
  |true=>
   rw[if_neg (by simp[hm])]at h ⊢
   refine⟨rfl, ?_⟩
   cases hi:(b8H r).findIdx? (fun p=>decide (p=at')) with
   |none=>rw[hi]at h;cases h
   |some i=>
    rw[hi]at h
    simp only at h ⊢
    cases hy:(c2z r)[i]? with
    |none=>rw[hy]at h;cases h
    |some y=>
     rw[hy]at h
     simp only at h ⊢
     refine⟨i,y,rfl,hy, ?_⟩
     unfold b1N at h ⊢
     by_cases hd:(doS m r y f).2≠0
     ·rw[if_pos hd]at h;exact absurd h hd
     rw[if_neg hd]at h ⊢
     by_cases ha:((R5 y (a6X r i)).all fun t=>decide (t∈b8H r))=true
     ·rw[if_pos ha];exact⟨Classical.not_not.1 hd,rfl⟩
     ·rw[if_neg ha]at h;cases h
theorem c4E{l:List (Int×Fr)}{i:Nat}{e:Int×Fr}(h:l[i]? =some e):o7 3 (b0o l) (.int .i64 (i:Int))=some (.elt (edR e) 0):=b3J (by rw[List.getElem?_map,h];rfl)
@[simp] theorem c6o(l:List (Int×Fr)):m8 (b0o l)=some (.int .i64 l.length):=by simp[b0o]
structure Hts (m:Mo) (fn:Int) (r:Ro) (f p q:Fr) (to:List Int):Prop where
 rng:0≤fn∧fn<m.funcs.length
 ro:m.funcs[fn.toNat]? =some r
 pq:p.stack.length=q.stack.length
 pl:p.locals.length=f.locals.length
 ql:q.locals.length=f.locals.length
 st:(p.stack.length:Int)≤r.stack
 rise:to.Pairwise (· < ·)
 len:to.length<2^40
section
variable{E:j3}{w0:j8}
theorem c0t{T:b8}{A B:D}(hA:∀S',(∀j,T j≠none→S' j=T j)→o4 A T S')(hB:∀S',(∀j,T j≠none→S' j=T j)→o4 B T S'){g h:Fr}{K:D→D→b8→Prop}(hK:∀ka kb S',(∀ {k sz c},u7 T k sz c→u7 S' k sz c)→u7 S' ka 2 (frC g)→u7 S' kb 2 (frC h)→K (.ptr ka 0) (.ptr kb 0) S'):
  j6 T [.nilSlc, .nilSlc] fun v S1=>o4 A T S1∧o4 B T S1∧j6 S1 [.nilSlc, .nilSlc] fun v' S2=>o4 A T S2∧o4 B T S2∧i7 S2 2 v (frD g) fun _ S3=>o4 B T S3∧i7 S3 2 v' (frD h) fun _ S4=>K v v' S4:=by
 intro ka aa na
 have s1:∀j,T j≠none→(T.set ka ⟨2,[[.nilSlc, .nilSlc]],aa⟩) j=T j:=fun j hj=>b8.set_ne _ _ _ fun e=>hj (by rw[e];exact na)
 refine⟨hA _ s1,hB _ s1, ?_⟩
 intro kb ab nb
 have hab:ka≠kb:=(u7.new (sz:=2) (c:=[D.nilSlc, .nilSlc]) (a:=aa)).none nb
 have nb':T kb=none:=(b8.fresh nb).2
 have s2:∀o,∀j,T j≠none→((T.set ka ⟨2,[[.nilSlc, .nilSlc]],aa⟩).set kb o) j=T j:=fun o j hj=>by rw[b8.set_ne _ _ _ (fun e=>hj (by rw[e];exact nb'))];exact s1 j hj
 refine⟨hA _ (s2 _),hB _ (s2 _), ?_⟩
 refine((u7.new (sz:=2) (c:=[D.nilSlc, .nilSlc]) (a:=aa)).set nb).st (ds:=frC g) (Q8 _) ⟨rfl,by decide,by decide⟩ fun c=> ?_
 rw[show j9 [D.nilSlc, .nilSlc] 0 (frC g)=frC g from rfl]
 have s3:∀o o',∀j,T j≠none→(((T.set ka ⟨2,[[.nilSlc, .nilSlc]],aa⟩).set kb o).set ka o') j=T j:=fun o o' j hj=>by rw[b8.set_ne _ _ _ (fun e=>hj (by rw[e];exact na))];exact s2 o j hj
 refine⟨hB _ (s3 _ _), ?_⟩
 refine((u7.new (sz:=2) (c:=[D.nilSlc, .nilSlc]) (a:=ab)).set_ne (Ne.symm hab)).st (ds:=frC h) (Q8 _) ⟨rfl,by decide,by decide⟩ fun c2=> ?_
 rw[show j9 [D.nilSlc, .nilSlc] 0 (frC h)=frC h from rfl]
 refine hK ka kb _ (fun hc=> ?_) (u7.new.set_ne hab) u7.new
 refine hc.of ?_
 rw[b8.set_ne _ _ _ (hc.none nb')]
 exact s3 _ _ _ hc.there
theorem b7O{T:b8}{A B:D}(hA:∀S',(∀j,T j≠none→S' j=T j)→o4 A T S')(hB:∀S',(∀j,T j≠none→S' j=T j)→o4 B T S'){g h:Fr}{K:D→D→b8→Prop}(hK:∀ka kb S',(∀ {k sz c},u7 T k sz c→u7 S' k sz c)→u7 S' ka 2 (frC g)→u7 S' kb 2 (frC h)→K (.ptr ka 0) (.ptr kb 0) S'):
  j6 T [.nilSlc, .nilSlc] fun v' S1=>o4 A T S1∧o4 B T S1∧j6 S1 [.nilSlc, .nilSlc] fun v S2=>o4 A T S2∧o4 B T S2∧i7 S2 2 v (frD g) fun _ S3=>o4 B T S3∧i7 S3 2 v' (frD h) fun _ S4=>K v v' S4:=by
 intro kb ab nb
 have s1:∀j,T j≠none→(T.set kb ⟨2,[[.nilSlc, .nilSlc]],ab⟩) j=T j:=fun j hj=>b8.set_ne _ _ _ fun e=>hj (by rw[e];exact nb)
 refine⟨hA _ s1,hB _ s1, ?_⟩
 intro ka aa na
 have hab:kb≠ka:=(u7.new (sz:=2) (c:=[D.nilSlc, .nilSlc]) (a:=ab)).none na
 have na':T ka=none:=(b8.fresh na).2
 have s2:∀o,∀j,T j≠none→((T.set kb ⟨2,[[.nilSlc, .nilSlc]],ab⟩).set ka o) j=T j:=fun o j hj=>by rw[b8.set_ne _ _ _ (fun e=>hj (by rw[e];exact na'))];exact s1 j hj
 refine⟨hA _ (s2 _),hB _ (s2 _), ?_⟩
 refine(u7.new (sz:=2) (c:=[D.nilSlc, .nilSlc]) (a:=aa)).st (ds:=frC g) (Q8 _) ⟨rfl,by decide,by decide⟩ fun c=> ?_
 rw[b8.set_set,show j9 [D.nilSlc, .nilSlc] 0 (frC g)=frC g from rfl]
 refine⟨hB _ (s2 _), ?_⟩
 refine((u7.new (sz:=2) (c:=[D.nilSlc, .nilSlc]) (a:=ab)).set_ne hab).st (ds:=frC h) (Q8 _) ⟨rfl,by decide,by decide⟩ fun c2=> ?_
 rw[show j9 [D.nilSlc, .nilSlc] 0 (frC h)=frC h from rfl]
 refine hK ka kb _ (fun hc=> ?_) (u7.new.set_ne (Ne.symm hab)) u7.new
 refine hc.of ?_
 rw[b8.set_ne _ _ _ (hc.none nb)]
 exact s2 _ _ hc.there
theorem c6a{m:Mo}{fn:Int}{r:Ro}{f p q:Fr}{to:List Int}(H:Hts m fn r f p q to){k4 k9 k16 k17 i:Nat}{t:Int}(ht:to[i]? =some t){S:b8}(h4:u7 S k4 3 (K5 m))(h9:u7 S k9 2 (frC f))(h16:u7 S k16 2 (frC p))(h17:u7 S k17 2 (frC q)){N0:D→D→D→D→D→D→b8→Prop}{Q:D→b8→Prop}
  (hN:N0 (.int .i64 fn) (.ptr k4 0) (.ptr k9 0) (b0o (to.map fun t=>(t,p))) (b0o (to.map fun t=>(t,q))) (.int .i64 ((i:Int)+1)) S):
  F8 E w0 N0 Q (.int .i64 fn) (.ptr k4 0) (.ptr k9 0) (b0o (to.map fun t=>(t,p))) (b0o (to.map fun t=>(t,q))) (.int .i64 (i:Int)) (.ptr k16 0) (.ptr k17 0) S:=by
 refine a4f ?_
 unfold a0Z
 have hil:i<to.length:=(List.getElem?_eq_some_iff.1 ht).1
 have hlen:=H.len
 have ex:∀g:Fr,o7 3 (b0o (to.map fun t=>(t,g))) (.int .i64 (i:Int))=some (.elt (edR (t,g)) 0):=fun g=>c4E (by rw[List.getElem?_map,ht];rfl)
 have l0:∀g:Fr,c9 S (.elt (edR (t,g)) 0)=some (.int .i64 t):=fun g=>rfl
 have a0:c9 S (.ptr k16 0)=some (iD p.locals):=h16.ld 0
 have a1:c9 S (.ptr k16 1)=some (iD p.stack):=h16.ld 1
 have b0:c9 S (.ptr k17 0)=some (iD q.locals):=h17.ld 0
 have b1:c9 S (.ptr k17 1)=some (iD q.stack):=h17.ld 1
 have c0:c9 S (.ptr k9 0)=some (iD f.locals):=h9.ld 0
 have d2:c9 S (.ptr k4 2)=some (a5s m.funcs):=h4.ld 2
 have hro:o7 6 (a5s m.funcs) (.int .i64 fn)=some (.elt (K1 r) 0):=by
  have:=H.rng
  rw[show fn=((fn.toNat:Nat):Int) by omega];exact a9c H.ro
 have r4:c9 S (.elt (K1 r) 4)=some (.int .i64 r.stack):=rfl
 have e1:i5 .neq (.int .i64 (p.stack.length:Int)) (.int .i64 (q.stack.length:Int))=some (.bool false):=by rw[a1m,H.pq];simp
 have e2:i5 .neq (.int .i64 (p.locals.length:Int)) (.int .i64 (f.locals.length:Int))=some (.bool false):=by rw[a1m,H.pl];simp
 have e3:i5 .neq (.int .i64 (q.locals.length:Int)) (.int .i64 (f.locals.length:Int))=some (.bool false):=by rw[a1m,H.ql];simp
 have e4:decide ((p.stack.length:Int)>r.stack)=false:=decide_eq_false (by have:=H.st;omega)
 have e5:i5 .neq (.int .i64 t) (.int .i64 t)=some (.bool false):=by rw[a1m];simp
 simp only[ex,oD,ofE,D8,Nat.zero_add,Nat.add_zero,l0,e5,K7,t2,vdT,a1,b1,Y7,e1,L7,Bool.false_eq_true,if_false,a0,b0,c0,e2,e3,d2,hro,r4,a6n,e4]
 by_cases hi:0<i
 ·have e6:decide ((i:Int)>0)=true:=decide_eq_true (by omega)
  have hj:to[i - 1]? =some to[i - 1]:=List.getElem?_eq_getElem (by omega)
  have hlt:to[i - 1]<t:=by
   have:=List.pairwise_iff_getElem.1 H.rise (i - 1) i (by omega) hil (by omega)
   rw[(List.getElem?_eq_some_iff.1 ht).2]at this
   exact this
  generalize to[i - 1]=u at hj hlt
  have ej:o7 3 (b0o (to.map fun t=>(t,p))) (.int .i64 ((i - 1:Nat):Int))=some (.elt (edR (u,p)) 0):=c4E (by rw[List.getElem?_map,hj];rfl)
  have ew:IntKind.i64.wrap ((i:Int) - 1)=((i - 1:Nat):Int):=by rw[l7 (by omega) (by omega)];omega
  have l1:c9 S (.elt (edR (u,p)) 0)=some (.int .i64 u):=rfl
  have e7:decide (t≤u)=false:=decide_eq_false (by omega)
  simp only[e6,K7,t4,vdT,oD,ex,ofE,Nat.zero_add,Nat.add_zero,l0,b1l,ew,ej,l1,d0d,e7,L7,if_true,Bool.false_eq_true,if_false,cdF,D5]
  rw[l7 (by omega) (by omega)]
  exact hN
 ·have e6:decide ((i:Int)>0)=false:=decide_eq_false (by omega)
  simp only[e6,K7,t3,vdF,oD,L7,Bool.false_eq_true,if_false,cdF,D5]
  rw[l7 (by omega) (by omega)]
  exact hN
theorem d1B{m:Mo}{fn:Int}{r:Ro}{f p q:Fr}{to:List Int}(H:Hts m fn r f p q to){k4 k9:Nat}{S:b8}(h4:u7 S k4 3 (K5 m))(h9:u7 S k9 2 (frC f)):
  j2 Try.prog E w0 (.loop H3) (m6 173 [1,4,9,11,13,15] [(.int .i64 fn),(.ptr k4 0),(.ptr k9 0),(b0o (to.map fun t=>(t,p))),(b0o (to.map fun t=>(t,q))),(.int .i64 0)]) S (G8 E w0 (i4 E fun d _=>d= .bool true)):=by
 refine a4w (I:=fun n x1 x4 x9 x11 x13 x15 S'=>x1= .int .i64 fn∧x4= .ptr k4 0∧x9= .ptr k9 0∧x11=b0o (to.map fun t=>(t,p))∧x13=b0o (to.map fun t=>(t,q))∧∃i:Nat,x15= .int .i64 (i:Int)∧i+n=to.length∧u7 S' k4 3 (K5 m)∧u7 S' k9 2 (frC f)) ?_ (n:=to.length) ⟨rfl,rfl,rfl,rfl,rfl,0,rfl,by omega,h4,h9⟩
 rintro n _ _ _ _ _ _ T ⟨rfl,rfl,rfl,rfl,rfl,i,rfl,hi,h4,h9⟩
 unfold P3
 rw[c6o,oD,H6,oD,K0]
 refine⟨fun hlt=> ?_,fun _=>b4k.use (i4.here rfl)⟩
 have hlt:i<to.length:=by simpa using hlt
 have ht:to[i]? =some to[i]:=List.getElem?_eq_getElem hlt
 generalize to[i]=t at ht
 have ex:∀g:Fr,o7 3 (b0o (to.map fun t=>(t,g))) (.int .i64 (i:Int))=some (.elt (edR (t,g)) 0):=fun g=>c4E (by rw[List.getElem?_map,ht];rfl)
 have la:∀(S:b8) (g:Fr),i6 S 2 (.elt (edR (t,g)) 1)=some (frD g):=fun _ _=>rfl
 refine⟨?_, ?_⟩
 ·rw[ex p,oD,ofE,oD,la,oD,ex q,oD,ofE,oD,la,oD]
  exact c0t (A:= .elt (edR (t,p)) 1) (B:= .elt (edR (t,q)) 1) (fun _ _=>trivial) (fun _ _=>trivial) fun ka kb S' hc h1 h2=>c6a H ht (hc h4) (hc h9) h1 h2 ⟨n - 1,by omega,rfl,rfl,rfl,rfl,rfl,i+1,rfl,by omega,hc h4,hc h9⟩
 ·rw[ex p,oD,ofE,oD,la,oD,ex q,oD,ofE,oD,la,oD]
  exact b7O (A:= .elt (edR (t,p)) 1) (B:= .elt (edR (t,q)) 1) (fun _ _=>trivial) (fun _ _=>trivial) fun ka kb S' hc h1 h2=>c6a H ht (hc h4) (hc h9) h1 h2 ⟨n - 1,by omega,rfl,rfl,rfl,rfl,rfl,i+1,rfl,by omega,hc h4,hc h9⟩
theorem c5H{m:Mo}(hm:m.Ok){fn at':Int}(hfn:I64 fn){f g:Fr}(hf:∀n∈f.locals++f.stack,I64 n)(hg:∀n∈g.locals++g.stack,I64 n){k4 k9 k10:Nat}{S:b8}(h4:u7 S k4 3 (K5 m))(h9:u7 S k9 2 (frC f))(h10:u7 S k10 2 (frC g)):
  G7 E w0 (i4 E fun d _=>d= .bool true) (.int .i64 fn) (.int .i64 at') (.ptr k4 0) (.ptr k9 0) (.ptr k10 0) S:=by
 refine a4y ?_
 unfold a1p
 have a0:c9 S (.ptr k9 0)=some (iD f.locals):=h9.ld 0
 have a1:c9 S (.ptr k9 1)=some (iD f.stack):=h9.ld 1
 have b0:c9 S (.ptr k10 0)=some (iD g.locals):=h10.ld 0
 have b1:c9 S (.ptr k10 1)=some (iD g.stack):=h10.ld 1
 have d2:c9 S (.ptr k4 2)=some (a5s m.funcs):=h4.ld 2
 have qm:i6 S 3 (.ptr k4 0)=some (moD m):=h4.all (by decide) rfl
 have qf:i6 S 2 (.ptr k9 0)=some (frD f):=h9.all (by decide) rfl
 have qg:i6 S 2 (.ptr k10 0)=some (frD g):=h10.all (by decide) rfl
 have wk:∀T:b8,l8 Try.prog E w0 U3 [] T fun v _=>i4 E (fun d _=>d= .bool true) v T:=fun T=>b4k.use (i4.here rfl)
 have wk:∀T:b8,l8 Try.prog E w0 U3 [] T fun v T'=>i4 E (fun d _=>d= .bool true) v T':=fun T=>b4k.use (i4.here rfl)
 rw[qm,oD,qf,oD]
 refine(b1v hm (f:=f)).use ?_
 rintro d S' ⟨rfl,b,rfl,hb⟩
 cases b with
 |true=>
  simp only[K7,t1,vdF,gdF,oD,L7,if_true,cdT]
  exact wk _
 |false=>
 simp only[K7,t2,vdT,qm,qg,oD,gdT,L7,Bool.false_eq_true,if_false]
 refine(b1v hm (f:=g)).use ?_
 rintro d S' ⟨rfl,b,rfl,hb'⟩
 cases b with
 |true=>
  simp only[K7,t1,vdF,gdF,oD,L7,if_true,cdT]
  exact wk _
 |false=>
 obtain⟨hsm,hfl,hfs⟩:=hb rfl
 obtain⟨_,hgl,hgs⟩:=hb' rfl
 have fm:=Mo.Small.fits hm hsm (by decide)
 simp only[K7,t2,vdT,D8,Nat.zero_add,a0,b0,Y7,a1m,oD,L7,Bool.false_eq_true,if_false]
 by_cases c1:(f.locals.length:Int)=g.locals.length
 case neg=>
  simp only[ne_eq,c1,not_false_eq_true,decide_true,K7,t1,vdF,gdF,oD,L7,if_true,cdT]
  exact wk _
 have c1':decide ((f.locals.length:Int)≠g.locals.length)=false:=decide_eq_false (fun h=>h c1)
 simp only[c1',K7,t2,vdT,a1,b1,Y7,a1m,oD,L7,Bool.false_eq_true,if_false]
 by_cases c2:(f.stack.length:Int)=g.stack.length
 case neg=>
  simp only[ne_eq,c2,not_false_eq_true,decide_true,K7,t1,vdF,gdF,oD,L7,if_true,cdT]
  exact wk _
 have c2':decide ((f.stack.length:Int)≠g.stack.length)=false:=decide_eq_false (fun h=>h c2)
 simp only[c2',cdF,qm,qf,oD]
 refine(a3m fm hfn ⟨by omega,by omega,hf⟩).use ?_
 unfold b4y
 simp only[exD,List.getElem?_cons_zero,List.getElem?_cons_succ,oD,qm,qg]
 refine(show l8 Try.prog E w0 L2 [moD m, .int .i64 fn, .int .i64 at',frD g] S' _ from(a3m fm hfn ⟨by omega,by omega,hg⟩).use ?_)
 unfold b4y
 simp only[exD,List.getElem?_cons_zero,List.getElem?_cons_succ,oD,a1m]
 by_cases c3:(a2Q m fn at' f).2=0
 case neg=>
  simp only[ne_eq,c3,not_false_eq_true,decide_true,K7,t1,vdF,gdF,oD,L7,if_true,cdT]
  exact wk _
 have c3':decide ((a2Q m fn at' f).2≠0)=false:=decide_eq_false (fun h=>h c3)
 simp only[c3',K7,t2,vdT,oD,a1m,L7,Bool.false_eq_true,if_false]
 by_cases c4:(a2Q m fn at' g).2=0
 case neg=>
  simp only[ne_eq,c4,not_false_eq_true,decide_true,cdT]
  exact wk _
 have c4':decide ((a2Q m fn at' g).2≠0)=false:=decide_eq_false (fun h=>h c4)
 obtain⟨hr,r,hro,hmy,i,y,hi,hy,hd,he⟩:=c0y c3
 obtain⟨_,r',hro',hmy',i',y',hi',hy',hd',he'⟩:=c0y c4
 rw[hro]at hro'
 cases hro'
 rw[hi]at hi'
 cases hi'
 rw[hy]at hy'
 cases hy'
 rw[he,he']
 have e1:decide ((((R5 y (a6X r i)).map fun t=>(t,(doS m r y f).1)).length:Int)≠((R5 y (a6X r i)).map fun t=>(t,(doS m r y g).1)).length)=false:=by simp
 have e2:decide (fn<0)=false:=decide_eq_false (by omega)
 have e3:decide (fn≥(m.funcs.length:Int))=false:=decide_eq_false (by omega)
 simp only[c4',cdF,c6o,oD,a1m,e1,K7,t2,vdT,H6,e2,D8,Nat.zero_add,d2,a4p,a7X,e3,L7,Bool.false_eq_true,if_false]
 have hst:∀ {h:Fr},b1b m r h=true→(h.stack.length:Int)≤r.stack:=fun h=>by
  unfold b1b at h
  simp only[Bool.and_eq_true,decide_eq_true_eq]at h
  exact h.1.1.2
 have l1:=c7Z hd (hst hmy)
 have l2:=c7Z hd' (hst hmy')
 have hro0:=List.mem_of_getElem? hro
 have hmin:∃L,d1t m r L:=d1P (hm.ro r hro0).bytes (c7H (by
  have h0:(F5 m fn).2=0:=by
   by_cases h:(F5 m fn).2=0
   ·exact h
   ·unfold a2Q at c3;rw[if_pos h]at c3;exact c3
  unfold F5 at h0
  by_cases h:(a4D m).2=0
  ·exact h
  ·rw[if_pos h]at h0;exact h0) hro0)
 obtain⟨L,hL⟩:=hmin
 have hmem:y∈a2W L:=by rw[←hL.ins];exact List.mem_of_getElem? hy
 have harm:=c1d (hL.may y hmem)
 have:=c3t harm (a6X r i)
 exact d1B ⟨hr,hro,d4K (by omega) hd hd',by omega,by omega,by omega,c8a _ _,by omega⟩ h4 h9
def d6g(f g:Fr):D:= .agg (frC f++frC g)
theorem b1W{m:Mo}(hm:m.Ok){fn at':Int}(hfn:I64 fn){f g:Fr}(hf:∀n∈f.locals++f.stack,I64 n)(hg:∀n∈g.locals++g.stack,I64 n){S:b8}:l8 Try.prog E w0 a2a [moD m, .int .i64 fn, .int .i64 at',d6g f g] S fun d _=>d= .bool true:=by
 refine a6l ?_
 unfold a1W
 refine d1p fun ka a na=> ?_
 have ca:u7 (S.set ka ⟨3,[K5 m],a⟩) ka 3 (K5 m):=u7.new
 generalize (S.set ka ⟨3,[K5 m],a⟩)=T at ca
 rw[d6g,Q8,oD]
 intro kb b nb
 have ca:=ca.set (o:=⟨4,[frC f++frC g],b⟩) nb
 have cb:u7 (T.set kb ⟨4,[frC f++frC g],b⟩) kb 4 (frC f++frC g):=u7.new
 rw[show(frC f++frC g).length=4 from rfl]
 generalize (T.set kb ⟨4,[frC f++frC g],b⟩)=T at ca cb
 have i0:b0F 2 2 (.ptr kb 0) (.int .i64 0)=some (.ptr kb 0):=rfl
 have i1:b0F 2 2 (.ptr kb 0) (.int .i64 1)=some (.ptr kb 2):=rfl
 have q0:i6 T 2 (.ptr kb 0)=some (frD f):=cb.la ⟨by decide,by simp[frC]⟩
 have q1:i6 T 2 (.ptr kb 2)=some (frD g):=cb.la ⟨by decide,by simp[frC]⟩
 have fw:∀(i:Nat) (S':b8),(∀j,T j≠none→S' j=T j)→o4 (.ptr kb i) T S':=fun i S' h=>h kb cb.there
 refine⟨?_, ?_⟩
 ·rw[i0,oD,q0,oD,i1,oD,q1,oD]
  exact c0t (fw 0) (fw 2) fun k1 k2 S' hc h1 h2=>c5H hm hfn hf hg (hc ca) h1 h2
 ·rw[i0,oD,q0,oD,i1,oD,q1,oD]
  exact b7O (fw 0) (fw 2) fun k1 k2 S' hc h1 h2=>c5H hm hfn hf hg (hc ca) h1 h2
end
end
end Go.Proofs.Ytdkidgkiplcggaa.d
end
