/- A part of the proof of ImageWrites. -/
import Derived.Test.YtchnpgddpaonhaaGreatRows
import Derived.Test.YtchnpgddpaonhaaGreatWap
import Derived.KernelRfl
import Derived.Test.YtchnpgddpaonhaaGreatWbb
import Derived.Test.YtchnpgddpaonhaaGreatWax
set_option linter.unusedVariables false
set_option linter.unusedSimpArgs false
set_option maxRecDepth 100000
section
open Go.Proofs Go Go.Am
namespace Go.Proofs.YtchnpgddpaonhaaGreat.d
variable{E:j6}{w0:World}{x:Bool}{Q:D→b9→Prop}
def a5n:List (Nat×List Nat):=[(14,[2,3,5,8])]
def a5p:List (Nat×List Nat):=[(1000009,[]),(1000010,[])]
noncomputable def a4z:Code:=(j4 [1,1,1,1,0,1,0,0] (Tryz.f30.body.getD .skip))
def a3W(E:j6)(w0:World)(x:Bool)(Q:D→b9→Prop):o6→List D→b9→Prop:=
 (o8 0 (w6 Tryz.prog E w0 x a5n a5p (j4 [1,1,1,1,1] (Tryz.f30.body.getD .skip)) (z7 Tryz.prog Tryz.f30 Q)))
def a4a(E:j6)(w0:World)(x:Bool)(N0:D→D→D→D→b9→Prop)(Q:D→b9→Prop)(x2 x3 x5 x8:D)(S:b9):Prop:=
 b7 (l9 x5) fun v36=>
 b7 (i6 .lss x8 v36) fun v37=>
 j1 v37
 (b7 (p6 4 x5 x8) fun v38=>
 b7 (j2 S 4 v38) fun v39=>
 b7 (j2 S 3 x2) fun v40=>
 o9 Tryz.prog E w0 x a5A [v39,v40] S fun v41 S42=>
 b7 (o4 v41 0) fun v43=>
 b7 (o4 v41 1) fun v44=>
 b7 (o4 v41 2) fun v45=>
 b7 (i6 .neq v45 (.int .i64 0)) fun v46=>
 b7 (i4 (i0 v46 false) (some x5)) fun v47=>
 b7 (i4 (i0 v46 false) (some x8)) fun v48=>
 b7 (i4 (i0 v46 false) (p6 4 v47 v48)) fun v49=>
 b7 (i4 (i0 v46 false) (i5 0 v49)) fun v50=>
 b7 (i4 (i0 v46 false) (b8 S42 v50)) fun v51=>
 b7 (i4 (i0 v46 false) (i6 .eql v51 (.int .u8 7))) fun v52=>
 b7 (i4 (i0 v46 false) (some v52)) fun v53=>
 b7 (i4 (i0 v53 false) (some x5)) fun v54=>
 b7 (i4 (i0 v53 false) (some x8)) fun v55=>
 b7 (i4 (i0 v53 false) (p6 4 v54 v55)) fun v56=>
 b7 (i4 (i0 v53 false) (i5 0 v56)) fun v57=>
 b7 (i4 (i0 v53 false) (b8 S42 v57)) fun v58=>
 b7 (i4 (i0 v53 false) (i6 .eql v58 (.int .u8 8))) fun v59=>
 b7 (i4 (i0 v46 false) (o7 v53 (.bool true) v59)) fun v60=>
 b7 (i4 (i0 v46 false) (some v60)) fun v61=>
 b7 (i4 (i0 v61 true) (some x5)) fun v62=>
 b7 (i4 (i0 v61 true) (some x8)) fun v63=>
 b7 (i4 (i0 v61 true) (p6 4 v62 v63)) fun v64=>
 b7 (i4 (i0 v61 true) (i5 1 v64)) fun v65=>
 b7 (i4 (i0 v61 true) (b8 S42 v65)) fun v66=>
 b7 (i4 (i0 v61 true) (i5 3 x3)) fun v67=>
 b7 (i4 (i0 v61 true) (b8 S42 v67)) fun v68=>
 b7 (i4 (i0 v61 true) (i6 .geq v66 v68)) fun v69=>
 b7 (i4 (i0 v46 false) (o7 v61 v69 (.bool false))) fun v70=>
 b7 (o7 v46 (.bool true) v70) fun v71=>
 j1 v71
 (Q (.bool false) S42)
 (b7 (i6 .add x8 (.int .i64 1)) fun v72=>
 N0 x2 x3 x5 v72 S42))
 (Q (.bool true) S)
theorem b5T{N0:D→D→D→D→b9→Prop}{Q:D→b9→Prop}{x2 x3 x5 x8:D}{S:b9}(h:a4a E w0 x N0 Q x2 x3 x5 x8 S):
  j0 Tryz.prog E w0 x a4z (j9 90 [2,3,5,8] [x2,x3,x5,x8]) S (q8 (fun T S=>N0 (T.getD 2 d9) (T.getD 3 d9) (T.getD 5 d9) (T.getD 8 d9) S) (a3W E w0 x Q)):=j3 a5n a5p m7 (by kernel_rfl) h
theorem b6z(I:Nat→D→D→D→D→b9→Prop)
  (step:∀n x2 x3 x5 x8 S,I n x2 x3 x5 x8 S→a4a E w0 x (fun x2 x3 x5 x8 S=>∃m,m<n∧I m x2 x3 x5 x8 S) Q x2 x3 x5 x8 S)
  {n:Nat} {x2 x3 x5 x8:D} {S:b9} (h:I n x2 x3 x5 x8 S):j0 Tryz.prog E w0 x (.loop a4z) (j9 90 [2,3,5,8] [x2,x3,x5,x8]) S (a3W E w0 x Q):=
 o3 (k:=90) (n:=n) (I:=fun n T S=>I n (T.getD 2 d9) (T.getD 3 d9) (T.getD 5 d9) (T.getD 8 d9) S) (fun n T S hl hI=>o5 [2,3,5,8] hl (j0.mono (b5T (step n _ _ _ _ S hI)) fun ex T' S' _ hq=>by cases ex<;>exact hq)) (l8 ..) (Eq.mp (by kernel_rfl) h)
def b4v(E:j6)(w0:World)(x:Bool)(Q:D→b9→Prop)(a0 a1:D)(S:b9):Prop:=
 b7 (q6 a0) fun cs=>m8 S cs fun v0 S1=>
 b7 (q6 a1) fun cs=>m8 S1 cs fun v2 S3=>
 b7 (j2 S3 3 v0) fun v4=>
 b7 (i5 1 v2) fun v5=>
 b7 (b8 S3 v5) fun v6=>
 o9 Tryz.prog E w0 x b0H [v4,v6] S3 fun v7 S8=>
 b7 (unD .not v7) fun v9=>
 b7 (i4 (i0 v9 false) (j2 S8 3 v0)) fun v10=>
 b7 (i4 (i0 v9 false) (i5 2 v2)) fun v11=>
 b7 (i4 (i0 v9 false) (b8 S8 v11)) fun v12=>
 F7 (i0 v9 false) (fun K=>o9 Tryz.prog E w0 x b0H [v10,v12] S8 K) S8 fun v13 S14=>
 b7 (i4 (i0 v9 false) (unD .not v13)) fun v15=>
 b7 (o7 v9 (.bool true) v15) fun v16=>
 b7 (i4 (i0 v16 false) (i5 3 v2)) fun v17=>
 b7 (i4 (i0 v16 false) (b8 S14 v17)) fun v18=>
 b7 (i4 (i0 v16 false) (i5 1 v2)) fun v19=>
 b7 (i4 (i0 v16 false) (b8 S14 v19)) fun v20=>
 b7 (i4 (i0 v16 false) (l9 v20)) fun v21=>
 b7 (i4 (i0 v16 false) (i6 .lss v18 v21)) fun v22=>
 b7 (o7 v16 (.bool true) v22) fun v23=>
 b7 (i4 (i0 v23 false) (i5 4 v2)) fun v24=>
 b7 (i4 (i0 v23 false) (b8 S14 v24)) fun v25=>
 b7 (i4 (i0 v23 false) (i6 .lss v25 (.int .i64 0))) fun v26=>
 b7 (o7 v23 (.bool true) v26) fun v27=>
 j1 v27
 (Q (.bool false) S14)
 (b7 (i5 5 v2) fun v28=>
 b7 (b8 S14 v28) fun v29=>
 o9 Tryz.prog E w0 x b7d [v29] S14 fun v30 S31=>
 b7 (o4 v30 0) fun v32=>
 b7 (o4 v30 1) fun v33=>
 b7 (o4 v30 2) fun v34=>
 b7 (i6 .neq v34 (.int .i64 0)) fun v35=>
 j1 v35
 (Q (.bool false) S31)
 (j0 Tryz.prog E w0 x (.loop a4z) (j9 90 [2,3,5,8] [v0,v2,v32,(.int .i64 0)]) S31 (a3W E w0 x Q)))
theorem b9I{a0 a1:D}{S:b9}(h:b4v E w0 x (i9 E Q) a0 a1 S):o9 Tryz.prog E w0 x a2D [a0,a1] S Q:=
 l7 a5n a5p (fn:=Tryz.f30) (c:=Tryz.f30.body.getD .skip) m7 Tryz.func30 (by kernel_rfl) (by kernel_rfl) h
def t9:List (Nat×List Nat):=[(6,[1,3,4]),(20,[1,3,4,5,6]),(42,[1,3,7]),(50,[1,3,8]),(60,[1,3,8,9,10]),(68,[1,3,8,9,11])]
def s9:List (Nat×List Nat):=[(32,[1,3,4,5]),(36,[1,3,4])]
noncomputable def c6a:Code:=(j4 [1,1,0,1,0,0,1,0,0,1,1,1,1] (Tryz.f31.body.getD .skip))
def c3i(E:j6)(w0:World)(x:Bool)(N0:D→D→D→b9→Prop)(Q:D→b9→Prop):o6→List D→b9→Prop:=
 (o8 1 (w6 Tryz.prog E w0 x t9 s9 (j4 [1,1,0,1,0,0,1,1] (Tryz.f31.body.getD .skip)) (q8 (fun T S=>N0 (T.getD 1 d9) (T.getD 3 d9) (T.getD 4 d9) S) (o8 0 (w6 Tryz.prog E w0 x t9 s9 (j4 [1,1,1] (Tryz.f31.body.getD .skip)) (z7 Tryz.prog Tryz.f31 Q))))))
def b4B(E:j6)(w0:World)(x:Bool)(N0:D→D→D→b9→Prop)(Q:D→b9→Prop)(x1 x3 x4:D)(S:b9):Prop:=
 b7 (i6 .gtr x3 (.int .i64 2097152)) fun v32=>
 j1 v32
 (Q x3 S)
 (b7 (i6 .add x4 (.int .i64 1)) fun v33=>
 N0 x1 x3 v33 S)
def a2G(E:j6)(w0:World)(x:Bool)(N0:D→D→D→b9→Prop)(Q:D→b9→Prop)(x1 x3 x4:D)(S:b9):Prop:=j0 Tryz.prog E w0 x c6a (j9 221 [1,3,4] [x1,x3,x4]) S (c3i E w0 x N0 Q)
theorem b9J{N0:D→D→D→b9→Prop}{Q:D→b9→Prop}{x1 x3 x4:D}{S:b9}(h:b4B E w0 x N0 Q x1 x3 x4 S):a2G E w0 x N0 Q x1 x3 x4 S:=j3 t9 s9 m7 (by kernel_rfl) h
noncomputable def b4D:Code:=(j4 [1,1,0,1,0,0,1,0,0,1,1,1] (Tryz.f31.body.getD .skip))
def c4c(E:j6)(w0:World)(x:Bool)(N0:D→D→D→b9→Prop)(Q:D→b9→Prop):o6→List D→b9→Prop:=
 (o8 1 (w6 Tryz.prog E w0 x t9 s9 (j4 [1,1,0,1,0,0,1,1] (Tryz.f31.body.getD .skip)) (q8 (fun T S=>N0 (T.getD 1 d9) (T.getD 3 d9) (T.getD 4 d9) S) (o8 0 (w6 Tryz.prog E w0 x t9 s9 (j4 [1,1,1] (Tryz.f31.body.getD .skip)) (z7 Tryz.prog Tryz.f31 Q))))))
def b4l(E:j6)(w0:World)(x:Bool)(N0:D→D→D→b9→Prop)(Q:D→b9→Prop)(x1 x3 x4 x5:D)(S:b9):Prop:=
 b7 (i5 0 x5) fun v34=>
 b7 (b8 S v34) fun v35=>
 b7 (i6 .eql v35 (.int .u8 7)) fun v36=>
 j1 v36
 (b7 (i5 4 x5) fun v37=>
 b7 (b8 S v37) fun v38=>
 o9 Tryz.prog E w0 x u4 [v38] S fun v39 S40=>
 b7 (i6 .add x3 v39) fun v41=>
 a2G E w0 x N0 Q x1 v41 x4 S40)
 (a2G E w0 x N0 Q x1 x3 x4 S)
def a2C(E:j6)(w0:World)(x:Bool)(N0:D→D→D→b9→Prop)(Q:D→b9→Prop)(x1 x3 x4 x5:D)(S:b9):Prop:=j0 Tryz.prog E w0 x b4D (j9 221 [1,3,4,5] [x1,x3,x4,x5]) S (c4c E w0 x N0 Q)
theorem b9Z{N0:D→D→D→b9→Prop}{Q:D→b9→Prop}{x1 x3 x4 x5:D}{S:b9}(h:b4l E w0 x N0 Q x1 x3 x4 x5 S):a2C E w0 x N0 Q x1 x3 x4 x5 S:=j3 t9 s9 m7 (by kernel_rfl) h
noncomputable def a9b:Code:=(j4 [1,1,0,1,0,0,1,0,0,1,1,0,1,0,1,1,0,0] (Tryz.f31.body.getD .skip))
def a8U(E:j6)(w0:World)(x:Bool)(N0:D→D→D→b9→Prop)(Q:D→b9→Prop):o6→List D→b9→Prop:=
 (o8 2 (d9U Tryz.prog E w0 x 221 [1,3,4,5] b4D (o8 1 (w6 Tryz.prog E w0 x t9 s9 (j4 [1,1,0,1,0,0,1,1] (Tryz.f31.body.getD .skip)) (q8 (fun T S=>N0 (T.getD 1 d9) (T.getD 3 d9) (T.getD 4 d9) S) (o8 0 (w6 Tryz.prog E w0 x t9 s9 (j4 [1,1,1] (Tryz.f31.body.getD .skip)) (z7 Tryz.prog Tryz.f31 Q))))))))
def a8F(E:j6)(w0:World)(x:Bool)(N0:D→D→D→b9→Prop)(N1:D→D→D→D→D→b9→Prop)(Q:D→b9→Prop)(x1 x3 x4 x5 x6:D)(S:b9):Prop:=
 b7 (i5 2 x5) fun v61=>
 b7 (b8 S v61) fun v62=>
 b7 (l9 v62) fun v63=>
 b7 (i6 .lss x6 v63) fun v64=>
 j1 v64
 (b7 (i5 2 x5) fun v65=>
 b7 (b8 S v65) fun v66=>(True)∧
 b7 (p6 2 v66 x6) fun v67=>
 b7 (i5 0 v67) fun v68=>
 b7 (b8 S v68) fun v69=>(True)∧
 b7 (J3 v69) fun v70=>(True)∧
 DF E (J6 Tryz.prog E w0) u4 [v70] S fun v71 S72=>(True)∧
 b7 (i6 .add x3 v71) fun v73=>
 b7 (i5 2 x5) fun v74=>
 b7 (b8 S72 v74) fun v75=>((b8 S (j5 (i5 2 x5))≠none∧p7 (j5 (i5 2 x5)) S S72)∧True)∧
 b7 (p6 2 v75 x6) fun v76=>
 b7 (i5 0 v76) fun v77=>
 b7 (b8 S72 v77) fun v78=>((b8 S (j5 (i5 0 (j5 (p6 2 (j5 (b8 S (j5 (i5 2 x5)))) (j5 (some x6))))))≠none∧p7 (j5 (i5 0 (j5 (p6 2 (j5 (b8 S (j5 (i5 2 x5)))) (j5 (some x6)))))) S S72)∧True)∧
 b7 (J3 v78) fun v79=>((J3 (j5 (b8 S (j5 (i5 0 (j5 (p6 2 (j5 (b8 S (j5 (i5 2 x5)))) (j5 (some x6))))))))≠none∧True)∧True)∧
 b7 (i6 .add v73 v79) fun v80=>
 b7 (i5 2 x5) fun v81=>
 b7 (b8 S72 v81) fun v82=>((b8 S (j5 (i5 2 x5))≠none∧p7 (j5 (i5 2 x5)) S S72)∧True)∧
 b7 (p6 2 v82 x6) fun v83=>
 b7 (i5 1 v83) fun v84=>
 b7 (b8 S72 v84) fun v85=>((b8 S (j5 (i5 1 (j5 (p6 2 (j5 (b8 S (j5 (i5 2 x5)))) (j5 (some x6))))))≠none∧p7 (j5 (i5 1 (j5 (p6 2 (j5 (b8 S (j5 (i5 2 x5)))) (j5 (some x6)))))) S S72)∧True)∧
 DF E (J6 Tryz.prog E w0) u4 [v85] S72 fun v86 S87=>(p7 v74 S72 S87∧p7 v77 S72 S87∧True∧True)∧
 b7 (i6 .add v80 v86) fun v88=>
 b7 (i6 .gtr v88 (.int .i64 2097152)) fun v89=>
 j1 v89
 (Q v88 S87)
 (b7 (i6 .add x6 (.int .i64 1)) fun v90=>
 N1 x1 v88 x4 x5 v90 S87))
 (a2C E w0 x N0 Q x1 x3 x4 x5 S)
theorem c0T{N0:D→D→D→b9→Prop}{N1:D→D→D→D→D→b9→Prop}{Q:D→b9→Prop}{x1 x3 x4 x5 x6:D}{S:b9}(h:a8F E w0 x N0 N1 Q x1 x3 x4 x5 x6 S):
  j0 Tryz.prog E w0 x a9b (j9 221 [1,3,4,5,6] [x1,x3,x4,x5,x6]) S (q8 (fun T S=>N1 (T.getD 1 d9) (T.getD 3 d9) (T.getD 4 d9) (T.getD 5 d9) (T.getD 6 d9) S) (a8U E w0 x N0 Q)):=j3 t9 s9 m7 (by kernel_rfl) h
theorem c0g{N0:D→D→D→b9→Prop}{Q:D→b9→Prop}(I:Nat→D→D→D→D→D→b9→Prop)
  (step:∀n x1 x3 x4 x5 x6 S,I n x1 x3 x4 x5 x6 S→a8F E w0 x N0 (fun x1 x3 x4 x5 x6 S=>∃m,m<n∧I m x1 x3 x4 x5 x6 S) Q x1 x3 x4 x5 x6 S)
  {n:Nat} {x1 x3 x4 x5 x6:D} {S:b9} (h:I n x1 x3 x4 x5 x6 S):j0 Tryz.prog E w0 x (.loop a9b) (j9 221 [1,3,4,5,6] [x1,x3,x4,x5,x6]) S (a8U E w0 x N0 Q):=
 o3 (k:=221) (n:=n) (I:=fun n T S=>I n (T.getD 1 d9) (T.getD 3 d9) (T.getD 4 d9) (T.getD 5 d9) (T.getD 6 d9) S) (fun n T S hl hI=>o5 [1,3,4,5,6] hl (j0.mono (c0T (step n _ _ _ _ _ S hI)) fun ex T' S' _ hq=>by cases ex<;>exact hq)) (l8 ..) (Eq.mp (by kernel_rfl) h)
noncomputable def a8D:Code:=(j4 [1,1,1,1,0,1,0,0,1,0,0,1,1,1,1,0,0] (Tryz.f31.body.getD .skip))
def a7H(E:j6)(w0:World)(x:Bool)(N3:D→D→D→b9→Prop)(Q:D→b9→Prop):o6→List D→b9→Prop:=
 (o8 10 (o8 7 (w6 Tryz.prog E w0 x t9 s9 (j4 [1,1,1,1,0,1,0,0,1,1] (Tryz.f31.body.getD .skip)) (q8 (fun T S=>N3 (T.getD 1 d9) (T.getD 3 d9) (T.getD 8 d9) S) (o8 6 (w6 Tryz.prog E w0 x t9 s9 (j4 [1,1,1,1,1] (Tryz.f31.body.getD .skip)) (z7 Tryz.prog Tryz.f31 Q)))))))
def a9G(E:j6)(w0:World)(x:Bool)(N3:D→D→D→b9→Prop)(N5:D→D→D→D→D→b9→Prop)(Q:D→b9→Prop)(x1 x3 x8 x9 x11:D)(S:b9):Prop:=
 b7 (i5 2 x9) fun v187=>
 b7 (b8 S v187) fun v188=>
 b7 (l9 v188) fun v189=>
 b7 (i6 .lss x11 v189) fun v190=>
 j1 v190
 (b7 (i5 2 x9) fun v191=>
 b7 (b8 S v191) fun v192=>
 b7 (p6 1 v192 x11) fun v193=>
 b7 (b8 S v193) fun v194=>
 o9 Tryz.prog E w0 x u4 [v194] S fun v195 S196=>
 b7 (i6 .add x3 v195) fun v197=>
 b7 (i6 .add x11 (.int .i64 1)) fun v198=>
 N5 x1 v197 x8 x9 v198 S196)
 (b7 (i6 .add x8 (.int .i64 1)) fun v199=>
 N3 x1 x3 v199 S)
theorem c1J{N3:D→D→D→b9→Prop}{N5:D→D→D→D→D→b9→Prop}{Q:D→b9→Prop}{x1 x3 x8 x9 x11:D}{S:b9}(h:a9G E w0 x N3 N5 Q x1 x3 x8 x9 x11 S):
  j0 Tryz.prog E w0 x a8D (j9 221 [1,3,8,9,11] [x1,x3,x8,x9,x11]) S (q8 (fun T S=>N5 (T.getD 1 d9) (T.getD 3 d9) (T.getD 8 d9) (T.getD 9 d9) (T.getD 11 d9) S) (a7H E w0 x N3 Q)):=j3 t9 s9 m7 (by kernel_rfl) h
theorem c0F{N3:D→D→D→b9→Prop}{Q:D→b9→Prop}(I:Nat→D→D→D→D→D→b9→Prop)
  (step:∀n x1 x3 x8 x9 x11 S,I n x1 x3 x8 x9 x11 S→a9G E w0 x N3 (fun x1 x3 x8 x9 x11 S=>∃m,m<n∧I m x1 x3 x8 x9 x11 S) Q x1 x3 x8 x9 x11 S)
  {n:Nat} {x1 x3 x8 x9 x11:D} {S:b9} (h:I n x1 x3 x8 x9 x11 S):j0 Tryz.prog E w0 x (.loop a8D) (j9 221 [1,3,8,9,11] [x1,x3,x8,x9,x11]) S (a7H E w0 x N3 Q):=
 o3 (k:=221) (n:=n) (I:=fun n T S=>I n (T.getD 1 d9) (T.getD 3 d9) (T.getD 8 d9) (T.getD 9 d9) (T.getD 11 d9) S) (fun n T S hl hI=>o5 [1,3,8,9,11] hl (j0.mono (c1J (step n _ _ _ _ _ S hI)) fun ex T' S' _ hq=>by cases ex<;>exact hq)) (l8 ..) (Eq.mp (by kernel_rfl) h)
noncomputable def a8V:Code:=(j4 [1,1,1,1,0,1,0,0,1,0,0,1,1,0,1,0,0] (Tryz.f31.body.getD .skip))
def a9l(E:j6)(w0:World)(x:Bool)(N3:D→D→D→b9→Prop)(Q:D→b9→Prop):o6→List D→b9→Prop:=
 (o8 8 (w6 Tryz.prog E w0 x t9 s9 (j4 [1,1,1,1,0,1,0,0,1,0,0,1,1,1] (Tryz.f31.body.getD .skip)) (o8 7 (w6 Tryz.prog E w0 x t9 s9 (j4 [1,1,1,1,0,1,0,0,1,1] (Tryz.f31.body.getD .skip)) (q8 (fun T S=>N3 (T.getD 1 d9) (T.getD 3 d9) (T.getD 8 d9) S) (o8 6 (w6 Tryz.prog E w0 x t9 s9 (j4 [1,1,1,1,1] (Tryz.f31.body.getD .skip)) (z7 Tryz.prog Tryz.f31 Q))))))))
def a8m(E:j6)(w0:World)(x:Bool)(N3:D→D→D→b9→Prop)(N4:D→D→D→D→D→b9→Prop)(Q:D→b9→Prop)(x1 x3 x8 x9 x10:D)(S:b9):Prop:=
 b7 (i5 1 x9) fun v175=>
 b7 (b8 S v175) fun v176=>
 b7 (l9 v176) fun v177=>
 b7 (i6 .lss x10 v177) fun v178=>
 j1 v178
 (b7 (i5 1 x9) fun v179=>
 b7 (b8 S v179) fun v180=>
 b7 (p6 1 v180 x10) fun v181=>
 b7 (b8 S v181) fun v182=>
 o9 Tryz.prog E w0 x u4 [v182] S fun v183 S184=>
 b7 (i6 .add x3 v183) fun v185=>
 b7 (i6 .add x10 (.int .i64 1)) fun v186=>
 N4 x1 v185 x8 x9 v186 S184)
 (j0 Tryz.prog E w0 x (.loop a8D) (j9 221 [1,3,8,9,11] [x1,x3,x8,x9,(.int .i64 0)]) S (a7H E w0 x N3 Q))
theorem c2a{N3:D→D→D→b9→Prop}{N4:D→D→D→D→D→b9→Prop}{Q:D→b9→Prop}{x1 x3 x8 x9 x10:D}{S:b9}(h:a8m E w0 x N3 N4 Q x1 x3 x8 x9 x10 S):
  j0 Tryz.prog E w0 x a8V (j9 221 [1,3,8,9,10] [x1,x3,x8,x9,x10]) S (q8 (fun T S=>N4 (T.getD 1 d9) (T.getD 3 d9) (T.getD 8 d9) (T.getD 9 d9) (T.getD 10 d9) S) (a9l E w0 x N3 Q)):=j3 t9 s9 m7 (by kernel_rfl) h
theorem c2l{N3:D→D→D→b9→Prop}{Q:D→b9→Prop}(I:Nat→D→D→D→D→D→b9→Prop)
  (step:∀n x1 x3 x8 x9 x10 S,I n x1 x3 x8 x9 x10 S→a8m E w0 x N3 (fun x1 x3 x8 x9 x10 S=>∃m,m<n∧I m x1 x3 x8 x9 x10 S) Q x1 x3 x8 x9 x10 S)
  {n:Nat} {x1 x3 x8 x9 x10:D} {S:b9} (h:I n x1 x3 x8 x9 x10 S):j0 Tryz.prog E w0 x (.loop a8V) (j9 221 [1,3,8,9,10] [x1,x3,x8,x9,x10]) S (a9l E w0 x N3 Q):=
 o3 (k:=221) (n:=n) (I:=fun n T S=>I n (T.getD 1 d9) (T.getD 3 d9) (T.getD 8 d9) (T.getD 9 d9) (T.getD 10 d9) S) (fun n T S hl hI=>o5 [1,3,8,9,10] hl (j0.mono (c2a (step n _ _ _ _ _ S hI)) fun ex T' S' _ hq=>by cases ex<;>exact hq)) (l8 ..) (Eq.mp (by kernel_rfl) h)
noncomputable def a4l:Code:=(j4 [1,1,1,1,0,1,0,0] (Tryz.f31.body.getD .skip))
def a4j(E:j6)(w0:World)(x:Bool)(Q:D→b9→Prop):o6→List D→b9→Prop:=
 (o8 6 (w6 Tryz.prog E w0 x t9 s9 (j4 [1,1,1,1,1] (Tryz.f31.body.getD .skip)) (z7 Tryz.prog Tryz.f31 Q)))
def a9g(E:j6)(w0:World)(x:Bool)(N3:D→D→D→b9→Prop)(Q:D→b9→Prop)(x1 x3 x8:D)(S:b9):Prop:=
 b7 (i5 2 x1) fun v118=>
 b7 (b8 S v118) fun v119=>
 b7 (l9 v119) fun v120=>
 b7 (i6 .lss x8 v120) fun v121=>
 b7 (i4 (i0 v121 true) (some x3)) fun v122=>
 b7 (i4 (i0 v121 true) (i6 .leq v122 (.int .i64 2097152))) fun v123=>
 b7 (o7 v121 v123 (.bool false)) fun v124=>
 j1 v124
 (b7 (i5 2 x1) fun v125=>
 b7 (b8 S v125) fun v126=>
 b7 (p6 6 v126 x8) fun v127=>
 b7 (j2 S 6 v127) fun v128=>
 m8 S [(.str []), .nilSlc, .nilSlc,(.int .i64 0),(.int .i64 0), .nilSlc] fun v129 S130=>
 j7 S130 6 v129 v128 fun v131 S132=>
 b7 (i5 0 v129) fun v133=>
 b7 (b8 S132 v133) fun v134=>(True)∧
 b7 (J3 v134) fun v135=>(True)∧
 DF E (J6 Tryz.prog E w0) u4 [v135] S132 fun v136 S137=>(True)∧
 b7 (i6 .add x3 v136) fun v138=>
 b7 (i5 0 v129) fun v139=>
 b7 (b8 S137 v139) fun v140=>((b8 S132 (j5 (i5 0 v129))≠none∧p7 (j5 (i5 0 v129)) S132 S137)∧True)∧
 b7 (J3 v140) fun v141=>((J3 (j5 (b8 S132 (j5 (i5 0 v129))))≠none∧True)∧True)∧
 b7 (i6 .add v138 v141) fun v142=>
 b7 (i5 1 v129) fun v143=>
 b7 (b8 S137 v143) fun v144=>((b8 S132 (j5 (i5 1 v129))≠none∧p7 (j5 (i5 1 v129)) S132 S137)∧True)∧
 b7 (l9 v144) fun v145=>((l9 (j5 (b8 S132 (j5 (i5 1 v129))))≠none∧True)∧True)∧
 DF E (J6 Tryz.prog E w0) u4 [v145] S137 fun v146 S147=>(p7 v139 S137 S147∧True∧True)∧
 b7 (i6 .add v142 v146) fun v148=>
 b7 (i5 2 v129) fun v149=>
 b7 (b8 S147 v149) fun v150=>((b8 S137 (j5 (i5 2 v129))≠none∧p7 (j5 (i5 2 v129)) S137 S147)∧(b8 S132 (j5 (i5 2 v129))≠none∧p7 (j5 (i5 2 v129)) S132 S147)∧True)∧
 b7 (l9 v150) fun v151=>((l9 (j5 (b8 S137 (j5 (i5 2 v129))))≠none∧True)∧(l9 (j5 (b8 S132 (j5 (i5 2 v129))))≠none∧True)∧True)∧
 DF E (J6 Tryz.prog E w0) u4 [v151] S147 fun v152 S153=>(p7 v139 S137 S153∧True∧True)∧
 b7 (i6 .add v148 v152) fun v154=>
 b7 (i5 3 v129) fun v155=>
 b7 (b8 S153 v155) fun v156=>((b8 S147 (j5 (i5 3 v129))≠none∧p7 (j5 (i5 3 v129)) S147 S153)∧(b8 S137 (j5 (i5 3 v129))≠none∧p7 (j5 (i5 3 v129)) S137 S153)∧(b8 S132 (j5 (i5 3 v129))≠none∧p7 (j5 (i5 3 v129)) S132 S153)∧True)∧
 DF E (J6 Tryz.prog E w0) u4 [v156] S153 fun v157 S158=>(p7 v139 S137 S158∧True∧True)∧
 b7 (i6 .add v154 v157) fun v159=>
 b7 (i5 4 v129) fun v160=>
 b7 (b8 S158 v160) fun v161=>((b8 S153 (j5 (i5 4 v129))≠none∧p7 (j5 (i5 4 v129)) S153 S158)∧(b8 S147 (j5 (i5 4 v129))≠none∧p7 (j5 (i5 4 v129)) S147 S158)∧(b8 S137 (j5 (i5 4 v129))≠none∧p7 (j5 (i5 4 v129)) S137 S158)∧(b8 S132 (j5 (i5 4 v129))≠none∧p7 (j5 (i5 4 v129)) S132 S158)∧True)∧
 DF E (J6 Tryz.prog E w0) u4 [v161] S158 fun v162 S163=>(p7 v139 S137 S163∧True∧True)∧
 b7 (i6 .add v159 v162) fun v164=>
 b7 (i5 5 v129) fun v165=>
 b7 (b8 S163 v165) fun v166=>((b8 S158 (j5 (i5 5 v129))≠none∧p7 (j5 (i5 5 v129)) S158 S163)∧(b8 S153 (j5 (i5 5 v129))≠none∧p7 (j5 (i5 5 v129)) S153 S163)∧(b8 S147 (j5 (i5 5 v129))≠none∧p7 (j5 (i5 5 v129)) S147 S163)∧(b8 S137 (j5 (i5 5 v129))≠none∧p7 (j5 (i5 5 v129)) S137 S163)∧(b8 S132 (j5 (i5 5 v129))≠none∧p7 (j5 (i5 5 v129)) S132 S163)∧True)∧
 b7 (l9 v166) fun v167=>((l9 (j5 (b8 S158 (j5 (i5 5 v129))))≠none∧True)∧(l9 (j5 (b8 S153 (j5 (i5 5 v129))))≠none∧True)∧(l9 (j5 (b8 S147 (j5 (i5 5 v129))))≠none∧True)∧(l9 (j5 (b8 S137 (j5 (i5 5 v129))))≠none∧True)∧(l9 (j5 (b8 S132 (j5 (i5 5 v129))))≠none∧True)∧True)∧
 DF E (J6 Tryz.prog E w0) u4 [v167] S163 fun v168 S169=>(p7 v139 S137 S169∧True∧True)∧
 b7 (i6 .add v164 v168) fun v170=>
 b7 (i5 5 v129) fun v171=>
 b7 (b8 S169 v171) fun v172=>((b8 S163 (j5 (i5 5 v129))≠none∧p7 (j5 (i5 5 v129)) S163 S169)∧(b8 S158 (j5 (i5 5 v129))≠none∧p7 (j5 (i5 5 v129)) S158 S169)∧(b8 S153 (j5 (i5 5 v129))≠none∧p7 (j5 (i5 5 v129)) S153 S169)∧(b8 S147 (j5 (i5 5 v129))≠none∧p7 (j5 (i5 5 v129)) S147 S169)∧(b8 S137 (j5 (i5 5 v129))≠none∧p7 (j5 (i5 5 v129)) S137 S169)∧(b8 S132 (j5 (i5 5 v129))≠none∧p7 (j5 (i5 5 v129)) S132 S169)∧True)∧
 b7 (l9 v172) fun v173=>((l9 (j5 (b8 S163 (j5 (i5 5 v129))))≠none∧True)∧(l9 (j5 (b8 S158 (j5 (i5 5 v129))))≠none∧True)∧(l9 (j5 (b8 S153 (j5 (i5 5 v129))))≠none∧True)∧(l9 (j5 (b8 S147 (j5 (i5 5 v129))))≠none∧True)∧(l9 (j5 (b8 S137 (j5 (i5 5 v129))))≠none∧True)∧(l9 (j5 (b8 S132 (j5 (i5 5 v129))))≠none∧True)∧True)∧
 b7 (i6 .add v170 v173) fun v174=>
 j0 Tryz.prog E w0 x (.loop a8V) (j9 221 [1,3,8,9,10] [x1,v174,x8,v129,(.int .i64 0)]) S169 (a9l E w0 x N3 Q))
 (Q x3 S)
theorem c0P{N3:D→D→D→b9→Prop}{Q:D→b9→Prop}{x1 x3 x8:D}{S:b9}(h:a9g E w0 x N3 Q x1 x3 x8 S):
  j0 Tryz.prog E w0 x a4l (j9 221 [1,3,8] [x1,x3,x8]) S (q8 (fun T S=>N3 (T.getD 1 d9) (T.getD 3 d9) (T.getD 8 d9) S) (a4j E w0 x Q)):=j3 t9 s9 m7 (by kernel_rfl) h
theorem c1s(I:Nat→D→D→D→b9→Prop)
  (step:∀n x1 x3 x8 S,I n x1 x3 x8 S→a9g E w0 x (fun x1 x3 x8 S=>∃m,m<n∧I m x1 x3 x8 S) Q x1 x3 x8 S)
  {n:Nat} {x1 x3 x8:D} {S:b9} (h:I n x1 x3 x8 S):j0 Tryz.prog E w0 x (.loop a4l) (j9 221 [1,3,8] [x1,x3,x8]) S (a4j E w0 x Q):=
 o3 (k:=221) (n:=n) (I:=fun n T S=>I n (T.getD 1 d9) (T.getD 3 d9) (T.getD 8 d9) S) (fun n T S hl hI=>o5 [1,3,8] hl (j0.mono (c0P (step n _ _ _ S hI)) fun ex T' S' _ hq=>by cases ex<;>exact hq)) (l8 ..) (Eq.mp (by kernel_rfl) h)
noncomputable def a3R:Code:=(j4 [1,1,1,0,1,0,0] (Tryz.f31.body.getD .skip))
def a4r(E:j6)(w0:World)(x:Bool)(Q:D→b9→Prop):o6→List D→b9→Prop:=
 (o8 4 (w6 Tryz.prog E w0 x t9 s9 (j4 [1,1,1,1] (Tryz.f31.body.getD .skip)) (z7 Tryz.prog Tryz.f31 Q)))
def a8q(E:j6)(w0:World)(x:Bool)(N2:D→D→D→b9→Prop)(Q:D→b9→Prop)(x1 x3 x7:D)(S:b9):Prop:=
 b7 (i5 1 x1) fun v96=>
 b7 (b8 S v96) fun v97=>
 b7 (l9 v97) fun v98=>
 b7 (i6 .lss x7 v98) fun v99=>
 b7 (i4 (i0 v99 true) (some x3)) fun v100=>
 b7 (i4 (i0 v99 true) (i6 .leq v100 (.int .i64 2097152))) fun v101=>
 b7 (o7 v99 v101 (.bool false)) fun v102=>
 j1 v102
 (b7 (i5 1 x1) fun v103=>
 b7 (b8 S v103) fun v104=>(True)∧
 b7 (p6 1 v104 x7) fun v105=>
 b7 (b8 S v105) fun v106=>(True)∧
 b7 (J3 v106) fun v107=>(True)∧
 DF E (J6 Tryz.prog E w0) u4 [v107] S fun v108 S109=>(True)∧
 b7 (i6 .add x3 v108) fun v110=>
 b7 (i5 1 x1) fun v111=>
 b7 (b8 S109 v111) fun v112=>((b8 S (j5 (i5 1 x1))≠none∧p7 (j5 (i5 1 x1)) S S109)∧True)∧
 b7 (p6 1 v112 x7) fun v113=>
 b7 (b8 S109 v113) fun v114=>((b8 S (j5 (p6 1 (j5 (b8 S (j5 (i5 1 x1)))) (j5 (some x7))))≠none∧p7 (j5 (p6 1 (j5 (b8 S (j5 (i5 1 x1)))) (j5 (some x7)))) S S109)∧True)∧
 b7 (J3 v114) fun v115=>((J3 (j5 (b8 S (j5 (p6 1 (j5 (b8 S (j5 (i5 1 x1)))) (j5 (some x7))))))≠none∧True)∧True)∧
 b7 (i6 .add v110 v115) fun v116=>
 b7 (i6 .add x7 (.int .i64 1)) fun v117=>
 N2 x1 v116 v117 S109)
 (j0 Tryz.prog E w0 x (.loop a4l) (j9 221 [1,3,8] [x1,x3,(.int .i64 0)]) S (a4j E w0 x Q))
theorem c1F{N2:D→D→D→b9→Prop}{Q:D→b9→Prop}{x1 x3 x7:D}{S:b9}(h:a8q E w0 x N2 Q x1 x3 x7 S):
  j0 Tryz.prog E w0 x a3R (j9 221 [1,3,7] [x1,x3,x7]) S (q8 (fun T S=>N2 (T.getD 1 d9) (T.getD 3 d9) (T.getD 7 d9) S) (a4r E w0 x Q)):=j3 t9 s9 m7 (by kernel_rfl) h
theorem c0R(I:Nat→D→D→D→b9→Prop)
  (step:∀n x1 x3 x7 S,I n x1 x3 x7 S→a8q E w0 x (fun x1 x3 x7 S=>∃m,m<n∧I m x1 x3 x7 S) Q x1 x3 x7 S)
  {n:Nat} {x1 x3 x7:D} {S:b9} (h:I n x1 x3 x7 S):j0 Tryz.prog E w0 x (.loop a3R) (j9 221 [1,3,7] [x1,x3,x7]) S (a4r E w0 x Q):=
 o3 (k:=221) (n:=n) (I:=fun n T S=>I n (T.getD 1 d9) (T.getD 3 d9) (T.getD 7 d9) S) (fun n T S hl hI=>o5 [1,3,7] hl (j0.mono (c1F (step n _ _ _ S hI)) fun ex T' S' _ hq=>by cases ex<;>exact hq)) (l8 ..) (Eq.mp (by kernel_rfl) h)
noncomputable def a9w:Code:=(j4 [1,1,0,1,0,0] (Tryz.f31.body.getD .skip))
def a9z(E:j6)(w0:World)(x:Bool)(Q:D→b9→Prop):o6→List D→b9→Prop:=
 (o8 0 (w6 Tryz.prog E w0 x t9 s9 (j4 [1,1,1] (Tryz.f31.body.getD .skip)) (z7 Tryz.prog Tryz.f31 Q)))
def a8z(E:j6)(w0:World)(x:Bool)(N0:D→D→D→b9→Prop)(Q:D→b9→Prop)(x1 x3 x4:D)(S:b9):Prop:=
 b7 (i5 0 x1) fun v19=>
 b7 (b8 S v19) fun v20=>
 b7 (l9 v20) fun v21=>
 b7 (i6 .lss x4 v21) fun v22=>
 j1 v22
 (b7 (i5 0 x1) fun v23=>
 b7 (b8 S v23) fun v24=>
 b7 (p6 5 v24 x4) fun v25=>
 b7 (j2 S 5 v25) fun v26=>
 m8 S [(.int .u8 0),(.str []), .nilSlc,(.int .i64 0),(.int .i64 0)] fun v27 S28=>
 j7 S28 5 v27 v26 fun v29 S30=>
 b7 (i6 .add x3 (.int .i64 1)) fun v31=>
 b7 (i5 0 v27) fun v42=>
 b7 (b8 S30 v42) fun v43=>
 b7 (i6 .eql v43 (.int .u8 6)) fun v44=>
 j1 v44
 (b7 (i5 1 v27) fun v45=>
 b7 (b8 S30 v45) fun v46=>(True)∧
 b7 (J3 v46) fun v47=>(True)∧
 DF E (J6 Tryz.prog E w0) u4 [v47] S30 fun v48 S49=>(True)∧
 b7 (i6 .add v31 v48) fun v50=>
 b7 (i5 1 v27) fun v51=>
 b7 (b8 S49 v51) fun v52=>((b8 S30 (j5 (i5 1 v27))≠none∧p7 (j5 (i5 1 v27)) S30 S49)∧True)∧
 b7 (J3 v52) fun v53=>((J3 (j5 (b8 S30 (j5 (i5 1 v27))))≠none∧True)∧True)∧
 b7 (i6 .add v50 v53) fun v54=>
 b7 (i5 2 v27) fun v55=>
 b7 (b8 S49 v55) fun v56=>((b8 S30 (j5 (i5 2 v27))≠none∧p7 (j5 (i5 2 v27)) S30 S49)∧True)∧
 b7 (l9 v56) fun v57=>((l9 (j5 (b8 S30 (j5 (i5 2 v27))))≠none∧True)∧True)∧
 DF E (J6 Tryz.prog E w0) u4 [v57] S49 fun v58 S59=>(p7 v51 S49 S59∧True∧True)∧
 b7 (i6 .add v54 v58) fun v60=>
 j0 Tryz.prog E w0 x (.loop a9b) (j9 221 [1,3,4,5,6] [x1,v60,x4,v27,(.int .i64 0)]) S59 (a8U E w0 x N0 Q))
 (b7 (i5 3 v27) fun v91=>
 b7 (b8 S30 v91) fun v92=>
 o9 Tryz.prog E w0 x u4 [v92] S30 fun v93 S94=>
 b7 (i6 .add v31 v93) fun v95=>
 a2C E w0 x N0 Q x1 v95 x4 v27 S94))
 (j0 Tryz.prog E w0 x (.loop a3R) (j9 221 [1,3,7] [x1,x3,(.int .i64 0)]) S (a4r E w0 x Q))
theorem c2e{N0:D→D→D→b9→Prop}{Q:D→b9→Prop}{x1 x3 x4:D}{S:b9}(h:a8z E w0 x N0 Q x1 x3 x4 S):
  j0 Tryz.prog E w0 x a9w (j9 221 [1,3,4] [x1,x3,x4]) S (q8 (fun T S=>N0 (T.getD 1 d9) (T.getD 3 d9) (T.getD 4 d9) S) (a9z E w0 x Q)):=j3 t9 s9 m7 (by kernel_rfl) h
theorem c0j(I:Nat→D→D→D→b9→Prop)
  (step:∀n x1 x3 x4 S,I n x1 x3 x4 S→a8z E w0 x (fun x1 x3 x4 S=>∃m,m<n∧I m x1 x3 x4 S) Q x1 x3 x4 S)
  {n:Nat} {x1 x3 x4:D} {S:b9} (h:I n x1 x3 x4 S):j0 Tryz.prog E w0 x (.loop a9w) (j9 221 [1,3,4] [x1,x3,x4]) S (a9z E w0 x Q):=
 o3 (k:=221) (n:=n) (I:=fun n T S=>I n (T.getD 1 d9) (T.getD 3 d9) (T.getD 4 d9) S) (fun n T S hl hI=>o5 [1,3,4] hl (j0.mono (c2e (step n _ _ _ S hI)) fun ex T' S' _ hq=>by cases ex<;>exact hq)) (l8 ..) (Eq.mp (by kernel_rfl) h)
def c1O(E:j6)(w0:World)(x:Bool)(Q:D→b9→Prop)(a0:D)(S:b9):Prop:=
 b7 (q6 a0) fun cs=>m8 S cs fun v0 S1=>
 b7 (i5 0 v0) fun v2=>
 b7 (b8 S1 v2) fun v3=>(True)∧
 b7 (l9 v3) fun v4=>(True)∧
 DF E (J6 Tryz.prog E w0) u4 [v4] S1 fun v5 S6=>(True)∧
 b7 (i5 1 v0) fun v7=>
 b7 (b8 S6 v7) fun v8=>((b8 S1 (j5 (i5 1 v0))≠none∧p7 (j5 (i5 1 v0)) S1 S6)∧True)∧
 b7 (l9 v8) fun v9=>((l9 (j5 (b8 S1 (j5 (i5 1 v0))))≠none∧True)∧True)∧
 DF E (J6 Tryz.prog E w0) u4 [v9] S6 fun v10 S11=>(True)∧
 b7 (i6 .add v5 v10) fun v12=>
 b7 (i5 2 v0) fun v13=>
 b7 (b8 S11 v13) fun v14=>((b8 S6 (j5 (i5 2 v0))≠none∧p7 (j5 (i5 2 v0)) S6 S11)∧(b8 S1 (j5 (i5 2 v0))≠none∧p7 (j5 (i5 2 v0)) S1 S11)∧True)∧
 b7 (l9 v14) fun v15=>((l9 (j5 (b8 S6 (j5 (i5 2 v0))))≠none∧True)∧(l9 (j5 (b8 S1 (j5 (i5 2 v0))))≠none∧True)∧True)∧
 DF E (J6 Tryz.prog E w0) u4 [v15] S11 fun v16 S17=>(True)∧
 b7 (i6 .add v12 v16) fun v18=>
 j0 Tryz.prog E w0 x (.loop a9w) (j9 221 [1,3,4] [v0,v18,(.int .i64 0)]) S17 (a9z E w0 x Q)
theorem c5t{a0:D}{S:b9}(h:c1O E w0 x (i9 E Q) a0 S):o9 Tryz.prog E w0 x a7z [a0] S Q:=
 l7 t9 s9 (fn:=Tryz.f31) (c:=Tryz.f31.body.getD .skip) m7 Tryz.func31 (by kernel_rfl) (by kernel_rfl) h
def V1:List (Nat×List Nat):=[(8,[1,3]),(22,[1,4]),(32,[1,5])]
def V3:List (Nat×List Nat):=[(1000008,[])]
noncomputable def a6o:Code:=(j4 [1,1,1,1,0,1,0,0] (Tryz.f11.body.getD .skip))
def a6z(E:j6)(w0:World)(x:Bool)(Q:D→b9→Prop):o6→List D→b9→Prop:=
 (o8 4 (w6 Tryz.prog E w0 x V1 V3 (j4 [1,1,1,1,1] (Tryz.f11.body.getD .skip)) (z7 Tryz.prog Tryz.f11 Q)))
def a6s(E:j6)(w0:World)(x:Bool)(N2:D→D→b9→Prop)(Q:D→b9→Prop)(x1 x5:D)(S:b9):Prop:=
 b7 (i5 2 x1) fun v55=>
 b7 (b8 S v55) fun v56=>
 b7 (l9 v56) fun v57=>
 b7 (i6 .lss x5 v57) fun v58=>
 j1 v58
 (b7 (i5 2 x1) fun v59=>
 b7 (b8 S v59) fun v60=>
 b7 (p6 6 v60 x5) fun v61=>
 b7 (j2 S 6 v61) fun v62=>
 m8 S [(.str []), .nilSlc, .nilSlc,(.int .i64 0),(.int .i64 0), .nilSlc] fun v63 S64=>
 j7 S64 6 v63 v62 fun v65 S66=>
 b7 (i5 1 v63) fun v67=>
 b7 (b8 S66 v67) fun v68=>
 b7 (l9 v68) fun v69=>
 b7 (i6 .gtr v69 (.int .i64 32)) fun v70=>
 b7 (i4 (i0 v70 false) (i5 2 v63)) fun v71=>
 b7 (i4 (i0 v70 false) (b8 S66 v71)) fun v72=>
 b7 (i4 (i0 v70 false) (l9 v72)) fun v73=>
 b7 (i4 (i0 v70 false) (i6 .gtr v73 (.int .i64 8))) fun v74=>
 b7 (o7 v70 (.bool true) v74) fun v75=>
 b7 (i4 (i0 v75 false) (i5 3 v63)) fun v76=>
 b7 (i4 (i0 v75 false) (b8 S66 v76)) fun v77=>
 b7 (i4 (i0 v75 false) (i6 .gtr v77 (.int .i64 256))) fun v78=>
 b7 (o7 v75 (.bool true) v78) fun v79=>
 b7 (i4 (i0 v79 false) (i5 5 v63)) fun v80=>
 b7 (i4 (i0 v79 false) (b8 S66 v80)) fun v81=>
 b7 (i4 (i0 v79 false) (l9 v81)) fun v82=>
 b7 (i4 (i0 v79 false) (i6 .gtr v82 (.int .i64 65536))) fun v83=>
 b7 (o7 v79 (.bool true) v83) fun v84=>
 b7 (i4 (i0 v84 false) (i5 4 v63)) fun v85=>
 b7 (i4 (i0 v84 false) (b8 S66 v85)) fun v86=>
 b7 (i4 (i0 v84 false) (i6 .gtr v86 (.int .i64 4096))) fun v87=>
 b7 (o7 v84 (.bool true) v87) fun v88=>
 b7 (i4 (i0 v88 false) (i5 0 v63)) fun v89=>
 b7 (i4 (i0 v88 false) (b8 S66 v89)) fun v90=>
 b7 (i4 (i0 v88 false) (J3 v90)) fun v91=>
 b7 (i4 (i0 v88 false) (i6 .gtr v91 (.int .i64 65536))) fun v92=>
 b7 (o7 v88 (.bool true) v92) fun v93=>
 j1 v93
 (Q (.int .i64 3) S66)
 (b7 (j2 S66 3 x1) fun v94=>
 b7 (j2 S66 6 v63) fun v95=>
 o9 Tryz.prog E w0 x a2D [v94,v95] S66 fun v96 S97=>
 b7 (unD .not v96) fun v98=>
 j1 v98
 (Q (.int .i64 130) S97)
 (b7 (i6 .add x5 (.int .i64 1)) fun v99=>
 N2 x1 v99 S97)))
 (b7 (j2 S 3 x1) fun v100=>
 o9 Tryz.prog E w0 x a7z [v100] S fun v101 S102=>
 b7 (i6 .gtr v101 (.int .i64 2097140)) fun v103=>
 j1 v103
 (Q (.int .i64 3) S102)
 (Q (.int .i64 0) S102))
theorem b9P{N2:D→D→b9→Prop}{Q:D→b9→Prop}{x1 x5:D}{S:b9}(h:a6s E w0 x N2 Q x1 x5 S):
  j0 Tryz.prog E w0 x a6o (j9 119 [1,5] [x1,x5]) S (q8 (fun T S=>N2 (T.getD 1 d9) (T.getD 5 d9) S) (a6z E w0 x Q)):=j3 V1 V3 m7 (by kernel_rfl) h
theorem b9h(I:Nat→D→D→b9→Prop)
  (step:∀n x1 x5 S,I n x1 x5 S→a6s E w0 x (fun x1 x5 S=>∃m,m<n∧I m x1 x5 S) Q x1 x5 S)
  {n:Nat} {x1 x5:D} {S:b9} (h:I n x1 x5 S):j0 Tryz.prog E w0 x (.loop a6o) (j9 119 [1,5] [x1,x5]) S (a6z E w0 x Q):=
 o3 (k:=119) (n:=n) (I:=fun n T S=>I n (T.getD 1 d9) (T.getD 5 d9) S) (fun n T S hl hI=>o5 [1,5] hl (j0.mono (b9P (step n _ _ S hI)) fun ex T' S' _ hq=>by cases ex<;>exact hq)) (l8 ..) (Eq.mp (by kernel_rfl) h)
noncomputable def a6u:Code:=(j4 [1,1,1,0,1,0,0] (Tryz.f11.body.getD .skip))
def a6H(E:j6)(w0:World)(x:Bool)(Q:D→b9→Prop):o6→List D→b9→Prop:=
 (o8 2 (w6 Tryz.prog E w0 x V1 V3 (j4 [1,1,1,1] (Tryz.f11.body.getD .skip)) (z7 Tryz.prog Tryz.f11 Q)))
def a6y(E:j6)(w0:World)(x:Bool)(N1:D→D→b9→Prop)(Q:D→b9→Prop)(x1 x4:D)(S:b9):Prop:=
 b7 (i5 1 x1) fun v44=>
 b7 (b8 S v44) fun v45=>
 b7 (l9 v45) fun v46=>
 b7 (i6 .lss x4 v46) fun v47=>
 j1 v47
 (b7 (i5 1 x1) fun v48=>
 b7 (b8 S v48) fun v49=>
 b7 (p6 1 v49 x4) fun v50=>
 b7 (b8 S v50) fun v51=>
 b7 (J3 v51) fun v52=>
 b7 (i6 .gtr v52 (.int .i64 65536)) fun v53=>
 j1 v53
 (Q (.int .i64 3) S)
 (b7 (i6 .add x4 (.int .i64 1)) fun v54=>
 N1 x1 v54 S))
 (j0 Tryz.prog E w0 x (.loop a6o) (j9 119 [1,5] [x1,(.int .i64 0)]) S (a6z E w0 x Q))
theorem b9f{N1:D→D→b9→Prop}{Q:D→b9→Prop}{x1 x4:D}{S:b9}(h:a6y E w0 x N1 Q x1 x4 S):
  j0 Tryz.prog E w0 x a6u (j9 119 [1,4] [x1,x4]) S (q8 (fun T S=>N1 (T.getD 1 d9) (T.getD 4 d9) S) (a6H E w0 x Q)):=j3 V1 V3 m7 (by kernel_rfl) h
theorem b9s(I:Nat→D→D→b9→Prop)
  (step:∀n x1 x4 S,I n x1 x4 S→a6y E w0 x (fun x1 x4 S=>∃m,m<n∧I m x1 x4 S) Q x1 x4 S)
  {n:Nat} {x1 x4:D} {S:b9} (h:I n x1 x4 S):j0 Tryz.prog E w0 x (.loop a6u) (j9 119 [1,4] [x1,x4]) S (a6H E w0 x Q):=
 o3 (k:=119) (n:=n) (I:=fun n T S=>I n (T.getD 1 d9) (T.getD 4 d9) S) (fun n T S hl hI=>o5 [1,4] hl (j0.mono (b9f (step n _ _ S hI)) fun ex T' S' _ hq=>by cases ex<;>exact hq)) (l8 ..) (Eq.mp (by kernel_rfl) h)
noncomputable def a6q:Code:=(j4 [1,1,0,1,0,0] (Tryz.f11.body.getD .skip))
def a6K(E:j6)(w0:World)(x:Bool)(Q:D→b9→Prop):o6→List D→b9→Prop:=
 (o8 0 (w6 Tryz.prog E w0 x V1 V3 (j4 [1,1,1] (Tryz.f11.body.getD .skip)) (z7 Tryz.prog Tryz.f11 Q)))
def a6N(E:j6)(w0:World)(x:Bool)(N0:D→D→b9→Prop)(Q:D→b9→Prop)(x1 x3:D)(S:b9):Prop:=
 b7 (i5 0 x1) fun v16=>
 b7 (b8 S v16) fun v17=>
 b7 (l9 v17) fun v18=>
 b7 (i6 .lss x3 v18) fun v19=>
 j1 v19
 (b7 (i5 0 x1) fun v20=>
 b7 (b8 S v20) fun v21=>
 b7 (p6 5 v21 x3) fun v22=>
 b7 (i5 2 v22) fun v23=>
 b7 (b8 S v23) fun v24=>
 b7 (l9 v24) fun v25=>
 b7 (i6 .gtr v25 (.int .i64 32)) fun v26=>
 b7 (i4 (i0 v26 false) (i5 0 x1)) fun v27=>
 b7 (i4 (i0 v26 false) (b8 S v27)) fun v28=>
 b7 (i4 (i0 v26 false) (some x3)) fun v29=>
 b7 (i4 (i0 v26 false) (p6 5 v28 v29)) fun v30=>
 b7 (i4 (i0 v26 false) (j2 S 5 v30)) fun v31=>
 F7 (i0 v26 false) (fun K=>o9 Tryz.prog E w0 x b3E [v31] S K) S fun v32 S33=>
 b7 (o7 v26 (.bool true) v32) fun v34=>
 j1 v34
 (Q (.int .i64 3) S33)
 (b7 (j2 S33 3 x1) fun v35=>
 b7 (i5 0 x1) fun v36=>
 b7 (b8 S33 v36) fun v37=>
 b7 (p6 5 v37 x3) fun v38=>
 b7 (j2 S33 5 v38) fun v39=>
 o9 Tryz.prog E w0 x a2H [v35,v39] S33 fun v40 S41=>
 b7 (unD .not v40) fun v42=>
 j1 v42
 (Q (.int .i64 130) S41)
 (b7 (i6 .add x3 (.int .i64 1)) fun v43=>
 N0 x1 v43 S41)))
 (j0 Tryz.prog E w0 x (.loop a6u) (j9 119 [1,4] [x1,(.int .i64 0)]) S (a6H E w0 x Q))
theorem b9B{N0:D→D→b9→Prop}{Q:D→b9→Prop}{x1 x3:D}{S:b9}(h:a6N E w0 x N0 Q x1 x3 S):
  j0 Tryz.prog E w0 x a6q (j9 119 [1,3] [x1,x3]) S (q8 (fun T S=>N0 (T.getD 1 d9) (T.getD 3 d9) S) (a6K E w0 x Q)):=j3 V1 V3 m7 (by kernel_rfl) h
theorem b9A(I:Nat→D→D→b9→Prop)
  (step:∀n x1 x3 S,I n x1 x3 S→a6N E w0 x (fun x1 x3 S=>∃m,m<n∧I m x1 x3 S) Q x1 x3 S)
  {n:Nat} {x1 x3:D} {S:b9} (h:I n x1 x3 S):j0 Tryz.prog E w0 x (.loop a6q) (j9 119 [1,3] [x1,x3]) S (a6K E w0 x Q):=
 o3 (k:=119) (n:=n) (I:=fun n T S=>I n (T.getD 1 d9) (T.getD 3 d9) S) (fun n T S hl hI=>o5 [1,3] hl (j0.mono (b9B (step n _ _ S hI)) fun ex T' S' _ hq=>by cases ex<;>exact hq)) (l8 ..) (Eq.mp (by kernel_rfl) h)
def b8k(E:j6)(w0:World)(x:Bool)(Q:D→b9→Prop)(a0:D)(S:b9):Prop:=
 b7 (q6 a0) fun cs=>m8 S cs fun v0 S1=>
 b7 (i5 0 v0) fun v2=>
 b7 (b8 S1 v2) fun v3=>
 b7 (l9 v3) fun v4=>
 b7 (i6 .gtr v4 (.int .i64 256)) fun v5=>
 b7 (i4 (i0 v5 false) (i5 1 v0)) fun v6=>
 b7 (i4 (i0 v5 false) (b8 S1 v6)) fun v7=>
 b7 (i4 (i0 v5 false) (l9 v7)) fun v8=>
 b7 (i4 (i0 v5 false) (i6 .gtr v8 (.int .i64 32768))) fun v9=>
 b7 (o7 v5 (.bool true) v9) fun v10=>
 b7 (i4 (i0 v10 false) (i5 2 v0)) fun v11=>
 b7 (i4 (i0 v10 false) (b8 S1 v11)) fun v12=>
 b7 (i4 (i0 v10 false) (l9 v12)) fun v13=>
 b7 (i4 (i0 v10 false) (i6 .gtr v13 (.int .i64 256))) fun v14=>
 b7 (o7 v10 (.bool true) v14) fun v15=>
 j1 v15
 (Q (.int .i64 3) S1)
 (j0 Tryz.prog E w0 x (.loop a6q) (j9 119 [1,3] [v0,(.int .i64 0)]) S1 (a6K E w0 x Q))
theorem c3W{a0:D}{S:b9}(h:b8k E w0 x (i9 E Q) a0 S):o9 Tryz.prog E w0 x a2s [a0] S Q:=
 l7 V1 V3 (fn:=Tryz.f11) (c:=Tryz.f11.body.getD .skip) m7 Tryz.func11 (by kernel_rfl) (by kernel_rfl) h
end Go.Proofs.YtchnpgddpaonhaaGreat.d
end
section
open Go.Proofs Go Go.Am Go.Op
namespace Go.Proofs.YtchnpgddpaonhaaGreat.d
section
section
variable{E:j6}{w0:World}
theorem c4n{m:Mo}(hm:m.Fits){r:Ro}(hr:r.Ok)(hc:r.code.length<2^30):a6Z Tryz.prog E w0 a2D [Z0 m, .agg (F9 r)] (.bool (Q6 m r)):=fun S=>by
 refine b9I ?_
 unfold b4v
 rw[Z0,J5,oD]
 intro k a n
 rw[J5,oD]
 intro k2 a2 n2
 obtain⟨ne2,n2'⟩:=b9.fresh n2
 generalize hS3:(S.set k _).set k2 _=S3
 have h2:w9 S3 k2 6 (F9 r):=by rw[←hS3];exact w9.new
 have h0:w9 S3 k 3 (F8 m):=by rw[←hS3];exact(w9.new).set n2
 have hle:S.le S3:=by rw[←hS3];exact b9.le_set (b9.le_new n) n2'
 have q1:(F9 r)[1]? =some (iD r.params):=rfl
 have q2:(F9 r)[2]? =some (iD r.results):=rfl
 have q3:(F9 r)[3]? =some (.int .i64 r.locals):=rfl
 have q4:(F9 r)[4]? =some (.int .i64 r.stack):=rfl
 have q5:(F9 r)[5]? =some (bD r.code):=rfl
 have lm:j2 S3 3 (.ptr k 0)=some (Z0 m):=h0.all (by decide) rfl
 have fin:∀b:Bool,Q6 m r=b→i9 E (fun d' S'=>d'= .bool (Q6 m r)∧S'=S) (.bool b) S3:=fun b h=>by rw[h];exact i9.less hle i9.pure
 have hp:=hr.params
 have hq:=hr.results
 have hmo:=hm.ok
 simp only[oD,u5,Nat.zero_add,h2.ld,q1,lm]
 refine(c1b hmo (by omega) fun t ht=>hr.ints t (List.mem_append_left _ ht)).use ?_
 simp only[unN,oD]
 cases c1:r.params.all (B5 m) with
 |false=>
  simp only[Bool.not_false,C5,t1',vdF,gdF,oD,C3,if_true,cdT]
  exact fin false (by unfold Q6;rw[c1];rfl)
 |true=>
 simp only[Bool.not_true,C5,t2',P7,gdT,oD,h2.ld,u5,Nat.zero_add,q2,lm]
 refine(c1b hmo (by omega) fun t ht=>hr.ints t (List.mem_append_right _ ht)).use ?_
 simp only[unN,oD]
 cases c2:r.results.all (B5 m) with
 |false=>
  simp only[Bool.not_false,C5,t1',vdF,gdF,oD,C3,Bool.false_eq_true,if_false,if_true,cdT]
  exact fin false (by unfold Q6;rw[c1,c2];rfl)
 |true=>
 simp only[Bool.not_true,C5,t2',P7,gdT,oD,C3,Bool.false_eq_true,if_false,h2.ld,u5,Nat.zero_add,q3,q1,M5,A5]
 by_cases c3:r.locals<(r.params.length:Int)
 ·simp only[decide_eq_true c3,C5,t1',vdF,gdF,oD,C3,if_true,cdT]
  exact fin false (by unfold Q6;rw[c1,c2,decide_eq_true c3];rfl)
 simp only[decide_eq_false c3,C5,t2',P7,gdT,oD,C3,Bool.false_eq_true,if_false,h2.ld,u5,Nat.zero_add,q4,A5]
 rw[B3]
 refine⟨fun c4=>fin false (by unfold Q6;rw[c1,c2,decide_eq_false c3,decide_eq_true c4];rfl),fun c4=> ?_⟩
 rw[q5,oD]
 refine(d2O hr.bytes hc).use ?_
 rw[d6M]
 simp only[exD,List.getElem?_cons_zero,List.getElem?_cons_succ,oD,c7c]
 obtain⟨i1,i2,i3⟩:=d6q (bs:=r.code) hr.bytes
 have e0:Q6 m r=(decide ((b1N (b3T r.code)).2.2=0)&&(b1N (b3T r.code)).1.all (a0X m r)):=by unfold Q6;rw[c1,c2,decide_eq_false c3,decide_eq_false c4];rfl
 rw[B3]
 refine⟨fun c5=>fin false (by rw[e0,decide_eq_false c5];rfl),fun c5=> ?_⟩
 have c5:(b1N (b3T r.code)).2.2=0:=Classical.not_not.1 c5
 rw[decide_eq_true c5,Bool.true_and]at e0
 generalize (b1N (b3T r.code)).1=l at i1 i2 e0 ⊢
 refine b6z (I:=fun n x2 x3 x5 x8 T=>S3=T∧x2= .ptr k 0∧x3= .ptr k2 0∧x5=b4T l∧∃i:Nat,x8= .int .i64 (i:Int)∧i+n=l.length∧l.all (a0X m r)=(l.drop i).all (a0X m r)) ?_ (n:=l.length)
  ⟨rfl,rfl,rfl,rfl,0,rfl,by omega,rfl⟩
 rintro n _ _ _ _ _ ⟨rfl,rfl,rfl,rfl,i,rfl,hi,hall⟩
 unfold a4a
 rw[show l9 (b4T l)=some (.int .i64 l.length) by simp[b4T],oD,A5,oD,B3]
 refine⟨fun hlt=> ?_,fun hge=> ?_⟩
 ·have hlt:i<l.length:=by omega
  obtain⟨y,hy⟩:∃y,y=l[i]:=⟨_,rfl⟩
  have ei:l[i]? =some y:=by rw[List.getElem?_eq_getElem hlt,hy]
  have hok:y.Ok:=i1 y (by rw[hy];exact List.getElem_mem _)
  rw[W4 hlt, ←hy]at hall
  have p0:(J2 y)[0]? =some (.int .u8 y.op):=rfl
  have p1:(J2 y)[1]? =some (.int .i64 y.a):=rfl
  rw[b2k ei,oD,e2v,oD,lm,oD]
  refine(show o9 Tryz.prog E w0 false a5A [inD y,Z0 m] S3 _ from(c7h hok hm).use ?_)
  have go:∀b:Bool,a0X m r y= !b→j1 (.bool b) (i9 E (fun d' S'=>d'= .bool (Q6 m r)∧S'=S) (.bool false) S3) (b7 (i6 .add (.int .i64 (i:Int)) (.int .i64 1)) fun v72=>(fun(x2 x3 x5 x8:D) (T:b9)=>∃m_1,m_1<n∧S3=T∧x2=D.ptr k 0∧x3=D.ptr k2 0∧x5=b4T l∧∃i:Nat,x8=D.int .i64 (i:Int)∧i+m_1=l.length∧l.all (a0X m r)=(l.drop i).all (a0X m r)) (D.ptr k 0) (D.ptr k2 0) (b4T l) v72 S3):=fun b hb=>by
   rw[hb]at hall
   cases b with
   |true=>rw[cdT];exact fin false (by rw[e0,hall];rfl)
   |false=>
    rw[cdF,s8,oD,j8 (by omega) (by omega)]
    exact⟨n - 1,by omega,rfl,rfl,rfl,rfl,i+1,rfl,by omega,by rw[hall];rfl⟩
  simp only[tk3,exD,List.getElem?_cons_zero,List.getElem?_cons_succ,oD,c7c]
  by_cases d1:(I7 y m).2.2=0
  case neg=>
   simp only[decide_eq_true (show(I7 y m).2.2≠0 from d1),C5,t1',vdF,oD,C3,if_true]
   exact go true (by unfold a0X;rw[decide_eq_false d1];rfl)
  have e1:a0X m r y= !(decide (y.op=7∨y.op=8)&&decide (r.locals≤y.a)):=by unfold a0X;rw[decide_eq_true d1,Bool.true_and]
  have d1':decide ((I7 y m).2.2≠0)=false:=decide_eq_false fun h=>h d1
  simp only[d1',C5,t2',P7,oD,b2k ei,ofE,lsE,Nat.zero_add,p0,p1,a0i]
  by_cases d7:y.op=7
  ·simp only[decide_eq_true d7,C5,t1',t4',vdF,P7,oD,C3,if_true,b2k ei,ofE,u5,lsE,Nat.zero_add,p1,h2.ld,q3,a3H,Bool.false_eq_true,if_false]
   have g:=go _ (by rw[e1,decide_eq_true (.inl d7),Bool.true_and])
   simp only[true_and,eq_self]at g ⊢
   exact g
  by_cases d8:y.op=8
  ·simp only[decide_eq_false d7,decide_eq_true d8,C5,t2',t1',t4',vdF,P7,oD,C3,if_true,b2k ei,ofE,u5,lsE,Nat.zero_add,p0,p1,h2.ld,q3,a0i,a3H,Bool.false_eq_true,if_false]
   have g:=go _ (by rw[e1,decide_eq_true (.inr d8),Bool.true_and])
   simp only[true_and,eq_self]at g ⊢
   exact g
  ·simp only[decide_eq_false d7,decide_eq_false d8,C5,t2',t3',vdF,P7,oD,C3,b2k ei,ofE,lsE,Nat.zero_add,p0,a0i,Bool.false_eq_true,if_false]
   have g:=go false (by rw[e1,decide_eq_false (fun h=>h.elim d7 d8)];rfl)
   simp only[true_and,eq_self]at g ⊢
   exact g
 ·rw[List.drop_eq_nil_of_le (by omega)]at hall
  exact fin true (by rw[e0,hall];rfl)
end
end
section
theorem a1z{α:Type}{f:α→List Int}(l:List α)(i:Nat):((l.take i).flatMap f).length≤(l.flatMap f).length:=by
 conv=>rhs;rw[←List.take_append_drop i l]
 rw[List.flatMap_append,List.length_append];omega
theorem a5Q{α:Type}{f:α→List Int}{l:List α}{i:Nat}{a:α}(h:l[i]? =some a):((l.take (i+1)).flatMap f).length=((l.take i).flatMap f).length+(f a).length:=by
 rw[K6 h,List.length_append]
def SzQ(B r:Nat):Prop:=r=B∨(2097152<r∧r≤B)
@[simp] theorem E9(d:D):j5 (some d)=d:=(rfl)
section
variable{E:j6}{w0:World}
theorem sh{n:Int}{S:b9}{K:D→b9→Prop}(h:K (.int .i64 ((A7 n).length:Int)) S):DF E (J6 Tryz.prog E w0) u4 [.int .i64 n] S K:=b6t.useX h
theorem sh'{x:Bool}{n:Int}{S:b9}{K:D→b9→Prop}(h:K (.int .i64 ((A7 n).length:Int)) S):o9 Tryz.prog E w0 x u4 [.int .i64 n] S K:=b6t.use h
theorem a8P(a b:Nat)(h:a+b<2^60):i6 .add (.int .i64 (a:Int)) (.int .i64 (b:Int))=some (.int .i64 ((a+b:Nat):Int)):=by
 rw[s8,j8 (by omega) (by omega)];rfl
theorem c9L{m:Mo}(hm:m.Fits)(hb:m.Brief){x:Bool}{S:b9}:o9 Tryz.prog E w0 x a7z [Z0 m] S fun d S'=>S'=S∧∃r:Nat,d= .int .i64 (r:Int)∧SzQ (D2 m).length r:=by
 refine c5t ?_
 unfold c1O
 rw[Z0,J5,oD]
 intro k a n
 have c0:w9 (S.set k ⟨3,[F8 m],a⟩) k 3 (F8 m):=w9.new
 have hle:S.le (S.set k ⟨3,[F8 m],a⟩):=b9.le_new n
 rw[show(F8 m).length=3 from rfl]
 generalize S.set k ⟨3,[F8 m],a⟩=S1 at*
 have q0:(F8 m)[0]? =some (b1E m.types):=rfl
 have q1:(F8 m)[1]? =some (a6A m.texts):=rfl
 have q2:(F8 m)[2]? =some (b1r m.funcs):=rfl
 have t0:=hm.types
 have t1:=hm.texts
 have t2:=hm.funcs
 obtain⟨a0,ha0⟩:∃a0,a0=(A7 m.types.length).length+(A7 m.texts.length).length+(A7 m.funcs.length).length:=⟨_,rfl⟩
 have n0:=u6 m.types.length
 have n1:=u6 m.texts.length
 have n2:=u6 m.funcs.length
 obtain⟨B,hB⟩:∃B,B=(D2 m).length:=⟨_,rfl⟩
 have eB:B=a0+(m.types.flatMap tyB).length+(m.texts.flatMap K3).length+(m.funcs.flatMap roB).length:=by
  rw[hB,ha0];unfold D2;simp only[List.length_append];omega
 rw[←hB]
 have fin:∀ {T:b9} {r:Nat},S.le T→SzQ B r→i9 E (fun d S'=>S'=S∧∃r:Nat,d= .int .i64 (r:Int)∧SzQ B r) (.int .i64 (r:Int)) T:=fun{T r} hT h=>
  i9.less hT (i9.here ⟨rfl,r,rfl,h⟩)
 simp only[u5,oD,Nat.zero_add,c0.ld,q0,q1,q2,G6,J9,I9,true_and]
 refine sh ?_
 simp only[u5,oD,Nat.zero_add,c0.ld,q0,q1,q2,G6,J9,I9,E9,fwP,ne_eq,reduceCtorEq,not_false_eq_true,true_and,and_true,and_self]
 refine sh ?_
 simp only[u5,oD,Nat.zero_add,c0.ld,q0,q1,q2,G6,J9,I9,E9,fwP,ne_eq,reduceCtorEq,not_false_eq_true,true_and,and_true,and_self]
 rw[a8P _ _ (by omega),oD]
 refine sh ?_
 rw[a8P _ _ (by omega),oD, ←ha0]
 have funcs:∀ {T:b9} {r:Nat},S.le T→w9 T k 3 (F8 m)→r<2^40→(r=a0+(m.types.flatMap tyB).length+(m.texts.flatMap K3).length∨(2097152<r∧r≤B))→
   j0 Tryz.prog E w0 x (.loop a4l) (j9 221 [1,3,8] [.ptr k 0, .int .i64 (r:Int),(.int .i64 0)]) T (a4j E w0 x (i9 E fun d S'=>S'=S∧∃r:Nat,d= .int .i64 (r:Int)∧SzQ B r)):=fun{T r} hT cT hr hR=>by
  refine c1s (I:=fun n x1 x3 x8 T=>x1= .ptr k 0∧S.le T∧w9 T k 3 (F8 m)∧∃(r i:Nat),x3= .int .i64 (r:Int)∧x8= .int .i64 (i:Int)∧i+n=m.funcs.length∧r<2^40∧(r=a0+(m.types.flatMap tyB).length+(m.texts.flatMap K3).length+((m.funcs.take i).flatMap roB).length∨(2097152<r∧r≤B))) ?_ (n:=m.funcs.length)
   ⟨rfl,hT,cT,r,0,rfl,rfl,by omega,hr,by simpa using hR⟩
  rintro n _ _ _ T ⟨rfl,hT,cT,r,i,rfl,rfl,hi,hr,hR⟩
  unfold a9g
  simp only[u5,oD,Nat.zero_add,cT.ld,q2,I9,A5,c5w]
  by_cases hlt:i<m.funcs.length
  case neg=>
   have c1:decide ((i:Int)<(m.funcs.length:Int))=false:=decide_eq_false (by omega)
   simp only[c1,C5,t3',vdF,oD,C3,Bool.false_eq_true,if_false,cdF]
   refine fin hT ?_
   rcases hR with h|h
   ·rw[List.take_of_length_le (by omega)]at h
    exact .inl (by omega)
   ·exact .inr h
  have c1:decide ((i:Int)<(m.funcs.length:Int))=true:=decide_eq_true (by omega)
  simp only[c1,C5,t4',P7,oD,C3,if_true,c5w]
  rw[B3]
  refine⟨fun hle=> ?_,fun hgt=> ?_⟩
  case refine_2=>
   refine fin hT (.inr ?_)
   have:=a1z (f:=roB) m.funcs i
   rcases hR with h|h
   ·omega
   ·exact h
  have hR:r=a0+(m.types.flatMap tyB).length+(m.texts.flatMap K3).length+((m.funcs.take i).flatMap roB).length:=by
   rcases hR with h|h
   ·exact h
   ·omega
  obtain⟨f,hf⟩:∃f,f=m.funcs[i]:=⟨_,rfl⟩
  have ef:m.funcs[i]? =some f:=by rw[List.getElem?_eq_getElem hlt,hf]
  have hfm:f∈m.funcs:=by rw[hf];exact List.getElem_mem _
  obtain⟨b1,b2,b3,b4⟩:=hb.ro f hfm
  have h1:=a5Q (f:=roB) ef
  have hro:(roB f).length=(A7 f.name.length).length+f.name.length+(A7 f.params.length).length+(f.params.flatMap A7).length+(A7 f.results.length).length+(f.results.flatMap A7).length+(A7 f.locals).length+(A7 f.stack).length+(A7 f.code.length).length+f.code.length:=by
   unfold roB K3 b8N
   simp only[List.length_append,bytesOf,b8e,List.length_map]
   omega
  rw[a1k ef,oD,d0n,oD]
  intro k2 a2 n2'
  refine(w9.new (sz:=6) (c:=[(.str []), .nilSlc, .nilSlc,(.int .i64 0),(.int .i64 0), .nilSlc])).st (ds:=F9 f) (J5 _) ⟨rfl,by decide,by decide⟩ fun a2=> ?_
  rw[b9.set_set,show o0 [(.str []), .nilSlc, .nilSlc,(.int .i64 0),(.int .i64 0), .nilSlc] 0 (F9 f)=F9 f from rfl]
  have c2:w9 (T.set k2 ⟨6,[F9 f],a2⟩) k2 6 (F9 f):=w9.new
  have hT2:S.le (T.set k2 ⟨6,[F9 f],a2⟩):=b9.le_set hT (b9.none_of hT n2')
  have cT2:=cT.set (o:=⟨6,[F9 f],a2⟩) n2'
  generalize T.set k2 ⟨6,[F9 f],a2⟩=T2 at*
  have p0:(F9 f)[0]? =some (.str f.name):=rfl
  have p1:(F9 f)[1]? =some (iD f.params):=rfl
  have p2:(F9 f)[2]? =some (iD f.results):=rfl
  have p3:(F9 f)[3]? =some (.int .i64 f.locals):=rfl
  have p4:(F9 f)[4]? =some (.int .i64 f.stack):=rfl
  have p5:(F9 f)[5]? =some (bD f.code):=rfl
  have l0:=u6 f.name.length
  have l1:=u6 f.params.length
  have l2:=u6 f.results.length
  have l3:=u6 f.locals
  have l4:=u6 f.stack
  have l5:=u6 f.code.length
  try simp only[u5,oD,Nat.zero_add,c2.ld,p0,p1,p2,p3,p4,p5,lnS,M5,I8,E9,fwP,ne_eq,reduceCtorEq,not_false_eq_true,true_and,and_true,and_self]
  refine sh ?_
  rw[a8P _ _ (by omega),oD]
  try simp only[u5,oD,Nat.zero_add,c2.ld,p0,p1,p2,p3,p4,p5,lnS,M5,I8,E9,fwP,ne_eq,reduceCtorEq,not_false_eq_true,true_and,and_true,and_self]
  rw[a8P _ _ (by omega),oD]
  try simp only[u5,oD,Nat.zero_add,c2.ld,p0,p1,p2,p3,p4,p5,lnS,M5,I8,E9,fwP,ne_eq,reduceCtorEq,not_false_eq_true,true_and,and_true,and_self]
  refine sh ?_
  try simp only[true_and,and_true,and_self,fwP]
  rw[a8P _ _ (by omega),oD]
  try simp only[u5,oD,Nat.zero_add,c2.ld,p0,p1,p2,p3,p4,p5,lnS,M5,I8,E9,fwP,ne_eq,reduceCtorEq,not_false_eq_true,true_and,and_true,and_self]
  refine sh ?_
  try simp only[true_and,and_true,and_self,fwP]
  rw[a8P _ _ (by omega),oD]
  try simp only[u5,oD,Nat.zero_add,c2.ld,p0,p1,p2,p3,p4,p5,lnS,M5,I8,E9,fwP,ne_eq,reduceCtorEq,not_false_eq_true,true_and,and_true,and_self]
  refine sh ?_
  try simp only[true_and,and_true,and_self,fwP]
  rw[a8P _ _ (by omega),oD]
  try simp only[u5,oD,Nat.zero_add,c2.ld,p0,p1,p2,p3,p4,p5,lnS,M5,I8,E9,fwP,ne_eq,reduceCtorEq,not_false_eq_true,true_and,and_true,and_self]
  refine sh ?_
  try simp only[true_and,and_true,and_self,fwP]
  rw[a8P _ _ (by omega),oD]
  try simp only[u5,oD,Nat.zero_add,c2.ld,p0,p1,p2,p3,p4,p5,lnS,M5,I8,E9,fwP,ne_eq,reduceCtorEq,not_false_eq_true,true_and,and_true,and_self]
  refine sh ?_
  try simp only[true_and,and_true,and_self,fwP]
  rw[a8P _ _ (by omega),oD]
  try simp only[u5,oD,Nat.zero_add,c2.ld,p0,p1,p2,p3,p4,p5,lnS,M5,I8,E9,fwP,ne_eq,reduceCtorEq,not_false_eq_true,true_and,and_true,and_self]
  rw[a8P _ _ (by omega),oD]
  obtain⟨r1,hr1⟩:∃r1,r1=r+(A7 f.name.length).length+f.name.length+(A7 f.params.length).length+(A7 f.results.length).length+(A7 f.locals).length+(A7 f.stack).length+(A7 f.code.length).length+f.code.length:=⟨_,rfl⟩
  rw[←hr1]
  have nl:∀(l:List Int) (j:Nat),((l.take j).flatMap A7).length≤10*j:=fun l j=>by
   induction j with
   |zero=>simp
   |succ j ih=>
    cases h:l[j]? with
    |none=>
     rw[List.take_of_length_le (by have:=List.getElem?_eq_none_iff.1 h;omega)]
     have:l.length≤j:=List.getElem?_eq_none_iff.1 h
     rw[List.take_of_length_le this]at ih;omega
    |some v=>rw[a5Q h];have:=u6 v;omega
  refine c2l (I:=fun n' x1 x3 x8 x9 x10 T=>T2=T∧x1= .ptr k 0∧x8= .int .i64 (i:Int)∧x9= .ptr k2 0∧∃j:Nat,x10= .int .i64 (j:Int)∧j+n'=f.params.length∧x3= .int .i64 ((r1+((f.params.take j).flatMap A7).length:Nat):Int)) ?_ (n:=f.params.length)
   ⟨rfl,rfl,rfl,rfl,0,rfl,by omega,by simp⟩
  rintro n' _ _ _ _ _ _ ⟨rfl,rfl,rfl,rfl,j,rfl,hj,rfl⟩
  unfold a8m
  try simp only[u5,oD,Nat.zero_add,c2.ld,p1,M5,A5]
  rw[B3]
  refine⟨fun hjl=> ?_,fun hjg=> ?_⟩
  ·have hjl:j<f.params.length:=by omega
   have ej:f.params[j]? =some f.params[j]:=List.getElem?_eq_getElem hjl
   have u1:=nl f.params j
   have u2:=u6 f.params[j]
   rw[c0L ej,oD,lsE,List.getElem?_cons_zero,oD]
   refine sh' ?_
   rw[a8P _ _ (by omega),oD,s8,oD,j8 (by omega) (by omega)]
   exact⟨n' - 1,by omega,by trivial,by trivial,by trivial,by trivial,j+1,rfl,by omega,by rw[a5Q ej, ←Nat.add_assoc]⟩
  have u1:=nl f.params j
  rw[List.take_of_length_le (by omega)]at u1 ⊢
  refine c0F (I:=fun n' x1 x3 x8 x9 x11 T=>T2=T∧x1= .ptr k 0∧x8= .int .i64 (i:Int)∧x9= .ptr k2 0∧∃j:Nat,x11= .int .i64 (j:Int)∧j+n'=f.results.length∧x3= .int .i64 ((r1+(f.params.flatMap A7).length+((f.results.take j).flatMap A7).length:Nat):Int)) ?_ (n:=f.results.length)
   ⟨rfl,rfl,rfl,rfl,0,rfl,by omega,by simp⟩
  rintro n'' _ _ _ _ _ _ ⟨rfl,rfl,rfl,rfl,j',rfl,hj',rfl⟩
  unfold a9G
  simp only[u5,oD,Nat.zero_add,c2.ld,p2,M5,A5]
  rw[B3]
  have u3:=nl f.results j'
  refine⟨fun hjl=> ?_,fun hjg=> ?_⟩
  ·have hjl:j'<f.results.length:=by omega
   have ej:f.results[j']? =some f.results[j']:=List.getElem?_eq_getElem hjl
   have u2:=u6 f.results[j']
   rw[c0L ej,oD,lsE,List.getElem?_cons_zero,oD]
   refine sh' ?_
   rw[a8P _ _ (by omega),oD,s8,oD,j8 (by omega) (by omega)]
   exact⟨n'' - 1,by omega,by trivial,by trivial,by trivial,by trivial,j'+1,rfl,by omega,by rw[a5Q ej, ←Nat.add_assoc]⟩
  rw[List.take_of_length_le (by omega)]at u3 ⊢
  rw[s8,oD,j8 (by omega) (by omega)]
  exact⟨n - 1,by omega,by trivial,hT2,cT2,_,i+1,rfl,rfl,by omega,by omega, .inl (by rw[h1,hro];omega)⟩
 have texts:∀ {T:b9} {r:Nat},S.le T→w9 T k 3 (F8 m)→r<2^40→r=a0+(m.types.flatMap tyB).length→
   j0 Tryz.prog E w0 x (.loop a3R) (j9 221 [1,3,7] [.ptr k 0, .int .i64 (r:Int),(.int .i64 0)]) T (a4r E w0 x (i9 E fun d S'=>S'=S∧∃r:Nat,d= .int .i64 (r:Int)∧SzQ B r)):=fun{T r} hT cT hr hR=>by
  refine c0R (I:=fun n x1 x3 x7 T'=>T=T'∧x1= .ptr k 0∧∃(r i:Nat),x3= .int .i64 (r:Int)∧x7= .int .i64 (i:Int)∧i+n=m.texts.length∧r<2^40∧r=a0+(m.types.flatMap tyB).length+((m.texts.take i).flatMap K3).length) ?_ (n:=m.texts.length)
   ⟨rfl,rfl,r,0,rfl,rfl,by omega,hr,by simpa using hR⟩
  rintro n _ _ _ _ ⟨rfl,rfl,r,i,rfl,rfl,hi,hr,hR⟩
  unfold a8q
  simp only[u5,oD,Nat.zero_add,cT.ld,q1,J9,A5,c5w]
  by_cases hlt:i<m.texts.length
  case neg=>
   have c1:decide ((i:Int)<(m.texts.length:Int))=false:=decide_eq_false (by omega)
   simp only[c1,C5,t3',vdF,oD,C3,Bool.false_eq_true,if_false,cdF]
   rw[List.take_of_length_le (by omega)]at hR
   exact funcs hT cT hr (.inl hR)
  have c1:decide ((i:Int)<(m.texts.length:Int))=true:=decide_eq_true (by omega)
  simp only[c1,C5,t4',P7,oD,C3,if_true,c5w]
  rw[B3]
  refine⟨fun hle=> ?_,fun hgt=> ?_⟩
  case refine_2=>
   have:=a1z (f:=K3) m.texts i
   exact funcs hT cT hr (.inr ⟨by omega,by omega⟩)
  have ei:m.texts[i]? =some m.texts[i]:=List.getElem?_eq_getElem hlt
  have b1:=hb.tx _ (List.getElem_mem hlt)
  have h1:=a5Q (f:=K3) ei
  have hte:(K3 m.texts[i]).length=(A7 m.texts[i].length).length+m.texts[i].length:=by
   unfold K3;simp only[List.length_append,bytesOf,List.length_map]
  have l0:=u6 m.texts[i].length
  simp only[a7t ei,oD,lsE,List.getElem?_cons_zero,lnS,E9,fwP,fwE,u5,Nat.zero_add,cT.ld,q1,ne_eq,reduceCtorEq,not_false_eq_true,true_and,and_true,and_self]
  refine sh ?_
  try simp only[true_and,and_true,and_self,fwP,fwE]
  rw[a8P _ _ (by omega),oD]
  simp only[a7t ei,oD,lsE,List.getElem?_cons_zero,lnS,E9,fwP,fwE,u5,Nat.zero_add,cT.ld,q1,ne_eq,reduceCtorEq,not_false_eq_true,true_and,and_true,and_self]
  rw[a8P _ _ (by omega),oD,s8,oD,j8 (by omega) (by omega)]
  exact⟨n - 1,by omega,_,i+1,rfl,rfl,by omega,by omega,by rw[h1,hte];omega⟩
 refine c0j (I:=fun n x1 x3 x4 T=>x1= .ptr k 0∧S.le T∧w9 T k 3 (F8 m)∧∃(r i:Nat),x3= .int .i64 (r:Int)∧x4= .int .i64 (i:Int)∧i+n=m.types.length∧r≤2097152∧r=a0+((m.types.take i).flatMap tyB).length) ?_ (n:=m.types.length)
  ⟨rfl,hle,c0,a0,0,rfl,rfl,by omega,by omega,by simp⟩
 rintro n _ _ _ T ⟨rfl,hT,cT,r,i,rfl,rfl,hi,hr,hR⟩
 unfold a8z
 simp only[u5,oD,Nat.zero_add,cT.ld,q0,G6,A5]
 rw[B3]
 refine⟨fun hlt=> ?_,fun hge=> ?_⟩
 case refine_2=>
  rw[List.take_of_length_le (by omega)]at hR
  exact texts hT cT (by omega) hR
 have hlt:i<m.types.length:=by omega
 obtain⟨t,ht⟩:∃t,t=m.types[i]:=⟨_,rfl⟩
 have et:m.types[i]? =some t:=by rw[List.getElem?_eq_getElem hlt,ht]
 have htm:t∈m.types:=by rw[ht];exact List.getElem_mem _
 obtain⟨b1,b2,b3⟩:=hb.ty t htm
 have h1:=a5Q (f:=tyB) et
 have hfl:=a1z (f:=tyB) m.types (i+1)
 rw[a0l et,oD,d0l,oD]
 intro k2 a2 n2'
 refine(w9.new (sz:=5) (c:=[(.int .u8 0),(.str []), .nilSlc,(.int .i64 0),(.int .i64 0)])).st (ds:=B9 t) (J5 _) ⟨rfl,by decide,by decide⟩ fun a2=> ?_
 rw[b9.set_set,show o0 [(D.int .u8 0),(.str []), .nilSlc,(.int .i64 0),(.int .i64 0)] 0 (B9 t)=B9 t from rfl]
 have c5:w9 (T.set k2 ⟨5,[B9 t],a2⟩) k2 5 (B9 t):=w9.new
 have hT2:S.le (T.set k2 ⟨5,[B9 t],a2⟩):=b9.le_set hT (b9.none_of hT n2')
 have cT2:=cT.set (o:=⟨5,[B9 t],a2⟩) n2'
 generalize T.set k2 ⟨5,[B9 t],a2⟩=T2 at*
 have p0:(B9 t)[0]? =some (.int .u8 t.kind):=rfl
 have p1:(B9 t)[1]? =some (.str t.name):=rfl
 have p2:(B9 t)[2]? =some (O9 t.fields):=rfl
 have p3:(B9 t)[3]? =some (.int .i64 t.elem):=rfl
 have p4:(B9 t)[4]? =some (.int .i64 t.len):=rfl
 have l0:=u6 t.name.length
 have l1:=u6 t.fields.length
 have l2:=u6 t.elem
 have l3:=u6 t.len
 have e1:i6 .add (.int .i64 (r:Int)) (.int .i64 1)=some (.int .i64 ((r+1:Nat):Int)):=a8P r 1 (by omega)
 have done:∀r2:Nat,r2=r+(tyB t).length→r2<2^40→a2G E w0 x (fun x1 x3 x4 S_1=>∃m_1,m_1<n∧x1= .ptr k 0∧S.le S_1∧w9 S_1 k 3 (F8 m)∧∃(r i:Nat),x3= .int .i64 (r:Int)∧x4= .int .i64 (i:Int)∧i+m_1=m.types.length∧r≤2097152∧r=a0+((m.types.take i).flatMap tyB).length) (i9 E fun d S'=>S'=S∧∃r:Nat,d= .int .i64 (r:Int)∧SzQ B r) (.ptr k 0) (.int .i64 (r2:Int)) (.int .i64 (i:Int)) T2:=fun r2 h2 hlt2=>by
  refine b9J ?_
  unfold b4B
  rw[a4I,oD,B3]
  refine⟨fun hgt=>fin hT2 (.inr ⟨by omega,by omega⟩),fun hng=> ?_⟩
  rw[s8,oD,j8 (by omega) (by omega)]
  exact⟨n - 1,by omega,rfl,hT2,cT2,r2,i+1,rfl,rfl,by omega,by omega,by omega⟩
 have next:∀r2:Nat,(t.kind≠7→r2=r+(tyB t).length)→(t.kind=7→r2+(A7 t.len).length=r+(tyB t).length)→r2<2^39→a2C E w0 x (fun x1 x3 x4 S_1=>∃m_1,m_1<n∧x1= .ptr k 0∧S.le S_1∧w9 S_1 k 3 (F8 m)∧∃(r i:Nat),x3= .int .i64 (r:Int)∧x4= .int .i64 (i:Int)∧i+m_1=m.types.length∧r≤2097152∧r=a0+((m.types.take i).flatMap tyB).length) (i9 E fun d S'=>S'=S∧∃r:Nat,d= .int .i64 (r:Int)∧SzQ B r) (.ptr k 0) (.int .i64 (r2:Int)) (.int .i64 (i:Int)) (.ptr k2 0) T2:=fun r2 g1 g2 hlt2=>by
  refine b9Z ?_
  unfold b4l
  try simp only[u5,oD,Nat.zero_add,c5.ld,p0,a0i]
  rw[B3]
  refine⟨fun k7=> ?_,fun k7=>done r2 (g1 k7) (by omega)⟩
  rw[p4,oD]
  refine sh' ?_
  rw[a8P _ _ (by omega),oD]
  exact done _ (g2 k7) (by omega)
 rw[e1,oD]
 try simp only[u5,oD,Nat.zero_add,c5.ld,p0,a0i]
 rw[B3]
 refine⟨fun k6=> ?_,fun k6=> ?_⟩
 ·have hty:(tyB t).length=1+((A7 t.name.length).length+t.name.length)+((A7 t.fields.length).length+(t.fields.flatMap a6W).length):=by
   unfold tyB K3
   rw[if_pos k6]
   simp only[List.length_cons,List.length_append,bytesOf,List.length_map]
   omega
  try simp only[u5,oD,Nat.zero_add,c5.ld,p1,p2,lnS,B0,E9,fwP,ne_eq,reduceCtorEq,not_false_eq_true,true_and,and_true,and_self]
  refine sh ?_
  try simp only[true_and,and_true,and_self,fwP]
  rw[a8P _ _ (by omega),oD]
  try simp only[u5,oD,Nat.zero_add,c5.ld,p1,p2,lnS,B0,E9,fwP,ne_eq,reduceCtorEq,not_false_eq_true,true_and,and_true,and_self]
  rw[a8P _ _ (by omega),oD]
  try simp only[u5,oD,Nat.zero_add,c5.ld,p1,p2,lnS,B0,E9,fwP,ne_eq,reduceCtorEq,not_false_eq_true,true_and,and_true,and_self]
  refine sh ?_
  try simp only[true_and,and_true,and_self,fwP]
  rw[a8P _ _ (by omega),oD]
  obtain⟨r1,hr1⟩:∃r1,r1=r+1+(A7 t.name.length).length+t.name.length+(A7 t.fields.length).length:=⟨_,rfl⟩
  rw[←hr1]
  refine c0g (I:=fun n' x1 x3 x4 x5 x6 T=>T2=T∧x1= .ptr k 0∧x4= .int .i64 (i:Int)∧x5= .ptr k2 0∧∃(j q:Nat),x6= .int .i64 (j:Int)∧j+n'=t.fields.length∧x3= .int .i64 (q:Int)∧q=r1+((t.fields.take j).flatMap a6W).length∧q≤3000000) ?_ (n:=t.fields.length)
   ⟨rfl,rfl,rfl,rfl,0,r1,rfl,by omega,rfl,by simp,by omega⟩
  rintro n' _ _ _ _ _ _ ⟨rfl,rfl,rfl,rfl,j,q,rfl,hj,rfl,hq,hq3⟩
  unfold a8F
  simp only[u5,oD,Nat.zero_add,c5.ld,p2,B0,A5]
  rw[B3]
  refine⟨fun hjl=> ?_,fun hjg=> ?_⟩
  ·have hjl:j<t.fields.length:=by omega
   obtain⟨f,hf⟩:∃f,f=t.fields[j]:=⟨_,rfl⟩
   have ef:t.fields[j]? =some f:=by rw[List.getElem?_eq_getElem hjl,hf]
   have b4:=b3 f (by rw[hf];exact List.getElem_mem _)
   have h2:=a5Q (f:=a6W) ef
   have hfl2:=a1z (f:=a6W) t.fields (j+1)
   have hfb:(a6W f).length=(A7 f.1.length).length+f.1.length+(A7 f.2).length:=by
    unfold a6W K3;simp only[List.length_append,bytesOf,List.length_map]
   have u0:=u6 f.1.length
   have u1:=u6 f.2
   have s0:(O1 f)[0]? =some (.str f.1):=rfl
   have s1:(O1 f)[1]? =some (.int .i64 f.2):=rfl
   simp only[V2 ef,ofE,oD,lsE,Nat.zero_add,s0,s1,lnS,E9,fwP,fwE,u5,c5.ld,p2,ne_eq,reduceCtorEq,not_false_eq_true,true_and,and_true,and_self]
   refine sh ?_
   try simp only[true_and,and_true,and_self,fwP,fwE]
   rw[a8P _ _ (by omega),oD]
   simp only[V2 ef,ofE,oD,lsE,Nat.zero_add,s0,s1,lnS,E9,fwP,fwE,u5,c5.ld,p2,ne_eq,reduceCtorEq,not_false_eq_true,true_and,and_true,and_self]
   rw[a8P _ _ (by omega),oD]
   try simp only[V2 ef,ofE,oD,lsE,Nat.zero_add,s0,s1,lnS,E9,fwP,fwE,u5,c5.ld,p2,ne_eq,reduceCtorEq,not_false_eq_true,true_and,and_true,and_self]
   refine sh ?_
   try simp only[true_and,and_true,and_self,fwP,fwE]
   rw[a8P _ _ (by omega),oD,a4I,oD,B3]
   refine⟨fun hgt=>fin hT2 (.inr ⟨by omega,by omega⟩),fun hng=> ?_⟩
   rw[s8,oD,j8 (by omega) (by omega)]
   exact⟨n' - 1,by omega,j+1,_,rfl,by omega,rfl,by rw[h2,hfb];omega,by omega⟩
  ·rw[List.take_of_length_le (by omega)]at hq
   exact next q (fun _=>by omega) (fun k7=>by omega) (by omega)
 ·have hty:(tyB t).length=1+(A7 t.elem).length+(if t.kind=7 then(A7 t.len).length else 0):=by
   unfold tyB
   rw[if_neg k6]
   by_cases k7:t.kind=7
   ·rw[if_pos k7,if_pos k7];simp only[List.length_cons,List.length_append];omega
   ·rw[if_neg k7,if_neg k7];simp only[List.length_cons,List.length_append,List.length_nil];omega
  rw[p3,oD]
  refine sh' ?_
  rw[a8P _ _ (by omega),oD]
  refine next _ (fun k7=> ?_) (fun k7=> ?_) (by omega)
  ·rw[if_neg k7]at hty;omega
  ·rw[if_pos k7]at hty;omega
end
end
end Go.Proofs.YtchnpgddpaonhaaGreat.d
end
