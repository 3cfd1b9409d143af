/- A part of the proof of ImageWrites. -/
import Derived.Test.YtchnpgddpaonhaaGreatRows
import Derived.Test.YtchnpgddpaonhaaGreatWap
import Derived.KernelRfl
import Derived.Test.YtchnpgddpaonhaaGreatWar
import Derived.Test.YtchnpgddpaonhaaGreatWaq
set_option linter.unusedVariables false
set_option linter.unusedSimpArgs false
set_option maxRecDepth 100000
section
open Go.Proofs Go Go.Am
namespace Go.Proofs.YtchnpgddpaonhaaGreat.d
def c9i:List (Nat×List Nat):=[]
def c9f:List (Nat×List Nat):=[]
def b8u(E:j6)(w0:World)(x:Bool)(Q:D→b9→Prop)(S:b9):Prop:=
 m8 S [(.int .i64 0),(.int .i64 0),(.int .i64 0),(.bool false)] fun v0 S1=>
 b7 (B8 (s5 [(.int .i64 0),(.int .i64 0),(.int .i64 0),(.bool false)] [(0,1,(.int .i64 2)),(2,1,(.int .i64 65535))])) fun v2=>
 j7 S1 4 v0 v2 fun v3 S4=>
 b7 (j2 S4 4 v0) fun v5=>Q v5 S4
theorem c3I{E:j6}{w0:World}{x:Bool}{Q:D→b9→Prop}{S:b9}(h:b8u E w0 x (i9 E Q) S):o9 Tryz.prog E w0 x a0O [] S Q:=
 l7 c9i c9f (fn:=Tryz.f119) (c:=Tryz.f119.body.getD .skip) m7 Tryz.func119 (by kernel_rfl) (by kernel_rfl) h
def c8w:List (Nat×List Nat):=[]
def c8v:List (Nat×List Nat):=[]
def b8i(E:j6)(w0:World)(x:Bool)(Q:D→b9→Prop)(a0:D)(S:b9):Prop:=
 m8 S [(.int .i64 0),(.int .i64 0),(.int .i64 0),(.bool false)] fun v0 S1=>
 b7 (B8 (s5 [(.int .i64 0),(.int .i64 0),(.int .i64 0),(.bool false)] [(0,1,(.int .i64 1)),(1,1,(.int .i64 1)),(2,1,a0)])) fun v2=>
 j7 S1 4 v0 v2 fun v3 S4=>
 b7 (j2 S4 4 v0) fun v5=>Q v5 S4
theorem c2V{E:j6}{w0:World}{x:Bool}{Q:D→b9→Prop}{a0:D}{S:b9}(h:b8i E w0 x (i9 E Q) a0 S):o9 Tryz.prog E w0 x Y3 [a0] S Q:=
 l7 c8w c8v (fn:=Tryz.f120) (c:=Tryz.f120.body.getD .skip) m7 Tryz.func120 (by kernel_rfl) (by kernel_rfl) h
def d0k:List (Nat×List Nat):=[]
def c9U:List (Nat×List Nat):=[]
def c0f(E:j6)(w0:World)(x:Bool)(Q:D→b9→Prop)(S:b9):Prop:=
 m8 S [(.int .i64 0),(.int .i64 0),(.int .i64 0),(.bool false)] fun v0 S1=>
 b7 (B8 (s5 [(.int .i64 0),(.int .i64 0),(.int .i64 0),(.bool false)] [(0,1,(.int .i64 4)),(2,1,(.int .i64 4294967295))])) fun v2=>
 j7 S1 4 v0 v2 fun v3 S4=>
 b7 (j2 S4 4 v0) fun v5=>Q v5 S4
theorem c6D{E:j6}{w0:World}{x:Bool}{Q:D→b9→Prop}{S:b9}(h:c0f E w0 x (i9 E Q) S):o9 Tryz.prog E w0 x a0q [] S Q:=
 l7 d0k c9U (fn:=Tryz.f109) (c:=Tryz.f109.body.getD .skip) m7 Tryz.func109 (by kernel_rfl) (by kernel_rfl) h
def c6j:List (Nat×List Nat):=[]
def c5B:List (Nat×List Nat):=[]
def b5B(E:j6)(w0:World)(x:Bool)(Q:D→b9→Prop)(a0 a1:D)(S:b9):Prop:=
 b7 (q6 a0) fun cs=>m8 S cs fun v0 S1=>
 b7 (i5 1 v0) fun v2=>
 b7 (b8 S1 v2) fun v3=>
 b7 (i6 .geq a1 v3) fun v4=>
 b7 (i4 (i0 v4 true) (some a1)) fun v5=>
 b7 (i4 (i0 v4 true) (i5 2 v0)) fun v6=>
 b7 (i4 (i0 v4 true) (b8 S1 v6)) fun v7=>
 b7 (i4 (i0 v4 true) (i6 .leq v5 v7)) fun v8=>
 b7 (o7 v4 v8 (.bool false)) fun v9=>
 Q v9 S1
theorem c0n{E:j6}{w0:World}{x:Bool}{Q:D→b9→Prop}{a0 a1:D}{S:b9}(h:b5B E w0 x (i9 E Q) a0 a1 S):o9 Tryz.prog E w0 x U1 [a0,a1] S Q:=
 l7 c6j c5B (fn:=Tryz.f110) (c:=Tryz.f110.body.getD .skip) m7 Tryz.func110 (by kernel_rfl) (by kernel_rfl) h
def c7O:List (Nat×List Nat):=[]
def c7Y:List (Nat×List Nat):=[]
def b8x(E:j6)(w0:World)(x:Bool)(Q:D→b9→Prop)(a0:D)(S:b9):Prop:=
 b7 (i6 .eql a0 (.int .u8 1)) fun v0=>
 j1 v0
 (b7 (B8 (s5 [(.int .i64 0),(.int .i64 0),(.int .i64 0),(.bool false)] [(0,1,(.int .i64 1)),(1,1,(.int .i64 (-128))),(2,1,(.int .i64 127)),(3,1,(.bool true))])) fun v1=>
 q7 S 4 (m9 4 (List.replicate 1 [(.int .i64 0),(.int .i64 0),(.int .i64 0),(.bool false)]) [(0,v1)]) 1 fun v2 S3=>
 Q (.tup [v2,(.bool true)]) S3)
 (b7 (i6 .eql a0 (.int .u8 2)) fun v4=>
 j1 v4
 (b7 (B8 (s5 [(.int .i64 0),(.int .i64 0),(.int .i64 0),(.bool false)] [(0,1,(.int .i64 4)),(1,1,(.int .i64 (-2147483648))),(2,1,(.int .i64 2147483647)),(3,1,(.bool true))])) fun v5=>
 q7 S 4 (m9 4 (List.replicate 1 [(.int .i64 0),(.int .i64 0),(.int .i64 0),(.bool false)]) [(0,v5)]) 1 fun v6 S7=>
 Q (.tup [v6,(.bool true)]) S7)
 (b7 (i6 .eql a0 (.int .u8 3)) fun v8=>
 j1 v8
 (b7 (B8 (s5 [(.int .i64 0),(.int .i64 0),(.int .i64 0),(.bool false)] [(0,1,(.int .i64 8)),(1,1,(.int .i64 (-9223372036854775808))),(2,1,(.int .i64 9223372036854775807)),(3,1,(.bool true))])) fun v9=>
 q7 S 4 (m9 4 (List.replicate 1 [(.int .i64 0),(.int .i64 0),(.int .i64 0),(.bool false)]) [(0,v9)]) 1 fun v10 S11=>
 Q (.tup [v10,(.bool true)]) S11)
 (b7 (i6 .eql a0 (.int .u8 6)) fun v12=>
 b7 (i4 (i0 v12 false) (some a0)) fun v13=>
 b7 (i4 (i0 v12 false) (i6 .eql v13 (.int .u8 7))) fun v14=>
 b7 (o7 v12 (.bool true) v14) fun v15=>
 b7 (i4 (i0 v15 false) (some a0)) fun v16=>
 b7 (i4 (i0 v15 false) (i6 .eql v16 (.int .u8 8))) fun v17=>
 b7 (o7 v15 (.bool true) v17) fun v18=>
 b7 (i4 (i0 v18 false) (some a0)) fun v19=>
 b7 (i4 (i0 v18 false) (i6 .eql v19 (.int .u8 50))) fun v20=>
 b7 (o7 v18 (.bool true) v20) fun v21=>
 b7 (i4 (i0 v21 false) (some a0)) fun v22=>
 b7 (i4 (i0 v21 false) (i6 .eql v22 (.int .u8 36))) fun v23=>
 b7 (o7 v21 (.bool true) v23) fun v24=>
 b7 (i4 (i0 v24 false) (some a0)) fun v25=>
 b7 (i4 (i0 v24 false) (i6 .geq v25 (.int .u8 39))) fun v26=>
 b7 (i4 (i0 v24 false) (some v26)) fun v27=>
 b7 (i4 (i0 v27 true) (some a0)) fun v28=>
 b7 (i4 (i0 v27 true) (i6 .leq v28 (.int .u8 45))) fun v29=>
 b7 (i4 (i0 v24 false) (o7 v27 v29 (.bool false))) fun v30=>
 b7 (o7 v24 (.bool true) v30) fun v31=>
 j1 v31
 (o9 Tryz.prog E w0 x a0O [] S fun v32 S33=>
 q7 S33 4 (m9 4 (List.replicate 1 [(.int .i64 0),(.int .i64 0),(.int .i64 0),(.bool false)]) [(0,v32)]) 1 fun v34 S35=>
 Q (.tup [v34,(.bool true)]) S35)
 (b7 (i6 .eql a0 (.int .u8 37)) fun v36=>
 b7 (i4 (i0 v36 false) (some a0)) fun v37=>
 b7 (i4 (i0 v36 false) (i6 .eql v37 (.int .u8 38))) fun v38=>
 b7 (o7 v36 (.bool true) v38) fun v39=>
 j1 v39
 (o9 Tryz.prog E w0 x a0O [] S fun v40 S41=>
 o9 Tryz.prog E w0 x a0O [] S41 fun v42 S43=>
 q7 S43 4 (m9 4 (List.replicate 2 [(.int .i64 0),(.int .i64 0),(.int .i64 0),(.bool false)]) [(0,v40),(1,v42)]) 2 fun v44 S45=>
 Q (.tup [v44,(.bool true)]) S45)
 (b7 (i6 .eql a0 (.int .u8 23)) fun v46=>
 b7 (i4 (i0 v46 false) (some a0)) fun v47=>
 b7 (i4 (i0 v46 false) (i6 .eql v47 (.int .u8 24))) fun v48=>
 b7 (o7 v46 (.bool true) v48) fun v49=>
 j1 v49
 (o9 Tryz.prog E w0 x Y3 [(.int .i64 5)] S fun v50 S51=>
 q7 S51 4 (m9 4 (List.replicate 1 [(.int .i64 0),(.int .i64 0),(.int .i64 0),(.bool false)]) [(0,v50)]) 1 fun v52 S53=>
 Q (.tup [v52,(.bool true)]) S53)
 (b7 (i6 .geq a0 (.int .u8 11)) fun v54=>
 b7 (i4 (i0 v54 true) (some a0)) fun v55=>
 b7 (i4 (i0 v54 true) (i6 .leq v55 (.int .u8 28))) fun v56=>
 b7 (o7 v54 v56 (.bool false)) fun v57=>
 j1 v57
 (o9 Tryz.prog E w0 x Y3 [(.int .i64 3)] S fun v58 S59=>
 q7 S59 4 (m9 4 (List.replicate 1 [(.int .i64 0),(.int .i64 0),(.int .i64 0),(.bool false)]) [(0,v58)]) 1 fun v60 S61=>
 Q (.tup [v60,(.bool true)]) S61)
 (b7 (i6 .eql a0 (.int .u8 29)) fun v62=>
 j1 v62
 (o9 Tryz.prog E w0 x Y3 [(.int .i64 3)] S fun v63 S64=>
 o9 Tryz.prog E w0 x Y3 [(.int .i64 3)] S64 fun v65 S66=>
 q7 S66 4 (m9 4 (List.replicate 2 [(.int .i64 0),(.int .i64 0),(.int .i64 0),(.bool false)]) [(0,v63),(1,v65)]) 2 fun v67 S68=>
 Q (.tup [v67,(.bool true)]) S68)
 (b7 (i6 .eql a0 (.int .u8 46)) fun v69=>
 b7 (i4 (i0 v69 false) (some a0)) fun v70=>
 b7 (i4 (i0 v69 false) (i6 .eql v70 (.int .u8 47))) fun v71=>
 b7 (o7 v69 (.bool true) v71) fun v72=>
 b7 (i4 (i0 v72 false) (some a0)) fun v73=>
 b7 (i4 (i0 v72 false) (i6 .eql v73 (.int .u8 48))) fun v74=>
 b7 (o7 v72 (.bool true) v74) fun v75=>
 j1 v75
 (o9 Tryz.prog E w0 x a0q [] S fun v76 S77=>
 q7 S77 4 (m9 4 (List.replicate 1 [(.int .i64 0),(.int .i64 0),(.int .i64 0),(.bool false)]) [(0,v76)]) 1 fun v78 S79=>
 Q (.tup [v78,(.bool true)]) S79)
 (b7 (i6 .eql a0 (.int .u8 52)) fun v80=>
 j1 v80
 (b7 (B8 (s5 [(.int .i64 0),(.int .i64 0),(.int .i64 0),(.bool false)] [(0,1,(.int .i64 1)),(2,1,(.int .i64 255))])) fun v81=>
 q7 S 4 (m9 4 (List.replicate 1 [(.int .i64 0),(.int .i64 0),(.int .i64 0),(.bool false)]) [(0,v81)]) 1 fun v82 S83=>
 Q (.tup [v82,(.bool true)]) S83)
 (b7 (i6 .eql a0 (.int .u8 49)) fun v84=>
 j1 v84
 (o9 Tryz.prog E w0 x Y3 [(.int .i64 3)] S fun v85 S86=>
 q7 S86 4 (m9 4 (List.replicate 1 [(.int .i64 0),(.int .i64 0),(.int .i64 0),(.bool false)]) [(0,v85)]) 1 fun v87 S88=>
 Q (.tup [v87,(.bool true)]) S88)
 (b7 (i6 .geq a0 (.int .u8 1)) fun v89=>
 b7 (i4 (i0 v89 true) (some a0)) fun v90=>
 b7 (i4 (i0 v89 true) (i6 .leq v90 (.int .u8 52))) fun v91=>
 b7 (o7 v89 v91 (.bool false)) fun v92=>
 Q (.tup [.nilSlc,v92]) S)))))))))))
theorem c3f{E:j6}{w0:World}{x:Bool}{Q:D→b9→Prop}{a0:D}{S:b9}(h:b8x E w0 x (i9 E Q) a0 S):o9 Tryz.prog E w0 x a5I [a0] S Q:=
 l7 c7O c7Y (fn:=Tryz.f106) (c:=Tryz.f106.body.getD .skip) m7 Tryz.func106 (by kernel_rfl) (by kernel_rfl) h
def b0q:List (Nat×List Nat):=[(12,[1,5])]
def b0C:List (Nat×List Nat):=[]
noncomputable def a7x:Code:=(j4 [1,1,1,0,1,0,0,1,0,0] (Tryz.f89.body.getD .skip))
def a7r(E:j6)(w0:World)(x:Bool)(Q:D→b9→Prop):o6→List D→b9→Prop:=
 (o8 0 (w6 Tryz.prog E w0 x b0q b0C (j4 [1,1,1,0,1,0,1] (Tryz.f89.body.getD .skip)) (w6 Tryz.prog E w0 x b0q b0C (j4 [1,1,1,1] (Tryz.f89.body.getD .skip)) (z7 Tryz.prog Tryz.f89 Q))))
def b4b(E:j6)(w0:World)(x:Bool)(N0:D→D→b9→Prop)(Q:D→b9→Prop)(x1 x5:D)(S:b9):Prop:=
 b7 (i5 3 x1) fun v35=>
 b7 (b8 S v35) fun v36=>
 b7 (l9 v36) fun v37=>
 b7 (i6 .lss x5 v37) fun v38=>
 j1 v38
 (b7 (i5 1 x1) fun v39=>
 b7 (b8 S v39) fun v40=>(True)∧
 b7 (E7 .u8 v40) fun v41=>
 b7 (i5 3 x1) fun v42=>
 b7 (b8 S v42) fun v43=>(True)∧
 b7 (p6 2 v43 x5) fun v44=>
 b7 (i5 0 v44) fun v45=>
 b7 (b8 S v45) fun v46=>(True)∧
 DF E (J6 Tryz.prog E w0) b3P [v41,v46] S fun v47 S48=>(True)∧
 b7 (unD .not v47) fun v49=>
 F7 (i0 v49 false) (fun K=>DF E (J6 Tryz.prog E w0) a0q [] S48 K) S48 fun v50 S51=>(True)∧
 b7 (i4 (i0 v49 false) (i5 3 x1)) fun v52=>
 b7 (i4 (i0 v49 false) (b8 S51 v52)) fun v53=>((i4 (i0 v49 false) (b8 S48 (j5 (i4 (i0 v49 false) (i5 3 x1))))≠none∧p7 (j5 (i4 (i0 v49 false) (i5 3 x1))) S48 S51)∧True)∧
 b7 (i4 (i0 v49 false) (some x5)) fun v54=>
 b7 (i4 (i0 v49 false) (p6 2 v53 v54)) fun v55=>
 b7 (i4 (i0 v49 false) (i5 1 v55)) fun v56=>
 b7 (i4 (i0 v49 false) (b8 S51 v56)) fun v57=>((i4 (i0 v49 false) (b8 S48 (j5 (i4 (i0 v49 false) (i5 1 (j5 (i4 (i0 v49 false) (p6 2 (j5 (i4 (i0 v49 false) (b8 S48 (j5 (i4 (i0 v49 false) (i5 3 x1)))))) (j5 (i4 (i0 v49 false) (some x5))))))))))≠none∧p7 (j5 (i4 (i0 v49 false) (i5 1 (j5 (i4 (i0 v49 false) (p6 2 (j5 (i4 (i0 v49 false) (b8 S48 (j5 (i4 (i0 v49 false) (i5 3 x1)))))) (j5 (i4 (i0 v49 false) (some x5))))))))) S48 S51)∧True)∧
 F7 (i0 v49 false) (fun K=>DF E (J6 Tryz.prog E w0) U1 [v50,v57] S51 K) S51 fun v58 S59=>(True)∧
 b7 (i4 (i0 v49 false) (unD .not v58)) fun v60=>
 b7 (o7 v49 (.bool true) v60) fun v61=>
 j1 v61
 (Q (.bool false) S59)
 (b7 (i6 .add x5 (.int .i64 1)) fun v62=>
 N0 x1 v62 S59))
 (b7 (i5 3 x1) fun v63=>
 b7 (b8 S v63) fun v64=>(True)∧
 b7 (l9 v64) fun v65=>(True)∧
 b7 (i6 .leq v65 (.int .i64 65535)) fun v66=>
 F7 (i0 v66 true) (fun K=>DF E (J6 Tryz.prog E w0) a0q [] S K) S fun v67 S68=>(True)∧
 b7 (i4 (i0 v66 true) (i5 2 x1)) fun v69=>
 b7 (i4 (i0 v66 true) (b8 S68 v69)) fun v70=>((i4 (i0 v66 true) (b8 S (j5 (i4 (i0 v66 true) (i5 2 x1))))≠none∧p7 (j5 (i4 (i0 v66 true) (i5 2 x1))) S S68)∧True)∧
 F7 (i0 v66 true) (fun K=>DF E (J6 Tryz.prog E w0) U1 [v67,v70] S68 K) S68 fun v71 S72=>(True)∧
 b7 (o7 v66 v71 (.bool false)) fun v73=>
 Q v73 S72)
theorem c6G{E:j6}{w0:World}{x:Bool}{N0:D→D→b9→Prop}{Q:D→b9→Prop}{x1 x5:D}{S:b9}(h:b4b E w0 x N0 Q x1 x5 S):
  j0 Tryz.prog E w0 x a7x (j9 105 [1,5] [x1,x5]) S (q8 (fun T S=>N0 (T.getD 1 d9) (T.getD 5 d9) S) (a7r E w0 x Q)):=j3 b0q b0C m7 (by kernel_rfl) h
theorem c5g{E:j6}{w0:World}{x:Bool}{Q:D→b9→Prop}(I:Nat→D→D→b9→Prop)
  (step:∀n x1 x5 S,I n x1 x5 S→b4b E w0 x (fun x1 x5 S=>∃m,m<n∧I m x1 x5 S) Q x1 x5 S)
  {n:Nat} {x1 x5:D} {S:b9} (h:I n x1 x5 S):j0 Tryz.prog E w0 x (.loop a7x) (j9 105 [1,5] [x1,x5]) S (a7r E w0 x Q):=
 o3 (k:=105) (n:=n) (I:=fun n T S=>I n (T.getD 1 d9) (T.getD 5 d9) S) (fun n T S hl hI=>o5 [1,5] hl (j0.mono (c6G (step n _ _ S hI)) fun ex T' S' _ hq=>by cases ex<;>exact hq)) (l8 ..) (Eq.mp (by kernel_rfl) h)
def c9u(E:j6)(w0:World)(x:Bool)(Q:D→b9→Prop)(a0:D)(S:b9):Prop:=
 b7 (q6 a0) fun cs=>m8 S cs fun v0 S1=>
 b7 (i5 0 v0) fun v2=>
 b7 (b8 S1 v2) fun v3=>
 o9 Tryz.prog E w0 x a5I [v3] S1 fun v4 S5=>
 b7 (o4 v4 0) fun v6=>
 b7 (o4 v4 1) fun v7=>
 b7 (unD .not v7) fun v8=>
 b7 (i4 (i0 v8 false) (some v6)) fun v9=>
 b7 (i4 (i0 v8 false) (l9 v9)) fun v10=>(True)∧
 b7 (i4 (i0 v8 false) (i6 .gtr v10 (.int .i64 0))) fun v11=>
 b7 (i4 (i0 v8 false) (some v11)) fun v12=>
 b7 (i4 (i0 v12 true) (some v6)) fun v13=>
 b7 (i4 (i0 v12 true) (p6 4 v13 (.int .i64 0))) fun v14=>
 b7 (i4 (i0 v12 true) (j2 S5 4 v14)) fun v15=>(True)∧
 b7 (i4 (i0 v12 true) (i5 1 v0)) fun v16=>
 b7 (i4 (i0 v12 true) (b8 S5 v16)) fun v17=>(True)∧
 F7 (i0 v12 true) (fun K=>DF E (J6 Tryz.prog E w0) U1 [v15,v17] S5 K) S5 fun v18 S19=>(True)∧
 b7 (i4 (i0 v12 true) (unD .not v18)) fun v20=>
 b7 (i4 (i0 v8 false) (o7 v12 v20 (.bool false))) fun v21=>
 b7 (o7 v8 (.bool true) v21) fun v22=>
 b7 (i4 (i0 v22 false) (some v6)) fun v23=>
 b7 (i4 (i0 v22 false) (l9 v23)) fun v24=>(True)∧
 b7 (i4 (i0 v22 false) (i6 .eql v24 (.int .i64 0))) fun v25=>
 b7 (i4 (i0 v22 false) (some v25)) fun v26=>
 b7 (i4 (i0 v26 true) (i5 1 v0)) fun v27=>
 b7 (i4 (i0 v26 true) (b8 S19 v27)) fun v28=>(True)∧
 b7 (i4 (i0 v26 true) (i6 .neq v28 (.int .i64 0))) fun v29=>
 b7 (i4 (i0 v22 false) (o7 v26 v29 (.bool false))) fun v30=>
 b7 (o7 v22 (.bool true) v30) fun v31=>
 j1 v31
 (Q (.bool false) S19)
 (b7 (i5 0 v0) fun v32=>
 b7 (b8 S19 v32) fun v33=>
 b7 (i6 .eql v33 (.int .u8 49)) fun v34=>
 j1 v34
 (j0 Tryz.prog E w0 x (.loop a7x) (j9 105 [1,5] [v0,(.int .i64 0)]) S19 (a7r E w0 x Q))
 (b7 (i5 3 v0) fun v74=>
 b7 (b8 S19 v74) fun v75=>
 b7 (l9 v75) fun v76=>
 b7 (i6 .gtr v76 (.int .i64 0)) fun v77=>
 j1 v77
 (Q (.bool false) S19)
 (b7 (l9 v6) fun v78=>(True)∧
 b7 (i6 .gtr v78 (.int .i64 1)) fun v79=>
 b7 (i4 (i0 v79 true) (some v6)) fun v80=>
 b7 (i4 (i0 v79 true) (p6 4 v80 (.int .i64 1))) fun v81=>
 b7 (i4 (i0 v79 true) (j2 S19 4 v81)) fun v82=>(True)∧
 b7 (i4 (i0 v79 true) (i5 2 v0)) fun v83=>
 b7 (i4 (i0 v79 true) (b8 S19 v83)) fun v84=>(True)∧
 F7 (i0 v79 true) (fun K=>DF E (J6 Tryz.prog E w0) U1 [v82,v84] S19 K) S19 fun v85 S86=>(True)∧
 b7 (o7 v79 v85 (.bool false)) fun v87=>
 b7 (i4 (i0 v87 false) (some v6)) fun v88=>
 b7 (i4 (i0 v87 false) (l9 v88)) fun v89=>(True)∧
 b7 (i4 (i0 v87 false) (i6 .lss v89 (.int .i64 2))) fun v90=>
 b7 (i4 (i0 v87 false) (some v90)) fun v91=>
 b7 (i4 (i0 v91 true) (i5 2 v0)) fun v92=>
 b7 (i4 (i0 v91 true) (b8 S86 v92)) fun v93=>(True)∧
 b7 (i4 (i0 v91 true) (i6 .eql v93 (.int .i64 0))) fun v94=>
 b7 (i4 (i0 v87 false) (o7 v91 v94 (.bool false))) fun v95=>
 b7 (o7 v87 (.bool true) v95) fun v96=>
 Q v96 S86)))
theorem d0z{E:j6}{w0:World}{x:Bool}{Q:D→b9→Prop}{a0:D}{S:b9}(h:c9u E w0 x (i9 E Q) a0 S):o9 Tryz.prog E w0 x b9V [a0] S Q:=
 l7 b0q b0C (fn:=Tryz.f89) (c:=Tryz.f89.body.getD .skip) m7 Tryz.func89 (by kernel_rfl) (by kernel_rfl) h
def c7d:List (Nat×List Nat):=[]
def c7z:List (Nat×List Nat):=[]
def b8J(E:j6)(w0:World)(x:Bool)(Q:D→b9→Prop)(a0 a1 a2 a3:D)(S:b9):Prop:=
 b7 (q6 a0) fun cs=>m8 S cs fun v0 S1=>
 m8 S1 [(.int .u8 0),(.str []), .nilSlc,(.int .i64 0),(.int .i64 0)] fun v2 S3=>
 b7 (i6 .sub a1 (.int .i64 16)) fun v4=>
 b7 (i6 .lss v4 (.int .i64 0)) fun v5=>
 b7 (i4 (i0 v5 false) (some v4)) fun v6=>
 b7 (i4 (i0 v5 false) (i5 0 v0)) fun v7=>
 b7 (i4 (i0 v5 false) (b8 S3 v7)) fun v8=>
 b7 (i4 (i0 v5 false) (l9 v8)) fun v9=>
 b7 (i4 (i0 v5 false) (i6 .geq v6 v9)) fun v10=>
 b7 (o7 v5 (.bool true) v10) fun v11=>
 j1 v11
 (b7 (B8 (s5 [(.int .u8 0),(.str []), .nilSlc,(.int .i64 0),(.int .i64 0)] [])) fun v12=>
 j7 S3 5 v2 v12 fun v13 S14=>
 b7 (j2 S14 5 v2) fun v15=>Q (.tup [v15,(.bool false)]) S14)
 (b7 (i5 0 v0) fun v16=>
 b7 (b8 S3 v16) fun v17=>
 b7 (p6 5 v17 v4) fun v18=>
 b7 (j2 S3 5 v18) fun v19=>
 m8 S3 [(.int .u8 0),(.str []), .nilSlc,(.int .i64 0),(.int .i64 0)] fun v20 S21=>
 j7 S21 5 v20 v19 fun v22 S23=>
 b7 (j2 S23 5 v20) fun v24=>(True)∧
 b7 (i5 0 v20) fun v25=>
 b7 (b8 S23 v25) fun v26=>(True)∧
 b7 (i6 .eql v26 a2) fun v27=>
 b7 (i4 (i0 v27 false) (i5 0 v20)) fun v28=>
 b7 (i4 (i0 v27 false) (b8 S23 v28)) fun v29=>(True)∧
 b7 (i4 (i0 v27 false) (some a3)) fun v30=>
 b7 (i4 (i0 v27 false) (i6 .eql v29 v30)) fun v31=>
 b7 (o7 v27 (.bool true) v31) fun v32=>
 j7 S23 5 v2 v24 fun v33 S34=>(p7 v28 S23 S34∧True)∧
 b7 (j2 S34 5 v2) fun v35=>Q (.tup [v35,v32]) S34)
theorem c3D{E:j6}{w0:World}{x:Bool}{Q:D→b9→Prop}{a0 a1 a2 a3:D}{S:b9}(h:b8J E w0 x (i9 E Q) a0 a1 a2 a3 S):o9 Tryz.prog E w0 x R6 [a0,a1,a2,a3] S Q:=
 l7 c7d c7z (fn:=Tryz.f112) (c:=Tryz.f112.body.getD .skip) m7 Tryz.func112 (by kernel_rfl) (by kernel_rfl) h
def d1M:List (Nat×List Nat):=[]
def d2X:List (Nat×List Nat):=[]
def c5b(E:j6)(w0:World)(x:Bool)(Q:D→b9→Prop)(a0:D)(S:b9):Prop:=
 r6 S 1 8 .nilSlc a0 fun v0 S1=>
 Q v0 S1
theorem c8f{E:j6}{w0:World}{x:Bool}{Q:D→b9→Prop}{a0:D}{S:b9}(h:c5b E w0 x (i9 E Q) a0 S):o9 Tryz.prog E w0 x b0t [a0] S Q:=
 l7 d1M d2X (fn:=Tryz.f90) (c:=Tryz.f90.body.getD .skip) m7 Tryz.func90 (by kernel_rfl) (by kernel_rfl) h
def a0T:List (Nat×List Nat):=[(18,[2,7,8,9,10,11])]
def a0R:List (Nat×List Nat):=[(25,[2,3,7,25,26])]
noncomputable def a8E:Code:=(j4 [1,1,0,1,0,1,0,1,1,0,1,0,0] (Tryz.f91.body.getD .skip))
def a9C(E:j6)(w0:World)(x:Bool)(Q:D→b9→Prop):o6→List D→b9→Prop:=
 (o8 1 (w6 Tryz.prog E w0 x a0T a0R (j4 [1,1,0,1,0,1,0,1,1,1] (Tryz.f91.body.getD .skip)) (o8 0 (w6 Tryz.prog E w0 x a0T a0R (j4 [1,1,1] (Tryz.f91.body.getD .skip)) (z7 Tryz.prog Tryz.f91 Q)))))
def a7U(E:j6)(w0:World)(x:Bool)(N0:D→D→D→D→D→D→b9→Prop)(Q:D→b9→Prop)(x2 x7 x8 x9 x10 x11:D)(S:b9):Prop:=
 b7 (i5 2 x8) fun v19=>
 b7 (b8 S v19) fun v20=>
 b7 (l9 v20) fun v21=>
 b7 (i6 .lss x11 v21) fun v22=>
 j1 v22
 (b7 (i5 2 x8) fun v23=>
 b7 (b8 S v23) fun v24=>
 b7 (p6 2 v24 x11) fun v25=>
 b7 (i5 1 v25) fun v26=>
 b7 (b8 S v26) fun v27=>
 q7 S 1 (m9 1 (List.replicate 1 [(.int .i64 0)]) [(0,v27)]) 1 fun v28 S29=>
 r6 S29 1 8 x10 v28 fun v30 S31=>
 b7 (i6 .add x11 (.int .i64 1)) fun v32=>
 N0 x2 x7 x8 x9 v30 v32 S31)
 (b7 (i5 0 x2) fun v33=>
 b7 (b8 S v33) fun v34=>
 b7 (i6 .eql v34 (.int .u8 36)) fun v35=>
 j1 v35
 (q7 S 1 (m9 1 (List.replicate 1 [(.int .i64 0)]) [(0,x7)]) 1 fun v36 S37=>
 Q (.tup [x10,v36,x9]) S37)
 (b7 (unD .not x9) fun v38=>
 b7 (i4 (i0 v38 false) (i5 2 x2)) fun v39=>
 b7 (i4 (i0 v38 false) (b8 S v39)) fun v40=>
 b7 (i4 (i0 v38 false) (some x10)) fun v41=>
 b7 (i4 (i0 v38 false) (l9 v41)) fun v42=>
 b7 (i4 (i0 v38 false) (i6 .geq v40 v42)) fun v43=>
 b7 (o7 v38 (.bool true) v43) fun v44=>
 j1 v44
 (Q (.tup [.nilSlc, .nilSlc,(.bool false)]) S)
 (b7 (i5 0 x2) fun v45=>
 b7 (b8 S v45) fun v46=>
 b7 (i6 .eql v46 (.int .u8 37)) fun v47=>
 j1 v47
 (x=false∧(q7 S 1 (m9 1 (List.replicate 1 [(.int .i64 0)]) [(0,x7)]) 1 fun v48 S49=>(True)∧
 b7 (i5 2 x2) fun v50=>
 b7 (b8 S49 v50) fun v51=>((b8 S (j5 (i5 2 x2))≠none∧p7 (j5 (i5 2 x2)) S S49)∧True)∧
 b7 (p6 1 x10 v51) fun v52=>
 b7 (b8 S49 v52) fun v53=>((b8 S (j5 (p6 1 (j5 (some x10)) (j5 (b8 S (j5 (i5 2 x2))))))≠none∧p7 (j5 (p6 1 (j5 (some x10)) (j5 (b8 S (j5 (i5 2 x2)))))) S S49)∧True)∧
 q7 S49 1 (m9 1 (List.replicate 1 [(.int .i64 0)]) [(0,v53)]) 1 fun v54 S55=>(True)∧
 Q (.tup [v48,v54,(.bool true)]) S55)∧
 (b7 (i5 2 x2) fun v56=>
 b7 (b8 S v56) fun v57=>(True)∧
 b7 (p6 1 x10 v57) fun v58=>
 b7 (b8 S v58) fun v59=>(True)∧
 q7 S 1 (m9 1 (List.replicate 1 [(.int .i64 0)]) [(0,v59)]) 1 fun v60 S61=>(True)∧
 q7 S61 1 (m9 1 (List.replicate 1 [(.int .i64 0)]) [(0,x7)]) 1 fun v62 S63=>(True)∧
 Q (.tup [v62,v60,(.bool true)]) S63)∧
 True)
 (b7 (i5 2 x2) fun v64=>
 b7 (b8 S v64) fun v65=>
 b7 (p6 1 x10 v65) fun v66=>
 b7 (b8 S v66) fun v67=>
 q7 S 1 (m9 1 (List.replicate 2 [(.int .i64 0)]) [(0,x7),(1,v67)]) 2 fun v68 S69=>
 Q (.tup [v68, .nilSlc,(.bool true)]) S69))))
theorem c2A{E:j6}{w0:World}{x:Bool}{N0:D→D→D→D→D→D→b9→Prop}{Q:D→b9→Prop}{x2 x7 x8 x9 x10 x11:D}{S:b9}(h:a7U E w0 x N0 Q x2 x7 x8 x9 x10 x11 S):
  j0 Tryz.prog E w0 x a8E (j9 171 [2,7,8,9,10,11] [x2,x7,x8,x9,x10,x11]) S (q8 (fun T S=>N0 (T.getD 2 d9) (T.getD 7 d9) (T.getD 8 d9) (T.getD 9 d9) (T.getD 10 d9) (T.getD 11 d9) S) (a9C E w0 x Q)):=j3 a0T a0R m7 (by kernel_rfl) h
theorem c0h{E:j6}{w0:World}{x:Bool}{Q:D→b9→Prop}(I:Nat→D→D→D→D→D→D→b9→Prop)
  (step:∀n x2 x7 x8 x9 x10 x11 S,I n x2 x7 x8 x9 x10 x11 S→a7U E w0 x (fun x2 x7 x8 x9 x10 x11 S=>∃m,m<n∧I m x2 x7 x8 x9 x10 x11 S) Q x2 x7 x8 x9 x10 x11 S)
  {n:Nat} {x2 x7 x8 x9 x10 x11:D} {S:b9} (h:I n x2 x7 x8 x9 x10 x11 S):j0 Tryz.prog E w0 x (.loop a8E) (j9 171 [2,7,8,9,10,11] [x2,x7,x8,x9,x10,x11]) S (a9C E w0 x Q):=
 o3 (k:=171) (n:=n) (I:=fun n T S=>I n (T.getD 2 d9) (T.getD 7 d9) (T.getD 8 d9) (T.getD 9 d9) (T.getD 10 d9) (T.getD 11 d9) S) (fun n T S hl hI=>o5 [2,7,8,9,10,11] hl (j0.mono (c2A (step n _ _ _ _ _ _ S hI)) fun ex T' S' _ hq=>by cases ex<;>exact hq)) (l8 ..) (Eq.mp (by kernel_rfl) h)
noncomputable def c5u:Code:=(j4 [1,1,0,1,0,1] (Tryz.f91.body.getD .skip))
def c3O(E:j6)(w0:World)(x:Bool)(Q:D→b9→Prop):o6→List D→b9→Prop:=
 (o8 0 (w6 Tryz.prog E w0 x a0T a0R (j4 [1,1,1] (Tryz.f91.body.getD .skip)) (z7 Tryz.prog Tryz.f91 Q)))
def b4m(E:j6)(w0:World)(x:Bool)(Q:D→b9→Prop)(x2 x3 x7 x25 x26:D)(S:b9):Prop:=
 j1 x26
 (b7 (j2 S 3 x3) fun v8=>
 b7 (i5 1 x2) fun v9=>
 b7 (b8 S v9) fun v10=>
 o9 Tryz.prog E w0 x R6 [v8,v10,(.int .u8 6),(.int .u8 6)] S fun v11 S12=>
 b7 (o4 v11 0) fun v13=>
 b7 (o4 v11 1) fun v14=>
 m8 S12 [(.int .u8 0),(.str []), .nilSlc,(.int .i64 0),(.int .i64 0)] fun v15 S16=>
 j7 S16 5 v15 v13 fun v17 S18=>
 j0 Tryz.prog E w0 x (.loop a8E) (j9 171 [2,7,8,9,10,11] [x2,x7,v15,v14, .nilSlc,(.int .i64 0)]) S18 (a9C E w0 x Q))
 (b7 (i6 .eql x25 (.int .u8 39)) fun v70=>
 j1 v70
 (b7 (j2 S 3 x3) fun v71=>
 b7 (i5 1 x2) fun v72=>
 b7 (b8 S v72) fun v73=>
 o9 Tryz.prog E w0 x R6 [v71,v73,(.int .u8 7),(.int .u8 7)] S fun v74 S75=>
 b7 (o4 v74 0) fun v76=>
 b7 (o4 v74 1) fun v77=>
 m8 S75 [(.int .u8 0),(.str []), .nilSlc,(.int .i64 0),(.int .i64 0)] fun v78 S79=>
 j7 S79 5 v78 v76 fun v80 S81=>
 b7 (i5 3 v78) fun v82=>
 b7 (b8 S81 v82) fun v83=>
 q7 S81 1 (m9 1 (List.replicate 1 [(.int .i64 0)]) [(0,v83)]) 1 fun v84 S85=>
 q7 S85 1 (m9 1 (List.replicate 1 [(.int .i64 0)]) [(0,x7)]) 1 fun v86 S87=>
 Q (.tup [v84,v86,v77]) S87)
 (b7 (i6 .eql x25 (.int .u8 40)) fun v88=>
 j1 v88
 (b7 (j2 S 3 x3) fun v89=>
 b7 (i5 1 x2) fun v90=>
 b7 (b8 S v90) fun v91=>
 o9 Tryz.prog E w0 x R6 [v89,v91,(.int .u8 8),(.int .u8 8)] S fun v92 S93=>
 b7 (o4 v92 0) fun v94=>
 b7 (o4 v92 1) fun v95=>
 m8 S93 [(.int .u8 0),(.str []), .nilSlc,(.int .i64 0),(.int .i64 0)] fun v96 S97=>
 j7 S97 5 v96 v94 fun v98 S99=>
 q7 S99 1 (m9 1 (List.replicate 1 [(.int .i64 0)]) [(0,x7)]) 1 fun v100 S101=>
 Q (.tup [.nilSlc,v100,v95]) S101)
 (b7 (i6 .eql x25 (.int .u8 44)) fun v102=>
 j1 v102
 (b7 (j2 S 3 x3) fun v103=>
 b7 (i5 1 x2) fun v104=>
 b7 (b8 S v104) fun v105=>
 o9 Tryz.prog E w0 x R6 [v103,v105,(.int .u8 8),(.int .u8 8)] S fun v106 S107=>
 b7 (o4 v106 0) fun v108=>
 b7 (o4 v106 1) fun v109=>
 m8 S107 [(.int .u8 0),(.str []), .nilSlc,(.int .i64 0),(.int .i64 0)] fun v110 S111=>
 j7 S111 5 v110 v108 fun v112 S113=>
 b7 (i5 3 v110) fun v114=>
 b7 (b8 S113 v114) fun v115=>
 q7 S113 1 (m9 1 (List.replicate 2 [(.int .i64 0)]) [(0,x7),(1,v115)]) 2 fun v116 S117=>
 Q (.tup [v116, .nilSlc,v109]) S117)
 (b7 (i6 .eql x25 (.int .u8 45)) fun v118=>
 j1 v118
 (b7 (j2 S 3 x3) fun v119=>
 b7 (i5 1 x2) fun v120=>
 b7 (b8 S v120) fun v121=>
 o9 Tryz.prog E w0 x R6 [v119,v121,(.int .u8 8),(.int .u8 8)] S fun v122 S123=>
 b7 (o4 v122 0) fun v124=>
 b7 (o4 v122 1) fun v125=>
 m8 S123 [(.int .u8 0),(.str []), .nilSlc,(.int .i64 0),(.int .i64 0)] fun v126 S127=>
 j7 S127 5 v126 v124 fun v128 S129=>
 x=false∧(q7 S129 1 (m9 1 (List.replicate 1 [(.int .i64 0)]) [(0,x7)]) 1 fun v130 S131=>(True)∧
 b7 (i5 3 v126) fun v132=>
 b7 (b8 S131 v132) fun v133=>((b8 S129 (j5 (i5 3 v126))≠none∧p7 (j5 (i5 3 v126)) S129 S131)∧True)∧
 q7 S131 1 (m9 1 (List.replicate 1 [(.int .i64 0)]) [(0,v133)]) 1 fun v134 S135=>(True)∧
 Q (.tup [v130,v134,v125]) S135)∧
 (b7 (i5 3 v126) fun v136=>
 b7 (b8 S129 v136) fun v137=>(True)∧
 q7 S129 1 (m9 1 (List.replicate 1 [(.int .i64 0)]) [(0,v137)]) 1 fun v138 S139=>(True)∧
 q7 S139 1 (m9 1 (List.replicate 1 [(.int .i64 0)]) [(0,x7)]) 1 fun v140 S141=>(True)∧
 Q (.tup [v140,v138,v125]) S141)∧
 True)
 (b7 (j2 S 3 x3) fun v142=>
 b7 (i5 1 x2) fun v143=>
 b7 (b8 S v143) fun v144=>
 o9 Tryz.prog E w0 x R6 [v142,v144,(.int .u8 7),(.int .u8 8)] S fun v145 S146=>
 b7 (o4 v145 0) fun v147=>
 b7 (o4 v145 1) fun v148=>
 m8 S146 [(.int .u8 0),(.str []), .nilSlc,(.int .i64 0),(.int .i64 0)] fun v149 S150=>
 j7 S150 5 v149 v147 fun v151 S152=>
 b7 (i5 0 x2) fun v153=>
 b7 (b8 S152 v153) fun v154=>
 b7 (i6 .eql v154 (.int .u8 41)) fun v155=>
 j1 v155
 (x=false∧(q7 S152 1 (m9 1 (List.replicate 2 [(.int .i64 0)]) [(0,x7),(1,(.int .i64 3))]) 2 fun v156 S157=>(True)∧
 b7 (i5 3 v149) fun v158=>
 b7 (b8 S157 v158) fun v159=>((b8 S152 (j5 (i5 3 v149))≠none∧p7 (j5 (i5 3 v149)) S152 S157)∧True)∧
 q7 S157 1 (m9 1 (List.replicate 1 [(.int .i64 0)]) [(0,v159)]) 1 fun v160 S161=>(True)∧
 Q (.tup [v156,v160,v148]) S161)∧
 (b7 (i5 3 v149) fun v162=>
 b7 (b8 S152 v162) fun v163=>(True)∧
 q7 S152 1 (m9 1 (List.replicate 1 [(.int .i64 0)]) [(0,v163)]) 1 fun v164 S165=>(True)∧
 q7 S165 1 (m9 1 (List.replicate 2 [(.int .i64 0)]) [(0,x7),(1,(.int .i64 3))]) 2 fun v166 S167=>(True)∧
 Q (.tup [v166,v164,v148]) S167)∧
 True)
 (b7 (i6 .eql v154 (.int .u8 42)) fun v168=>
 j1 v168
 (b7 (i5 3 v149) fun v169=>
 b7 (b8 S152 v169) fun v170=>
 q7 S152 1 (m9 1 (List.replicate 3 [(.int .i64 0)]) [(0,x7),(1,(.int .i64 3)),(2,v170)]) 3 fun v171 S172=>
 Q (.tup [v171, .nilSlc,v148]) S172)
 (q7 S152 1 (m9 1 (List.replicate 1 [(.int .i64 0)]) [(0,x7)]) 1 fun v173 S174=>
 q7 S174 1 (m9 1 (List.replicate 1 [(.int .i64 0)]) [(0,(.int .i64 3))]) 1 fun v175 S176=>
 Q (.tup [v173,v175,v148]) S176)))))))
def a0L(E:j6)(w0:World)(x:Bool)(Q:D→b9→Prop)(x2 x3 x7 x25 x26:D)(S:b9):Prop:=j0 Tryz.prog E w0 x c5u (j9 171 [2,3,7,25,26] [x2,x3,x7,x25,x26]) S (c3O E w0 x Q)
theorem b9D{E:j6}{w0:World}{x:Bool}{Q:D→b9→Prop}{x2 x3 x7 x25 x26:D}{S:b9}(h:b4m E w0 x Q x2 x3 x7 x25 x26 S):a0L E w0 x Q x2 x3 x7 x25 x26 S:=j3 a0T a0R m7 (by kernel_rfl) h
def c0G(E:j6)(w0:World)(x:Bool)(Q:D→b9→Prop)(a0 a1:D)(S:b9):Prop:=
 b7 (q6 a0) fun cs=>m8 S cs fun v0 S1=>
 b7 (q6 a1) fun cs=>m8 S1 cs fun v2 S3=>
 b7 (i5 1 v0) fun v4=>
 b7 (b8 S3 v4) fun v5=>
 b7 (i5 0 v0) fun v6=>
 b7 (b8 S3 v6) fun v7=>
 b7 (i6 .eql v7 (.int .u8 36)) fun v177=>
 j1 v177
 (a0L E w0 x Q v0 v2 v5 v7 v177 S3)
 (b7 (i6 .eql v7 (.int .u8 37)) fun v178=>
 j1 v178
 (a0L E w0 x Q v0 v2 v5 v7 v178 S3)
 (b7 (i6 .eql v7 (.int .u8 38)) fun v179=>
 a0L E w0 x Q v0 v2 v5 v7 v179 S3))
theorem c5k{E:j6}{w0:World}{x:Bool}{Q:D→b9→Prop}{a0 a1:D}{S:b9}(h:c0G E w0 x (i9 E Q) a0 a1 S):o9 Tryz.prog E w0 x b2D [a0,a1] S Q:=
 l7 a0T a0R (fn:=Tryz.f91) (c:=Tryz.f91.body.getD .skip) m7 Tryz.func91 (by kernel_rfl) (by kernel_rfl) h
def c7E:List (Nat×List Nat):=[]
def c8N:List (Nat×List Nat):=[]
def b8B(E:j6)(w0:World)(x:Bool)(Q:D→b9→Prop)(a0:D)(S:b9):Prop:=
 b7 (q6 a0) fun cs=>m8 S cs fun v0 S1=>
 b7 (i5 1 v0) fun v2=>
 b7 (b8 S1 v2) fun v3=>
 b7 (i5 0 v0) fun v4=>
 b7 (b8 S1 v4) fun v5=>
 b7 (i6 .geq v5 (.int .u8 1)) fun v6=>
 b7 (i4 (i0 v6 true) (i5 0 v0)) fun v7=>
 b7 (i4 (i0 v6 true) (b8 S1 v7)) fun v8=>
 b7 (i4 (i0 v6 true) (i6 .leq v8 (.int .u8 3))) fun v9=>
 b7 (o7 v6 v9 (.bool false)) fun v10=>
 j1 v10
 (b7 (i5 0 v0) fun v11=>
 b7 (b8 S1 v11) fun v12=>(True)∧
 b7 (E7 .i64 v12) fun v13=>
 q7 S1 1 (m9 1 (List.replicate 1 [(.int .i64 0)]) [(0,v13)]) 1 fun v14 S15=>(True)∧
 Q (.tup [.nilSlc,v14]) S15)
 (b7 (i5 0 v0) fun v16=>
 b7 (b8 S1 v16) fun v17=>
 b7 (i6 .eql v17 (.int .u8 4)) fun v18=>
 b7 (i4 (i0 v18 false) (i5 0 v0)) fun v19=>
 b7 (i4 (i0 v18 false) (b8 S1 v19)) fun v20=>
 b7 (i4 (i0 v18 false) (i6 .eql v20 (.int .u8 5))) fun v21=>
 b7 (o7 v18 (.bool true) v21) fun v22=>
 j1 v22
 (q7 S1 1 (m9 1 (List.replicate 1 [(.int .i64 0)]) [(0,(.int .i64 4))]) 1 fun v23 S24=>
 Q (.tup [.nilSlc,v23]) S24)
 (b7 (i5 0 v0) fun v25=>
 b7 (b8 S1 v25) fun v26=>
 b7 (i6 .eql v26 (.int .u8 6)) fun v27=>
 j1 v27
 (q7 S1 1 (m9 1 (List.replicate 1 [(.int .i64 0)]) [(0,(.int .i64 5))]) 1 fun v28 S29=>
 Q (.tup [.nilSlc,v28]) S29)
 (b7 (i5 0 v0) fun v30=>
 b7 (b8 S1 v30) fun v31=>
 b7 (i6 .eql v31 (.int .u8 7)) fun v32=>
 j1 v32
 (q7 S1 1 (m9 1 (List.replicate 1 [(.int .i64 0)]) [(0,(.int .i64 0))]) 1 fun v33 S34=>
 Q (.tup [.nilSlc,v33]) S34)
 (b7 (i5 0 v0) fun v35=>
 b7 (b8 S1 v35) fun v36=>
 b7 (i6 .eql v36 (.int .u8 8)) fun v37=>
 b7 (i4 (i0 v37 false) (i5 0 v0)) fun v38=>
 b7 (i4 (i0 v37 false) (b8 S1 v38)) fun v39=>
 b7 (i4 (i0 v37 false) (i6 .eql v39 (.int .u8 9))) fun v40=>
 b7 (o7 v37 (.bool true) v40) fun v41=>
 j1 v41
 (q7 S1 1 (m9 1 (List.replicate 1 [(.int .i64 0)]) [(0,(.int .i64 0))]) 1 fun v42 S43=>
 Q (.tup [v42, .nilSlc]) S43)
 (b7 (i5 0 v0) fun v44=>
 b7 (b8 S1 v44) fun v45=>
 b7 (i6 .eql v45 (.int .u8 10)) fun v46=>
 j1 v46
 (q7 S1 1 (m9 1 (List.replicate 1 [(.int .i64 0)]) [(0,(.int .i64 0))]) 1 fun v47 S48=>
 q7 S48 1 (m9 1 (List.replicate 2 [(.int .i64 0)]) [(0,(.int .i64 0)),(1,(.int .i64 0))]) 2 fun v49 S50=>
 Q (.tup [v47,v49]) S50)
 (b7 (i5 0 v0) fun v51=>
 b7 (b8 S1 v51) fun v52=>
 b7 (i6 .geq v52 (.int .u8 11)) fun v53=>
 b7 (i4 (i0 v53 true) (i5 0 v0)) fun v54=>
 b7 (i4 (i0 v53 true) (b8 S1 v54)) fun v55=>
 b7 (i4 (i0 v53 true) (i6 .leq v55 (.int .u8 20))) fun v56=>
 b7 (o7 v53 v56 (.bool false)) fun v57=>
 j1 v57
 (q7 S1 1 (m9 1 (List.replicate 2 [(.int .i64 0)]) [(0,v3),(1,v3)]) 2 fun v58 S59=>
 q7 S59 1 (m9 1 (List.replicate 1 [(.int .i64 0)]) [(0,v3)]) 1 fun v60 S61=>
 Q (.tup [v58,v60]) S61)
 (b7 (i5 0 v0) fun v62=>
 b7 (b8 S1 v62) fun v63=>
 b7 (i6 .eql v63 (.int .u8 21)) fun v64=>
 b7 (i4 (i0 v64 false) (i5 0 v0)) fun v65=>
 b7 (i4 (i0 v64 false) (b8 S1 v65)) fun v66=>
 b7 (i4 (i0 v64 false) (i6 .eql v66 (.int .u8 22))) fun v67=>
 b7 (o7 v64 (.bool true) v67) fun v68=>
 j1 v68
 (q7 S1 1 (m9 1 (List.replicate 1 [(.int .i64 0)]) [(0,v3)]) 1 fun v69 S70=>
 q7 S70 1 (m9 1 (List.replicate 1 [(.int .i64 0)]) [(0,v3)]) 1 fun v71 S72=>
 Q (.tup [v69,v71]) S72)
 (b7 (i5 0 v0) fun v73=>
 b7 (b8 S1 v73) fun v74=>
 b7 (i6 .geq v74 (.int .u8 23)) fun v75=>
 b7 (i4 (i0 v75 true) (i5 0 v0)) fun v76=>
 b7 (i4 (i0 v75 true) (b8 S1 v76)) fun v77=>
 b7 (i4 (i0 v75 true) (i6 .leq v77 (.int .u8 28))) fun v78=>
 b7 (o7 v75 v78 (.bool false)) fun v79=>
 j1 v79
 (q7 S1 1 (m9 1 (List.replicate 2 [(.int .i64 0)]) [(0,v3),(1,v3)]) 2 fun v80 S81=>
 q7 S81 1 (m9 1 (List.replicate 1 [(.int .i64 0)]) [(0,(.int .i64 4))]) 1 fun v82 S83=>
 Q (.tup [v80,v82]) S83)
 (b7 (i5 0 v0) fun v84=>
 b7 (b8 S1 v84) fun v85=>
 b7 (i6 .eql v85 (.int .u8 29)) fun v86=>
 j1 v86
 (x=false∧(q7 S1 1 (m9 1 (List.replicate 1 [(.int .i64 0)]) [(0,v3)]) 1 fun v87 S88=>(True)∧
 b7 (i5 2 v0) fun v89=>
 b7 (b8 S88 v89) fun v90=>((b8 S1 (j5 (i5 2 v0))≠none∧p7 (j5 (i5 2 v0)) S1 S88)∧True)∧
 q7 S88 1 (m9 1 (List.replicate 1 [(.int .i64 0)]) [(0,v90)]) 1 fun v91 S92=>(True)∧
 Q (.tup [v87,v91]) S92)∧
 (b7 (i5 2 v0) fun v93=>
 b7 (b8 S1 v93) fun v94=>(True)∧
 q7 S1 1 (m9 1 (List.replicate 1 [(.int .i64 0)]) [(0,v94)]) 1 fun v95 S96=>(True)∧
 q7 S96 1 (m9 1 (List.replicate 1 [(.int .i64 0)]) [(0,v3)]) 1 fun v97 S98=>(True)∧
 Q (.tup [v97,v95]) S98)∧
 True)
 (b7 (i5 0 v0) fun v99=>
 b7 (b8 S1 v99) fun v100=>
 b7 (i6 .eql v100 (.int .u8 30)) fun v101=>
 j1 v101
 (q7 S1 1 (m9 1 (List.replicate 1 [(.int .i64 0)]) [(0,(.int .i64 4))]) 1 fun v102 S103=>
 q7 S103 1 (m9 1 (List.replicate 1 [(.int .i64 0)]) [(0,(.int .i64 4))]) 1 fun v104 S105=>
 Q (.tup [v102,v104]) S105)
 (b7 (i5 0 v0) fun v106=>
 b7 (b8 S1 v106) fun v107=>
 b7 (i6 .eql v107 (.int .u8 31)) fun v108=>
 j1 v108
 (q7 S1 1 (m9 1 (List.replicate 2 [(.int .i64 0)]) [(0,(.int .i64 5)),(1,(.int .i64 5))]) 2 fun v109 S110=>
 q7 S110 1 (m9 1 (List.replicate 1 [(.int .i64 0)]) [(0,(.int .i64 5))]) 1 fun v111 S112=>
 Q (.tup [v109,v111]) S112)
 (b7 (i5 0 v0) fun v113=>
 b7 (b8 S1 v113) fun v114=>
 b7 (i6 .eql v114 (.int .u8 32)) fun v115=>
 j1 v115
 (q7 S1 1 (m9 1 (List.replicate 1 [(.int .i64 0)]) [(0,(.int .i64 5))]) 1 fun v116 S117=>
 q7 S117 1 (m9 1 (List.replicate 1 [(.int .i64 0)]) [(0,(.int .i64 3))]) 1 fun v118 S119=>
 Q (.tup [v116,v118]) S119)
 (b7 (i5 0 v0) fun v120=>
 b7 (b8 S1 v120) fun v121=>
 b7 (i6 .eql v121 (.int .u8 33)) fun v122=>
 j1 v122
 (q7 S1 1 (m9 1 (List.replicate 2 [(.int .i64 0)]) [(0,(.int .i64 5)),(1,(.int .i64 3))]) 2 fun v123 S124=>
 q7 S124 1 (m9 1 (List.replicate 1 [(.int .i64 0)]) [(0,(.int .i64 2))]) 1 fun v125 S126=>
 Q (.tup [v123,v125]) S126)
 (b7 (i5 0 v0) fun v127=>
 b7 (b8 S1 v127) fun v128=>
 b7 (i6 .eql v128 (.int .u8 34)) fun v129=>
 j1 v129
 (q7 S1 1 (m9 1 (List.replicate 3 [(.int .i64 0)]) [(0,(.int .i64 5)),(1,(.int .i64 3)),(2,(.int .i64 3))]) 3 fun v130 S131=>
 q7 S131 1 (m9 1 (List.replicate 1 [(.int .i64 0)]) [(0,(.int .i64 5))]) 1 fun v132 S133=>
 Q (.tup [v130,v132]) S133)
 (b7 (i5 0 v0) fun v134=>
 b7 (b8 S1 v134) fun v135=>
 b7 (i6 .eql v135 (.int .u8 35)) fun v136=>
 j1 v136
 (q7 S1 1 (m9 1 (List.replicate 1 [(.int .i64 0)]) [(0,(.int .i64 2))]) 1 fun v137 S138=>
 q7 S138 1 (m9 1 (List.replicate 1 [(.int .i64 0)]) [(0,(.int .i64 5))]) 1 fun v139 S140=>
 Q (.tup [v137,v139]) S140)
 (b7 (i5 0 v0) fun v141=>
 b7 (b8 S1 v141) fun v142=>
 b7 (i6 .eql v142 (.int .u8 47)) fun v143=>
 b7 (i4 (i0 v143 false) (i5 0 v0)) fun v144=>
 b7 (i4 (i0 v143 false) (b8 S1 v144)) fun v145=>
 b7 (i4 (i0 v143 false) (i6 .eql v145 (.int .u8 48))) fun v146=>
 b7 (o7 v143 (.bool true) v146) fun v147=>
 j1 v147
 (q7 S1 1 (m9 1 (List.replicate 1 [(.int .i64 0)]) [(0,(.int .i64 4))]) 1 fun v148 S149=>
 Q (.tup [v148, .nilSlc]) S149)
 (b7 (i5 0 v0) fun v150=>
 b7 (b8 S1 v150) fun v151=>
 b7 (i6 .eql v151 (.int .u8 49)) fun v152=>
 j1 v152
 (q7 S1 1 (m9 1 (List.replicate 1 [(.int .i64 0)]) [(0,v3)]) 1 fun v153 S154=>
 Q (.tup [v153, .nilSlc]) S154)
 (Q (.tup [.nilSlc, .nilSlc]) S1))))))))))))))))))
theorem c3v{E:j6}{w0:World}{x:Bool}{Q:D→b9→Prop}{a0:D}{S:b9}(h:b8B E w0 x (i9 E Q) a0 S):o9 Tryz.prog E w0 x b1o [a0] S Q:=
 l7 c7E c8N (fn:=Tryz.f92) (c:=Tryz.f92.body.getD .skip) m7 Tryz.func92 (by kernel_rfl) (by kernel_rfl) h
def c9C:List (Nat×List Nat):=[]
def c6X:List (Nat×List Nat):=[]
def b8r(E:j6)(w0:World)(x:Bool)(Q:D→b9→Prop)(a0 a1:D)(S:b9):Prop:=
 b7 (q6 a0) fun cs=>m8 S cs fun v0 S1=>
 b7 (q6 a1) fun cs=>m8 S1 cs fun v2 S3=>
 b7 (j2 S3 4 v0) fun v4=>
 o9 Tryz.prog E w0 x b9V [v4] S3 fun v5 S6=>
 b7 (unD .not v5) fun v7=>
 j1 v7
 (Q (.tup [.nilSlc, .nilSlc,(.int .i64 120)]) S6)
 (b7 (i5 0 v0) fun v8=>
 b7 (b8 S6 v8) fun v9=>
 b7 (i6 .eql v9 (.int .u8 6)) fun v10=>
 b7 (i4 (i0 v10 true) (i5 1 v0)) fun v11=>
 b7 (i4 (i0 v10 true) (b8 S6 v11)) fun v12=>
 b7 (i4 (i0 v10 true) (i5 1 v2)) fun v13=>
 b7 (i4 (i0 v10 true) (b8 S6 v13)) fun v14=>
 b7 (i4 (i0 v10 true) (l9 v14)) fun v15=>
 b7 (i4 (i0 v10 true) (i6 .geq v12 v15)) fun v16=>
 b7 (o7 v10 v16 (.bool false)) fun v17=>
 b7 (i4 (i0 v17 false) (i5 0 v0)) fun v18=>
 b7 (i4 (i0 v17 false) (b8 S6 v18)) fun v19=>
 b7 (i4 (i0 v17 false) (i6 .eql v19 (.int .u8 50))) fun v20=>
 b7 (i4 (i0 v17 false) (some v20)) fun v21=>
 b7 (i4 (i0 v21 true) (i5 1 v0)) fun v22=>
 b7 (i4 (i0 v21 true) (b8 S6 v22)) fun v23=>
 b7 (i4 (i0 v21 true) (i5 2 v2)) fun v24=>
 b7 (i4 (i0 v21 true) (b8 S6 v24)) fun v25=>
 b7 (i4 (i0 v21 true) (l9 v25)) fun v26=>
 b7 (i4 (i0 v21 true) (i6 .geq v23 v26)) fun v27=>
 b7 (i4 (i0 v17 false) (o7 v21 v27 (.bool false))) fun v28=>
 b7 (o7 v17 (.bool true) v28) fun v29=>
 j1 v29
 (Q (.tup [.nilSlc, .nilSlc,(.int .i64 2)]) S6)
 (b7 (i5 0 v0) fun v30=>
 b7 (b8 S6 v30) fun v31=>
 b7 (i6 .eql v31 (.int .u8 50)) fun v32=>
 j1 v32
 (b7 (i5 2 v2) fun v33=>
 b7 (b8 S6 v33) fun v34=>(True)∧
 b7 (i5 1 v0) fun v35=>
 b7 (b8 S6 v35) fun v36=>(True)∧
 b7 (p6 6 v34 v36) fun v37=>
 b7 (i5 1 v37) fun v38=>
 b7 (b8 S6 v38) fun v39=>(True)∧
 DF E (J6 Tryz.prog E w0) b0t [v39] S6 fun v40 S41=>(True)∧
 b7 (i5 2 v2) fun v42=>
 b7 (b8 S41 v42) fun v43=>((b8 S6 (j5 (i5 2 v2))≠none∧p7 (j5 (i5 2 v2)) S6 S41)∧True)∧
 b7 (i5 1 v0) fun v44=>
 b7 (b8 S41 v44) fun v45=>((b8 S6 (j5 (i5 1 v0))≠none∧p7 (j5 (i5 1 v0)) S6 S41)∧True)∧
 b7 (p6 6 v43 v45) fun v46=>
 b7 (i5 2 v46) fun v47=>
 b7 (b8 S41 v47) fun v48=>((b8 S6 (j5 (i5 2 (j5 (p6 6 (j5 (b8 S6 (j5 (i5 2 v2)))) (j5 (b8 S6 (j5 (i5 1 v0))))))))≠none∧p7 (j5 (i5 2 (j5 (p6 6 (j5 (b8 S6 (j5 (i5 2 v2)))) (j5 (b8 S6 (j5 (i5 1 v0)))))))) S6 S41)∧True)∧
 DF E (J6 Tryz.prog E w0) b0t [v48] S41 fun v49 S50=>(True)∧
 Q (.tup [v40,v49,(.int .i64 0)]) S50)
 (b7 (i5 0 v0) fun v51=>
 b7 (b8 S6 v51) fun v52=>
 b7 (i6 .geq v52 (.int .u8 36)) fun v53=>
 b7 (i4 (i0 v53 true) (i5 0 v0)) fun v54=>
 b7 (i4 (i0 v53 true) (b8 S6 v54)) fun v55=>
 b7 (i4 (i0 v53 true) (i6 .leq v55 (.int .u8 45))) fun v56=>
 b7 (o7 v53 v56 (.bool false)) fun v57=>
 j1 v57
 (b7 (j2 S6 4 v0) fun v58=>
 b7 (j2 S6 3 v2) fun v59=>
 o9 Tryz.prog E w0 x b2D [v58,v59] S6 fun v60 S61=>
 b7 (o4 v60 0) fun v62=>
 b7 (o4 v60 1) fun v63=>
 b7 (o4 v60 2) fun v64=>
 b7 (unD .not v64) fun v65=>
 j1 v65
 (Q (.tup [.nilSlc, .nilSlc,(.int .i64 2)]) S61)
 (Q (.tup [v62,v63,(.int .i64 0)]) S61))
 (b7 (j2 S6 4 v0) fun v66=>
 o9 Tryz.prog E w0 x b1o [v66] S6 fun v67 S68=>
 b7 (o4 v67 0) fun v69=>
 b7 (o4 v67 1) fun v70=>
 Q (.tup [v69,v70,(.int .i64 0)]) S68))))
theorem c4f{E:j6}{w0:World}{x:Bool}{Q:D→b9→Prop}{a0 a1:D}{S:b9}(h:b8r E w0 x (i9 E Q) a0 a1 S):o9 Tryz.prog E w0 x a5A [a0,a1] S Q:=
 l7 c9C c6X (fn:=Tryz.f57) (c:=Tryz.f57.body.getD .skip) m7 Tryz.func57 (by kernel_rfl) (by kernel_rfl) h
end Go.Proofs.YtchnpgddpaonhaaGreat.d
end
section
open Go.Proofs Go Go.Am Go.Op
namespace Go.Proofs.YtchnpgddpaonhaaGreat.d
section
def a5O(f:Fld):List D:=[.int .i64 (f.size:Int), .int .i64 f.lo, .int .i64 f.hi, .bool (decide (f.lo<0))]
theorem orD{a:Bool}{n m:Int}{K:D→Prop}:(b7 (i4 (i0 (.bool a) false) (some (.int .u8 n))) fun v13=>b7 (i4 (i0 (.bool a) false) (i6 .eql v13 (.int .u8 m))) fun v14=>b7 (o7 (.bool a) (.bool true) v14) K)=K (.bool (a||n==m)):=by
 cases a<;>simp
theorem e3i{n m k:Int}{K:D→Prop}:(b7 (i6 .geq (.int .u8 n) (.int .u8 m)) fun v=>b7 (i4 (i0 v true) (some (.int .u8 n))) fun v'=>b7 (i4 (i0 v true) (i6 .leq v' (.int .u8 k))) fun v''=>b7 (o7 v v'' (.bool false)) K)=K (.bool (decide (m≤n∧n≤k))):=by
 by_cases h:m≤n
 ·by_cases h2:n≤k<;>simp[h,h2]
 ·simp[h]
theorem e0N{a:Bool}{n m k:Int}{K:D→Prop}:(b7 (i4 (i0 (.bool a) false) (some (.int .u8 n))) fun v25=>b7 (i4 (i0 (.bool a) false) (i6 .geq v25 (.int .u8 m))) fun v26=>b7 (i4 (i0 (.bool a) false) (some v26)) fun v27=>b7 (i4 (i0 v27 true) (some (.int .u8 n))) fun v28=>
  b7 (i4 (i0 v27 true) (i6 .leq v28 (.int .u8 k))) fun v29=>b7 (i4 (i0 (.bool a) false) (o7 v27 v29 (.bool false))) fun v30=>b7 (o7 (.bool a) (.bool true) v30) K)=K (.bool (a||decide (m≤n∧n≤k))):=by
 cases a
 ·by_cases h:m≤n
  ·by_cases h2:n≤k<;>simp[h,h2]
  ·simp[h]
 ·simp
section
variable{E:j6}{w0:World}{x:Bool}{S:b9}{op:Int}
theorem d2t{ds:List D}(hl:ds.length=4){Q:D→b9→Prop}(h:∀ {S':b9},S.le S'→i9 E Q (.agg ds) S'):m8 S [(.int .i64 0),(.int .i64 0),(.int .i64 0),(.bool false)] fun v0 S1=>j7 S1 4 v0 (.agg ds) fun v3 S4=>b7 (j2 S4 4 v0) fun v5=>i9 E Q v5 S4:=by
 intro k acs hk
 refine stP (ds:=ds) (b9.set_same _ _ _) (J5 _) ⟨hl,by decide,by simp⟩ fun acs=> ?_
 have e:o0 [(D.int .i64 0),(.int .i64 0),(.int .i64 0),(.bool false)] 0 ds=ds:=by
  match ds,hl with
  | [a,b,c,d],_=>rfl
 rw[b9.set_set,e,laP (b9.set_same _ _ _) ⟨by decide,by omega⟩,oD,List.drop_zero,List.take_of_length_le (by omega)]
 exact h (b9.le_new hk)
theorem a4E:L1 Tryz.prog E w0 a0O [] (.agg (a5O fIx)):=fun x S=>by
 refine c3I ?_
 unfold b8u
 simp only[s5,clI,o0,List.length_cons,List.length_nil,List.set,agS,oD,Nat.reduceAdd,Nat.reduceLeDiff,and_self,if_true]
 exact d2t rfl fun h=>i9.less h i9.pure
theorem a2u:L1 Tryz.prog E w0 a0q [] (.agg (a5O K2)):=fun x S=>by
 refine c6D ?_
 unfold c0f
 simp only[s5,clI,o0,List.length_cons,List.length_nil,List.set,agS,oD,Nat.reduceAdd,Nat.reduceLeDiff,and_self,if_true]
 exact d2t rfl fun h=>i9.less h i9.pure
theorem a1C{hi:Int}:L1 Tryz.prog E w0 Y3 [.int .i64 hi] (.agg (a5O ⟨1,1,hi⟩)):=fun x S=>by
 refine c2V ?_
 unfold b8i
 simp only[s5,clI,o0,List.length_cons,List.length_nil,List.set,agS,oD,Nat.reduceAdd,Nat.reduceLeDiff,and_self,if_true]
 exact d2t rfl fun h=>i9.less h i9.pure
theorem V6{f:Fld}{n:Int}:L1 Tryz.prog E w0 U1 [.agg (a5O f), .int .i64 n] (.bool (f.may n)):=fun x S=>by
 refine c0n ?_
 unfold b5B
 rw[J5,oD]
 intro k acs hk
 have l:∀i,b8 (S.set k ⟨(a5O f).length,[a5O f],acs⟩) (.ptr k i)=(a5O f)[i]? :=fun i=>D5 (b9.set_same _ _ _)
 rw[u5,oD,l,show(a5O f)[0+1]? =some (.int .i64 f.lo) from rfl,oD]
 by_cases h:f.lo≤n
 ·by_cases h2:n≤f.hi
  ·simp[h,h2,l,show(a5O f)[2]? =some (.int .i64 f.hi) from rfl]
   refine i9.drop hk ?_
   rw[show f.may n=true by unfold Fld.may;simp[h,h2]];exact i9.pure
  ·simp[h,h2,l,show(a5O f)[2]? =some (.int .i64 f.hi) from rfl]
   refine i9.drop hk ?_
   rw[show f.may n=false by unfold Fld.may;simp[h,h2]];exact i9.pure
 ·simp[h]
  refine i9.drop hk ?_
  rw[show f.may n=false by unfold Fld.may;simp[h]];exact i9.pure
theorem d1N{ds:List D}(hl:ds.length=4){K:D→b9→Prop}(h:K (.lst [ds] 4) S):q7 S 4 (m9 4 (List.replicate 1 [(.int .i64 0),(.int .i64 0),(.int .i64 0),(.bool false)]) [(0, .agg ds)]) 1 K:=by
 simp only[m9,J5,List.length_cons,List.length_nil,List.replicate,List.set]
 rw[if_pos ⟨hl,by decide⟩]
 exact F5 rfl h
theorem e0J{ds:List D}(hl:ds.length=4){K:D→b9→Prop}(h:K (.lst [ds,ds] 4) S):q7 S 4 (m9 4 (List.replicate 2 [(.int .i64 0),(.int .i64 0),(.int .i64 0),(.bool false)]) [(0, .agg ds),(1, .agg ds)]) 2 K:=by
 simp only[m9,J5,List.length_cons,List.length_nil,List.replicate,List.set]
 rw[if_pos ⟨hl,by decide⟩,if_pos ⟨hl,by decide⟩]
 exact F5 rfl h
theorem b6s:L1 Tryz.prog E w0 a5I [.int .u8 op] (.tup [.lst (((lay op).getD []).map a5O) 4, .bool (lay op).isSome]):=fun x S=>by
 refine c3f ?_
 unfold b8x
 rw[←d6B]
 unfold d1Q
 have e0:∀d:D,d= .tup [.lst (((d1Q op).getD []).map a5O) 4, .bool (d1Q op).isSome]→i9 E (fun d' S'=>d'= .tup [.lst (((d1Q op).getD []).map a5O) 4, .bool (d1Q op).isSome]∧S'=S) d S:=fun d h=>h▸i9.pure
 unfold d1Q at e0
 simp only[Y4,oD,orD,e3i,e0N,cdB]
 simp only[s5,clI,clB,o0,List.length_cons,List.length_nil,List.set,agS,oD,Nat.reduceAdd,Nat.reduceLeDiff,and_self,if_true]
 refine⟨fun h=> ?_,fun h1=>⟨fun h=> ?_,fun h2=>⟨fun h=> ?_,fun h3=>⟨fun h=> ?_,fun h4=>⟨fun h=> ?_,fun h5=>⟨fun h=> ?_,fun h6=>⟨fun h=> ?_,fun h7=>⟨fun h=> ?_,fun h8=>⟨fun h=> ?_,fun h9=>⟨fun h=> ?_,fun h10=>⟨fun h=> ?_,fun h11=> ?_⟩⟩⟩⟩⟩⟩⟩⟩⟩⟩⟩
 all_goals
  try replace h1:¬op=1:=by simpa using h1
  try replace h2:¬op=2:=by simpa using h2
  try replace h3:¬op=3:=by simpa using h3
  try replace h8:¬op=29:=by simpa using h8
  try replace h10:¬op=52:=by simpa using h10
  try replace h11:¬op=49:=by simpa using h11
  try simp only[if_neg h1]at e0 ⊢
  try simp only[if_neg h2]at e0 ⊢
  try simp only[if_neg h3]at e0 ⊢
  try simp only[h4,Bool.false_eq_true,if_false]at e0 ⊢
  try simp only[h5,Bool.false_eq_true,if_false]at e0 ⊢
  try simp only[h6,Bool.false_eq_true,if_false]at e0 ⊢
  try simp only[h7,Bool.false_eq_true,if_false]at e0 ⊢
  try simp only[if_neg h8]at e0 ⊢
  try simp only[h9,Bool.false_eq_true,if_false]at e0 ⊢
  try simp only[if_neg h10]at e0 ⊢
  try simp only[if_neg h11]at e0 ⊢
 ·replace h:op=1:=by simpa using h
  simp only[if_pos h]at e0 ⊢;exact d1N rfl (e0 _ rfl)
 ·replace h:op=2:=by simpa using h
  simp only[if_pos h]at e0 ⊢;exact d1N rfl (e0 _ rfl)
 ·replace h:op=3:=by simpa using h
  simp only[if_pos h]at e0 ⊢;exact d1N rfl (e0 _ rfl)
 ·simp only[h,if_true]at e0 ⊢;exact a4E.use (d1N rfl (e0 _ rfl))
 ·simp only[h,if_true]at e0 ⊢;exact a4E.use (a4E.use (e0J rfl (e0 _ rfl)))
 ·simp only[h,if_true]at e0 ⊢;exact a1C.use (d1N rfl (e0 _ rfl))
 ·simp only[h,if_true]at e0 ⊢;exact a1C.use (d1N rfl (e0 _ rfl))
 ·replace h:op=29:=by simpa using h
  simp only[if_pos h]at e0 ⊢;exact a1C.use (a1C.use (e0J rfl (e0 _ rfl)))
 ·simp only[h,if_true]at e0 ⊢;exact a2u.use (d1N rfl (e0 _ rfl))
 ·replace h:op=52:=by simpa using h
  simp only[if_pos h]at e0 ⊢;exact d1N rfl (e0 _ rfl)
 ·replace h:op=49:=by simpa using h
  simp only[if_pos h]at e0 ⊢;exact a1C.use (d1N rfl (e0 _ rfl))
 ·by_cases h12:decide (1≤op∧op≤52)=true
  ·simp only[h12,if_true]at e0 ⊢;exact i9.nilT (lp:=[]) (sz:=4) (e0 _ rfl)
  ·have h12:decide (1≤op∧op≤52)=false:=by simpa using h12
   simp only[h12,Bool.false_eq_true,if_false]at e0 ⊢;exact i9.nilT (lp:=[]) (sz:=4) (e0 _ rfl)
end
end
section
def d7u(U b:Nat):Nat:=U % 2^b+(U / 2^(b - 1)) % 2*(2^64 - 2^b)
theorem d4C(w:Int):∃b:Nat,U2 w=(b:Int)∧(b=0∨b=8∨b=32∨b=64):=by
 unfold U2
 split
 ·exact⟨8,rfl,by omega⟩
 split
 ·exact⟨32,rfl,by omega⟩
 split
 ·exact⟨64,rfl,by omega⟩
 ·exact⟨0,rfl,by omega⟩
theorem d2L(U i:Nat):U % 2^i+U / 2^i % 2*2^i=U % 2^(i+1):=by
 rw[Nat.pow_succ,Nat.mod_mul,Nat.mul_comm (2^i)]
theorem e1K{w n:Int}(hn:I64 n)(hw:0<U2 w):IntKind.i64.wrap (d7u (n % 18446744073709551616).toNat (U2 w).toNat:Nat)=b8L w n:=by
 obtain⟨h0,h1⟩:=hn
 have iw:∀z:Int,IntKind.i64.wrap z=if 9223372036854775808≤z % 18446744073709551616 then z % 18446744073709551616 - 18446744073709551616 else z % 18446744073709551616:=by
  intro z
  simp only[IntKind.wrap,IntKind.bits,IntKind.signed];simp
 unfold b8L
 unfold U2 at hw ⊢
 by_cases w1:w=1
 ·simp only[if_pos w1]
  have hw8:IntKind.i64.wrap (if 128≤n % 256 then n % 256 - 256 else n % 256)=if 128≤n % 256 then n % 256 - 256 else n % 256:=j8 (by split<;>omega) (by split<;>omega)
  rw[d7k,hw8,iw]
  simp only[d7u,show(8:Int).toNat=8 from rfl]
  split<;>split<;>omega
 simp only[if_neg w1]at hw ⊢
 by_cases w2:w=2
 ·simp only[if_pos w2]
  have hw8:IntKind.i64.wrap (if 2147483648≤n % 4294967296 then n % 4294967296 - 4294967296 else n % 4294967296)=if 2147483648≤n % 4294967296 then n % 4294967296 - 4294967296 else n % 4294967296:=j8 (by split<;>omega) (by split<;>omega)
  rw[d3W,hw8,iw]
  simp only[d7u,show(32:Int).toNat=32 from rfl]
  split<;>split<;>omega
 simp only[if_neg w2]at hw ⊢
 by_cases w3:w=3
 ·simp only[if_pos w3]
  rw[iw]
  simp only[d7u,show(64:Int).toNat=64 from rfl]
  split<;>omega
 simp only[if_neg w3]at hw
 omega
section
variable{E:j6}{w0:World}{x:Bool}{S:b9}
theorem b0R{w:Int}:L1 Tryz.prog E w0 a4n [.int .u8 w] (.int .i64 (U2 w)):=fun x S=>by
 refine c5W ?_
 unfold c1v U2
 simp only[Y4,oD,cdB,beq_iff_eq,beq_eq_false_iff_ne,ne_eq]
 refine⟨fun h=> ?_,fun h1=>⟨fun h=> ?_,fun h2=>⟨fun h=> ?_,fun h3=> ?_⟩⟩⟩<;>simp only[*,if_true,if_false]<;>exact i9.pure
theorem c9Y{w n:Int}(hw:0<U2 w):L1 Tryz.prog E w0 b3k [.int .u8 w, .int .i64 n] (.int .i64 (IntKind.i64.wrap (d7u (n % 18446744073709551616).toNat (U2 w).toNat:Nat))):=fun x S=>by
 refine c5j ?_
 unfold c0p
 refine b0R.use ?_
 obtain⟨b,hb,hbc⟩:=d4C w
 rw[hb]at hw ⊢
 rw[Int.toNat_natCast]
 obtain⟨U,hU⟩:∃U,U=(n % 18446744073709551616).toNat:=⟨_,rfl⟩
 have hUl:U<2^64:=by omega
 rw[←hU]
 have hu:IntKind.u64.wrap n=(U:Int):=by rw[c1c,hU]
 have hb64:b≤64:=by omega
 have pow_le:∀ {x y:Nat},x≤y→2^x≤2^y:=fun h=>Nat.pow_le_pow_right (by decide) h
 refine c0I (I:=fun m t1 t5 t6 t7 S'=>t1= .int .i64 n∧t5= .int .i64 (b:Int)∧S'=S∧∃i:Nat,t7= .int .i64 (i:Int)∧i+m=b∧t6= .int .u64 ((U % 2^i:Nat):Int)) ?_ (n:=b)
  ⟨rfl,rfl,rfl,0,rfl,by omega,by simp[Nat.mod_one]⟩
 rintro m _ _ _ _ S3 ⟨rfl,rfl,rfl,i,rfl,hi,rfl⟩
 unfold a8f
 rw[A5,oD,B3]
 refine⟨fun hlt=> ?_,fun hge=> ?_⟩
 ·have hlt:i<b:=by omega
  have h1:U % 2^i<2^i:=Nat.mod_lt _ (Nat.pow_pos (by decide))
  have h2:U % 2^(i+1)<2^(i+1):=Nat.mod_lt _ (Nat.pow_pos (by decide))
  have h3:=pow_le (show i+1≤64 by omega)
  have h4:=d2L U i
  have h5:U / 2^i % 2*2^i<2^64:=by omega
  rw[cvI,oD,hu,d1J (by omega),oD,d6w,oD,c2r (by omega) h5,oD,d2Z (by have:=pow_le (show i≤64 by omega);omega) h5,oD,c9d h1,h4,s8,oD,j8 (by omega) (by omega)]
  exact⟨m - 1,by omega,rfl,rfl,rfl,i+1,by simp,by omega,rfl⟩
 ·obtain rfl:i=b:=by omega
  obtain⟨s,hs⟩:∃s,s=U / 2^(i - 1) % 2:=⟨_,rfl⟩
  have hs2:s<2:=by rw[hs];exact Nat.mod_lt _ (by decide)
  have hpow:2^i≤2^64:=pow_le hb64
  refine c1K (I:=fun m t1 t5 t6 t8 S2=>t1= .int .i64 n∧t5= .int .i64 (i:Int)∧S2=S3∧∃j:Nat,t8= .int .i64 (j:Int)∧j+m=64∧i≤j∧t6= .int .u64 ((U % 2^i+s*(2^j - 2^i):Nat):Int)) ?_ (n:=64 - i)
   ⟨rfl,rfl,rfl,i,rfl,by omega,Nat.le_refl _,by simp⟩
  rintro m _ _ _ _ _ ⟨rfl,rfl,rfl,j,rfl,hj,hij,rfl⟩
  unfold a9O
  have c0:decide ((i:Int)>0)=true:=decide_eq_true (by omega)
  simp only[a4I,oD,c0,C5,beq_self_eq_true,P7,A5,C3,if_true]
  rw[B3]
  have h1:U % 2^i<2^i:=Nat.mod_lt _ (Nat.pow_pos (by decide))
  have hp:=pow_le hij
  refine⟨fun hlt=> ?_,fun hge=> ?_⟩
  ·have hlt:j<64:=by omega
   have hp1:=pow_le (show j+1≤64 by omega)
   have hp2:2^(j+1)=2^j*2:=Nat.pow_succ ..
   have hm:s*(2^j - 2^i)≤2^j - 2^i∧s*2^j≤2^j∧s*(2^(j+1) - 2^i)=s*(2^j - 2^i)+s*2^j:=by
    have:s=0∨s=1:=by omega
    rcases this with h|h<;>rw[h]<;>omega
   obtain⟨m1,m2,m3⟩:=hm
   have e1:IntKind.i64.wrap ((i:Int) - 1)=((i - 1:Nat):Int):=by rw[j8 (by omega) (by omega)];omega
   have q1:s*2^j<2^64:=by omega
   have q2:U % 2^i+s*(2^j - 2^i)<2^64:=by omega
   have q3:U % 2^i+s*(2^j - 2^i)<2^j:=by omega
   rw[cvI,oD,hu,a4S,oD,e1,d1J (by omega),oD,d6w,oD, ←hs,c2r (show j≤64 by omega) q1,oD,d2Z q2 q1,oD,c9d q3,s8,oD,j8 (by omega) (by omega)]
   exact⟨m - 1,by omega,by trivial,by trivial,by trivial,j+1,by simp,by omega,by omega,by rw[m3,Nat.add_assoc]⟩
  ·obtain rfl:j=64:=by omega
   rw[cvI,oD]
   unfold d7u
   rw[←hs]
   exact i9.pure
theorem d0D{w n:Int}(hn:I64 n):L1 Tryz.prog E w0 b3P [.int .u8 w, .int .i64 n] (.bool (decide (a1D w≤n∧n≤a1B w))):=fun x S=>by
 refine c5h ?_
 unfold c0m
 refine b0R.use ?_
 have hi:=d4O (w:=w) hn
 by_cases hb:U2 w>0
 ·simp[hb]
  refine(c9Y hb).use ?_
  rw[e1K hn hb]
  have e:(b8L w n==n)=decide (a1D w≤n∧n≤a1B w):=by
   by_cases hw:b8L w n=n
   ·rw[decide_eq_true (hi.1 ⟨hb,hw⟩),hw];simp
   ·rw[decide_eq_false (fun h=>hw (hi.2 h).2)];simpa using hw
  simp[e]
  exact i9.pure
 ·have e:decide (a1D w≤n∧n≤a1B w)=false:=decide_eq_false fun h=>hb (hi.2 h).1
  rw[e]
  simp[hb]
  exact i9.pure
end
end
section
@[simp] theorem e3g(row:List D)(rows:List (List D))(sz:Nat):p6 sz (.lst (row::rows) sz) (.int .i64 0)=some (.elt row 0):=b9k (i:=0) rfl
@[simp] theorem e3a(a row:List D)(rows:List (List D))(sz:Nat):p6 sz (.lst (a::row::rows) sz) (.int .i64 1)=some (.elt row 0):=b9k (i:=1) rfl
@[simp] theorem e0C(S:b9)(f:Fld):j2 S 4 (.elt (a5O f) 0)=some (.agg (a5O f)):=(rfl)
theorem a7l(a b:Int):(a==b)=decide (a=b):=by by_cases h:a=b<;>simp[h]
section
variable{E:j6}{w0:World}{x:Bool}{S:b9}{y:In}
theorem d9S{S0:b9}{k0:Nat}{a0:List AV}(n0:S0 k0=none)(ho:y.Ok):j0 Tryz.prog E w0 x (.loop a7x) (j9 105 [1,5] [.ptr k0 0,(.int .i64 0)]) (S0.set k0 ⟨4,[J2 y],a0⟩)
  (a7r E w0 x (i9 E fun d' S'=>d'= .bool (decide (y.arms.length≤65535)&&y.arms.all (b4z (IntKind.u8.wrap y.a))&&K2.may y.b)∧S'=S0)):=by
 have l0:∀i,b8 (S0.set k0 ⟨4,[J2 y],a0⟩) (.ptr k0 i)=(J2 y)[i]? :=fun i=>D5 (b9.set_same _ _ _)
 have l1:b8 (S0.set k0 ⟨4,[J2 y],a0⟩) (.ptr k0 1)=some (.int .i64 y.a):=l0 1
 have l2:b8 (S0.set k0 ⟨4,[J2 y],a0⟩) (.ptr k0 2)=some (.int .i64 y.b):=l0 2
 have l3:b8 (S0.set k0 ⟨4,[J2 y],a0⟩) (.ptr k0 3)=some (a7v y.arms):=l0 3
 have hsh:=ho.short
 refine c5g (I:=fun n x1 x5 S'=>∃j:Nat,j+n=y.arms.length∧x1= .ptr k0 0∧x5= .int .i64 (j:Int)∧S'=S0.set k0 ⟨4,[J2 y],a0⟩∧(y.arms.take j).all (b4z (IntKind.u8.wrap y.a))=true) ?_ (n:=y.arms.length)
  ⟨0,by omega,rfl,rfl,rfl,by simp⟩
 rintro n _ _ _ ⟨j,hj,rfl,rfl,rfl,hall⟩
 unfold b4b
 simp only[u5,oD,Nat.zero_add,l3,b5o,A5]
 rw[B3]
 refine⟨fun hlt=> ?_,fun hge=> ?_⟩
 ·have hlt:j<y.arms.length:=by omega
  obtain⟨z,hz⟩:∃z,z=y.arms[j]:=⟨_,rfl⟩
  have hjz:y.arms[j]? =some z:=by rw[List.getElem?_eq_getElem hlt,hz]
  obtain⟨hz1,hz2⟩:=ho.arms z (by rw[hz];exact List.getElem_mem _)
  simp only[l1,oD,cvI,d2s hjz,ofE,lsE,show(a0g z)[0+0]? =some (.int .i64 z.1) from rfl,show(a0g z)[0]? =some (.int .i64 z.1) from rfl]
  refine⟨by trivial,by trivial,by trivial,(d0D hz1).useX ⟨by trivial, ?_⟩⟩
  rw[unN,oD,C5]
  have hbad:b4z (IntKind.u8.wrap y.a) z=false→i9 E (fun d' S'=>d'=D.bool (decide (y.arms.length≤65535)&&y.arms.all (b4z (IntKind.u8.wrap y.a))&&K2.may y.b)∧S'=S0) (.bool false) (S0.set k0 ⟨4,[J2 y],a0⟩):=fun h=>by
   have:y.arms.all (b4z (IntKind.u8.wrap y.a))=false:=by
    rw[List.all_eq_false]
    exact⟨z,by rw[hz];exact List.getElem_mem _,by simp[h]⟩
   rw[this,Bool.and_false,Bool.false_and]
   exact i9.drop n0 i9.pure
  by_cases hf:a1D (IntKind.u8.wrap y.a)≤z.1∧z.1≤a1B (IntKind.u8.wrap y.a)
  ·simp only[hf,and_self,decide_true,Bool.not_true,beq_self_eq_true,gdT,P7,oD,j5]
   refine a2u.useX ⟨by trivial, ?_⟩
   simp only[l3,oD,j5,fwP,d2s hjz,ofE,lsE,show(a0g z)[0+1]? =some (.int .i64 z.2) from rfl,fwE]
   refine⟨⟨⟨by simp,by trivial⟩,by trivial⟩,⟨⟨by simp[a0g],by trivial⟩,by trivial⟩,V6.useX ⟨by trivial, ?_⟩⟩
   simp only[unN,oD,C3,Bool.false_eq_true,if_false]
   cases hm:K2.may z.2 with
   |true=>
    simp only[Bool.not_true,cdF]
    rw[s8,oD,j8 (by omega) (by omega)]
    refine⟨n - 1,by omega,j+1,by omega,by trivial,by trivial,by trivial, ?_⟩
    rw[List.take_add_one,hjz,Option.toList_some,List.all_append,hall,List.all_cons,List.all_nil,c0v,hm,Bool.and_true,Bool.and_true,Bool.true_and]
    unfold Fld.may Op.vF
    exact decide_eq_true hf
   |false=>
    simp only[Bool.not_false,cdT]
    exact hbad (by rw[c0v,hm,Bool.and_false])
  ·simp only[hf,decide_false,Bool.not_false,show((true==false)=false) from rfl,gdF,vdF,oD,C3,if_true,cdT,j5]
   refine⟨by trivial, ?_⟩
   have hfw:∀S':b9,p7 d9 S' S'=True:=fun _=>rfl
   simp only[hfw]
   refine⟨⟨⟨by simp,by trivial⟩,by trivial⟩,⟨⟨by simp,by trivial⟩,by trivial⟩,by trivial, ?_⟩
   exact hbad (by rw[c0v];unfold Fld.may Op.vF;rw[decide_eq_false hf];rfl)
 ·have hj':j=y.arms.length:=by omega
  subst hj'
  rw[List.take_length]at hall
  rw[hall]
  refine⟨by trivial,by trivial, ?_⟩
  rw[c5w,oD]
  by_cases hle:y.arms.length≤65535
  ·have c:decide ((y.arms.length:Int)≤65535)=true:=decide_eq_true (by omega)
   have c':decide (y.arms.length≤65535)=true:=decide_eq_true hle
   simp only[c,c',C5,beq_self_eq_true,gdT,P7,oD,j5,u5,Nat.zero_add]
   refine a2u.useX ⟨by trivial, ?_⟩
   simp only[l2,oD,fwP]
   refine⟨⟨⟨by simp,by trivial⟩,by trivial⟩,V6.useX ⟨by trivial, ?_⟩⟩
   simp only[C3,if_true,oD,Bool.true_and]
   exact i9.drop n0 i9.pure
  ·have c:decide ((y.arms.length:Int)≤65535)=false:=decide_eq_false (by omega)
   have c':decide (y.arms.length≤65535)=false:=decide_eq_false hle
   have hfw:∀S':b9,p7 d9 S' S'=True:=fun _=>rfl
   simp only[c,c',C5,show((false==true)=false) from rfl,gdF,vdF,oD,j5,hfw,C3,Bool.false_eq_true,if_false,Bool.false_and]
   refine⟨by trivial,⟨⟨by simp,by trivial⟩,by trivial⟩,by trivial, ?_⟩
   exact i9.drop n0 i9.pure
theorem d3U(ho:y.Ok):L1 Tryz.prog E w0 b9V [inD y] (.bool (isS y)):=fun x S=>by
 refine d0z ?_
 unfold c9u
 rw[inD,J5,oD]
 intro k0 a0 n0
 have l0:∀i,b8 (S.set k0 ⟨(J2 y).length,[J2 y],a0⟩) (.ptr k0 i)=(J2 y)[i]? :=fun i=>D5 (b9.set_same _ _ _)
 have z0:b8 (S.set k0 ⟨(J2 y).length,[J2 y],a0⟩) (.ptr k0 0)=some (.int .u8 y.op):=l0 0
 have l1:b8 (S.set k0 ⟨(J2 y).length,[J2 y],a0⟩) (.ptr k0 1)=some (.int .i64 y.a):=l0 1
 have l2:b8 (S.set k0 ⟨(J2 y).length,[J2 y],a0⟩) (.ptr k0 2)=some (.int .i64 y.b):=l0 2
 have l3:b8 (S.set k0 ⟨(J2 y).length,[J2 y],a0⟩) (.ptr k0 3)=some (a7v y.arms):=l0 3
 have hloop:=d9S (E:=E) (w0:=w0) (x:=x) (y:=y) (a0:=a0) n0 ho
 rw[u5,oD,z0,oD]
 refine b6s.use ?_
 have fin:∀b:Bool,b=isS y→i9 E (fun d' S'=>d'=D.bool (isS y)∧S'=S) (.bool b) (S.set k0 ⟨(J2 y).length,[J2 y],a0⟩):=fun b h=>by rw[h];exact i9.drop n0 i9.pure
 have hdef:isS y=((lay y.op).isSome&&Y8 y 0 ((lay y.op).getD [])&&
   if y.op=49 then decide (y.arms.length≤65535)&&y.arms.all (b4z (IntKind.u8.wrap y.a))&&K2.may y.b
   else decide (y.arms.length=0)&&(decide (2≤((lay y.op).getD []).length)||decide (y.b=0))&&(decide (1≤((lay y.op).getD []).length)||decide (y.a=0))):=rfl
 have hl2:((lay y.op).getD []).length≤2:=a8k
 have h49l:= @d3k
 cases hlay:lay y.op with
 |none=>
  rw[hlay]at hdef
  simp
  exact fin _ (by rw[hdef];simp)
 |some l=>
  rw[hlay]at hdef hl2
  simp only[Option.isSome_some,Option.getD_some,Bool.true_and]at hdef hl2 ⊢
  have tail:∀b:Bool,Y8 y 0 l=b→True:=fun _ _=>trivial
  match l,hl2,hdef,hlay with
  | [],_,hdef,hlay=>
   have h49:¬y.op=49:=fun e=>by have:=h49l hlay e;cases this
   have e49:(y.op==49)=false:=by simp[h49]
   rw[if_neg h49]at hdef
   simp[l1,z0]
   by_cases ha:y.a=0
   ·simp[ha,z0,e49,l3,l2]
    by_cases hc:y.arms=[]
    ·simp[hc,l2]
     exact fin _ (by rw[hdef];simp[ha,hc,Y8,a7l])
    ·have hp:0<y.arms.length:=List.length_pos_iff.2 hc
     rw[decide_eq_true hp,cdT]
     exact fin _ (by rw[hdef];simp[hc])
   ·rw[show(y.a != 0)=true by simp[ha],cdT]
    exact fin _ (by rw[hdef];simp[ha])
  | [f],_,hdef,hlay=>
   simp[l1]
   refine V6.useX ?_
   simp
   cases hm:f.may y.a with
   |false=>
    simp
    exact fin _ (by rw[hdef];simp[Y8,In.num,hm])
   |true=>
    simp[z0]
    by_cases h49:y.op=49
    ·rw[if_pos h49]at hdef
     simp[h49]
     rw[hdef]
     simp only[Y8,In.num,show ¬(0=1) by decide,if_false,hm,Bool.true_and]
     exact hloop
    ·rw[if_neg h49]at hdef
     have e49:(y.op==49)=false:=by simp[h49]
     simp[e49,l3,l2]
     by_cases hc:y.arms=[]
     ·simp[hc,l2]
      exact fin _ (by rw[hdef];simp[hc,Y8,In.num,hm,a7l])
     ·have hp:0<y.arms.length:=List.length_pos_iff.2 hc
      rw[decide_eq_true hp,cdT]
      exact fin _ (by rw[hdef];simp[hc])
  | [f,g],_,hdef,hlay=>
   have h49:¬y.op=49:=fun e=>by have:=h49l hlay e;cases this
   have e49:(y.op==49)=false:=by simp[h49]
   rw[if_neg h49]at hdef
   simp[l1]
   refine V6.useX ?_
   simp
   cases hm:f.may y.a with
   |false=>
    simp
    exact fin _ (by rw[hdef];simp[Y8,In.num,hm])
   |true=>
    simp[z0,e49,l3,l2]
    by_cases hc:y.arms=[]
    ·simp[hc,l2]
     refine V6.useX ?_
     simp
     cases hm2:g.may y.b with
     |true=>
      simp
      exact fin _ (by rw[hdef];simp[hc,Y8,In.num,hm,hm2])
     |false=>
      simp
      exact fin _ (by rw[hdef];simp[hc,Y8,In.num,hm,hm2])
    ·have hp:0<y.arms.length:=List.length_pos_iff.2 hc
     rw[decide_eq_true hp,cdT]
     exact fin _ (by rw[hdef];simp[hc])
end
end
end Go.Proofs.YtchnpgddpaonhaaGreat.d
end
section
namespace Go.Am
def WkR:List (List D)→List (List D)→Prop
 | [],[]=>True
 |r::rs,q::qs=>(WkL r q∧r.length=q.length)∧WkR rs qs
 |_,_=>False
theorem WkR.length:∀ {rs qs:List (List D)},WkR rs qs→rs.length=qs.length
 | [],[],_=>rfl
 |r::rs,q::qs,h=>by rw[List.length_cons,List.length_cons,WkR.length h.2]
 | [],_::_,h=>h.elim
 |_::_,[],h=>h.elim
theorem WkR.row:∀ {rs qs:List (List D)} {sz:Nat},WkR rs qs→(∀r∈rs,r.length=sz)→∀q∈qs,q.length=sz
 | [],[],sz,_,_=>fun q hq=>by cases hq
 |r::rs,q::qs,sz,h,hr=>fun y hy=>by
  rcases List.mem_cons.1 hy with e|hy
  ·subst e;rw[←h.1.2];exact hr r List.mem_cons_self
  ·exact WkR.row h.2 (fun r hr'=>hr r (List.mem_cons_of_mem _ hr')) y hy
 | [],_::_,_,h,_=>h.elim
 |_::_,[],_,h,_=>h.elim
theorem WkR.ok{E:j6}{R:Fz}:∀ {rs qs:List (List D)} {vs:List AV},WkR rs qs→a3G E R rs vs→a3G E R qs vs
 | [],[],vs,_,h=>h
 |r::rs,q::qs,vs,w,h=>by
  simp only[a3G]at h ⊢
  obtain⟨a,b,e,h1,h2⟩:=h
  exact⟨a,b,e,w.1.1.ok h1,WkR.ok w.2 h2⟩
 | [],_::_,_,w,_=>w.elim
 |_::_,[],_,w,_=>w.elim
theorem Wk.lst{rs qs:List (List D)}(w:WkR rs qs)(sz:Nat):Wk (.lst rs sz) (.lst qs sz):=fun E R v h=>by
 simp only[Rp]at h ⊢
 rcases h with ⟨rfl,rfl⟩|⟨o,j,cap,ex,z,e1,e2,e3,e4,e5⟩
 ·cases qs with
  |nil=>exact .inl ⟨rfl,rfl⟩
  |cons=>exact w.elim
 ·refine .inr ⟨o,j,cap,ex,z,by rw[←w.length];exact e1,e2,by rw[←w.length];exact e3,w.row e4, ?_⟩
  rcases e5 with rfl|⟨all,f1,f2,f3⟩
  ·cases qs with
   |nil=>exact .inl rfl
   |cons=>exact w.elim
  ·exact .inr ⟨all,f1,by rw[←w.length];exact w.ok f2,by rw[←w.length];exact f3⟩
theorem Wk.trans{a b c:D}(h:Wk a b)(h':Wk b c):Wk a c:=fun E R v x=>h' E R v (h E R v x)
theorem WkR.map{α:Type}{f g:α→List D}(h:∀a,WkL (f a) (g a)∧(f a).length=(g a).length):∀(l:List α),WkR (l.map f) (l.map g)
 | []=>trivial
 |a::l=>⟨h a,WkR.map h l⟩
inductive Lst (rows:List (List D)) (sz:Nat):D→Prop where
 |lst:Lst rows sz (.lst rows sz)
 |ext (more:List (List D)):Lst rows sz (.ext rows more sz)
section
variable{rows:List (List D)}{sz:Nat}{d:D}
theorem Lst.len(h:Lst rows sz d):l9 d=some (.int .i64 rows.length):=by cases h<;>rfl
theorem Lst.at(h:Lst rows sz d){i:Nat}{row:List D}(hr:rows[i]? =some row):p6 sz d (.int .i64 (i:Int))=some (.elt row 0):=by
 cases h
 ·exact b9k hr
 ·exact e2F hr
theorem Lst.rowsS(h:Lst rows sz d)(S:b9):Am.rowsS S sz d=some rows:=by
 cases h<;>simp[Am.rowsS,L2]
theorem Lst.wk(h:Lst rows sz d):Wk d (.lst rows sz):=by
 cases h
 ·exact Wk.refl _
 ·exact Wk.ext _ _ _
theorem Lst.cells(h:Lst rows sz d):q6 d=some [d]:=by cases h<;>rfl
end
theorem e2l{n cap:Nat}(h:n≤cap):I1 (.int .i64 (n:Int)) cap=some n:=by
 simp only[I1]
 rw[if_pos (by omega),Int.toNat_natCast]
theorem d7z{rows:List (List D)}{sz n:Nat}(h:n≤rows.length):J1 sz (.lst rows sz) none (some (.int .i64 (n:Int))) none=some (c9F (rows.take n) (rows.drop n) sz):=by
 simp only[J1,Q8,d1T,b5N,c6d,if_true,Option.bind_some,e2l h,Option.map_some,List.drop_zero,Nat.sub_zero]
 rw[List.take_of_length_le (l:=rows.drop n) (by rw[List.length_drop];omega)]
theorem e1G{rows more:List (List D)}{sz n:Nat}(h:n≤(rows++more).length):J1 sz (.ext rows more sz) none (some (.int .i64 (n:Int))) none=some (c9F ((rows++more).take n) ((rows++more).drop n) sz):=by
 simp only[J1,Q8,d1T,b5N,c6d,if_true,Option.bind_some,e2l h,Option.map_some,List.drop_zero,Nat.sub_zero]
 rw[List.take_of_length_le (l:=(rows++more).drop n) (by rw[List.length_drop];omega)]
theorem Grw.upd{S0 S:b9}{t:D}{rows:List (List D)}{sz k:Nat}{o o':K8}(h:Grw S0 t rows sz S)(hk:S0 k=some o'):Grw (S0.set k o) t rows sz (S.set k o):=by
 rcases h with ⟨rfl,rfl,rfl⟩|⟨l,acs,h,rfl,rfl⟩
 ·exact .inl ⟨rfl,rfl,rfl⟩
 ·have hne:l≠k:=fun e=>by rw[e,hk]at h;cases h
  refine .inr ⟨l,acs, ?_,rfl,b9.set_comm _ hne _ _⟩
  rw[b9.set_ne _ _ _ hne];exact h
theorem Grw.last{S0 S:b9}{t:D}{rows:List (List D)}{sz bytes:Nat}(h:Grw S0 t rows sz S){v:D}{news:List (List D)}(hv:rowsS S sz v=some news)(hn:news≠[])(hb:0<bytes∧(2*(rows.length+news.length)+768)*bytes≤2^47){K:D→b9→Prop}
  (hK:K (.lst (rows++news) sz) S0):r6 S sz bytes t v K:=by
 simp only[r6,hv]
 rcases h with ⟨rfl,rfl,rfl⟩|⟨k,acs,h,rfl,rfl⟩
 ·simp only[a7T]
  rw[if_neg hn]
  refine⟨⟨hb.1,by simpa using hb.2⟩, .inl ?_⟩
  rw[List.take_of_length_le (Nat.le_refl _)]
  simpa using hK
 ·simp only[a7T]
  rw[if_neg hn,b9.set_same]
  simp only
  rw[if_pos ⟨by trivial,by trivial,by omega⟩]
  refine⟨hb, .inl ?_⟩
  rw[b9.erase_set _ _ _ h,List.take_of_length_le (by simp)]
  simpa using hK
end Go.Am
end
