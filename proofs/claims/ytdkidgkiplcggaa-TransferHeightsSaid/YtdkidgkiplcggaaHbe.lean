/-
  TransferHeightsSaid: part Hbe of its proof.
-/
import Derived.Test.YtdkidgkiplcggaaRows
import Derived.Test.YtdkidgkiplcggaaHar
import Derived.KernelRfl
import Derived.Test.YtdkidgkiplcggaaHbd
import Derived.Test.YtdkidgkiplcggaaHba
set_option linter.unusedVariables false
set_option linter.unusedSimpArgs false
set_option maxRecDepth 100000
section
open Go.Proofs Go Go.Am
namespace Go.Proofs.Ytdkidgkiplcggaa.d
def b6e:List (Nat×List Nat):=[]
def b5g:List (Nat×List Nat):=[]
def b5T:List (Nat×V1):=[]
def a7T(E:j3)(w0:j8)(Q:D→b8→Prop)(a0 a1:D)(S:b8):Prop:=
 b7 (o5 a0) fun cs=>j6 S cs fun v0 S1=>
 j6 S1 [.nilSlc, .nilSlc] fun v2 S3=>
 b7 (i6 S3 3 v0) fun v4=>
 l8 Try.prog E w0 a7t [v4] S3 fun v5 S6=>
 b7 (i5 .neq v5 (.int .i64 0)) fun v7=>
 i9 v7
 (b7 (D3 (s0 [.nilSlc, .nilSlc] [])) fun v8=>
 i7 S6 2 v2 v8 fun v9 S10=>
 b7 (i6 S10 2 v2) fun v11=>Q (.tup [v11,v5]) S10)
 (b7 (i5 .lss a1 (.int .i64 0)) fun v12=>
 b7 (d9 (d6 v12 false) (some a1)) fun v13=>
 b7 (d9 (d6 v12 false) (j1 2 v0)) fun v14=>
 b7 (d9 (d6 v12 false) (c9 S6 v14)) fun v15=>
 b7 (d9 (d6 v12 false) (m8 v15)) fun v16=>
 b7 (d9 (d6 v12 false) (i5 .geq v13 v16)) fun v17=>
 b7 (q7 v12 (.bool true) v17) fun v18=>
 i9 v18
 (b7 (D3 (s0 [.nilSlc, .nilSlc] [])) fun v19=>
 i7 S6 2 v2 v19 fun v20 S21=>
 b7 (i6 S21 2 v2) fun v22=>Q (.tup [v22,(.int .i64 4)]) S21)
 (b7 (j1 2 v0) fun v23=>
 b7 (c9 S6 v23) fun v24=>
 b7 (o7 6 v24 a1) fun v25=>
 b7 (j1 3 v25) fun v26=>
 b7 (c9 S6 v26) fun v27=>
 b0Z S6 1 8 [(.int .i64 0)] v27 v27 fun v28 S29=>
 b7 (j1 2 v0) fun v30=>
 b7 (c9 S29 v30) fun v31=>
 b7 (o7 6 v31 a1) fun v32=>
 b7 (j1 1 v32) fun v33=>
 b7 (c9 S29 v33) fun v34=>
 c5R S29 1 v28 v34 fun v35 S36=>
 b7 (D3 (s0 [.nilSlc, .nilSlc] [(0,1,v28)])) fun v37=>
 i7 S36 2 v2 v37 fun v38 S39=>
 b7 (i6 S39 2 v2) fun v40=>Q (.tup [v40,(.int .i64 0)]) S39))
theorem b2z{E:j3}{w0:j8}{Q:D→b8→Prop}{a0 a1:D}{S:b8}(h:a7T E w0 (i4 E Q) a0 a1 S):l8 Try.prog E w0 N6 [a0,a1] S Q:=
 j5 b6e b5g b5T (fn:=Try.f33) (c:=Try.f33.body.getD .skip) mixed Try.func33 (by kernel_rfl) (by kernel_rfl) h
def b8j:List (Nat×List Nat):=[]
def b8Y:List (Nat×List Nat):=[]
def b8L:List (Nat×V1):=[]
def b0G(E:j3)(w0:j8)(Q:D→b8→Prop)(a0 a1 a2:D)(S:b8):Prop:=
 b7 (o5 a0) fun cs=>j6 S cs fun v0 S1=>
 b7 (o5 a1) fun cs=>j6 S1 cs fun v2 S3=>
 b7 (o5 a2) fun cs=>j6 S3 cs fun v4 S5=>
 b7 (some (.fn (.func a1l) [] [v0])) fun v6=>
 b7 (j1 0 v4) fun v7=>
 b7 (c9 S5 v7) fun v8=>
 b7 (m8 v8) fun v9=>
 b7 (j1 3 v2) fun v10=>
 b7 (c9 S5 v10) fun v11=>
 b7 (i5 .eql v9 v11) fun v12=>
 b7 (d9 (d6 v12 true) (j1 1 v4)) fun v13=>
 b7 (d9 (d6 v12 true) (c9 S5 v13)) fun v14=>
 b7 (d9 (d6 v12 true) (m8 v14)) fun v15=>
 b7 (d9 (d6 v12 true) (j1 4 v2)) fun v16=>
 b7 (d9 (d6 v12 true) (c9 S5 v16)) fun v17=>
 b7 (d9 (d6 v12 true) (i5 .leq v15 v17)) fun v18=>
 b7 (q7 v12 v18 (.bool false)) fun v19=>
 b7 (d9 (d6 v19 true) (j1 0 v4)) fun v20=>
 b7 (d9 (d6 v19 true) (c9 S5 v20)) fun v21=>
 b7 (d9 (d6 v19 true) (some v6)) fun v22=>
 V8 (d6 v19 true) (fun K=>l8 Try.prog E w0 B7 [v21,v22] S5 K) S5 fun v23 S24=>
 b7 (d9 (d6 v19 true) (unD .not v23)) fun v25=>
 b7 (q7 v19 v25 (.bool false)) fun v26=>
 b7 (d9 (d6 v26 true) (j1 1 v4)) fun v27=>
 b7 (d9 (d6 v26 true) (c9 S24 v27)) fun v28=>
 b7 (d9 (d6 v26 true) (some v6)) fun v29=>
 V8 (d6 v26 true) (fun K=>l8 Try.prog E w0 B7 [v28,v29] S24 K) S24 fun v30 S31=>
 b7 (d9 (d6 v26 true) (unD .not v30)) fun v32=>
 b7 (q7 v26 v32 (.bool false)) fun v33=>
 Q v33 S31
theorem b5d{E:j3}{w0:j8}{Q:D→b8→Prop}{a0 a1 a2:D}{S:b8}(h:b0G E w0 (i4 E Q) a0 a1 a2 S):l8 Try.prog E w0 a2v [a0,a1,a2] S Q:=
 j5 b8j b8Y b8L (fn:=Try.f46) (c:=Try.f46.body.getD .skip) mixed Try.func46 (by kernel_rfl) (by kernel_rfl) h
def b5W:List (Nat×List Nat):=[]
def b6l:List (Nat×List Nat):=[]
def b5w:List (Nat×V1):=[]
def a7L(E:j3)(w0:j8)(Q:D→b8→Prop)(a0 c0:D)(S:b8):Prop:=
 b7 (i5 .neq a0 (.int .i64 0)) fun v0=>
 b7 (d9 (d6 v0 true) (some a0)) fun v1=>
 b7 (d9 (d6 v0 true) (i5 .lss v1 (.int .i64 1))) fun v2=>
 b7 (d9 (d6 v0 true) (some v2)) fun v3=>
 b7 (d9 (d6 v3 false) (some a0)) fun v4=>
 b7 (d9 (d6 v3 false) (i5 .gtr v4 (.int .i64 5))) fun v5=>
 b7 (d9 (d6 v0 true) (q7 v3 (.bool true) v5)) fun v6=>
 b7 (q7 v0 v6 (.bool false)) fun v7=>
 b7 (d9 (d6 v7 true) (some a0)) fun v8=>
 b7 (d9 (d6 v7 true) (i5 .lss v8 (.int .i64 16))) fun v9=>
 b7 (d9 (d6 v7 true) (some v9)) fun v10=>
 b7 (d9 (d6 v10 false) (some a0)) fun v11=>
 b7 (d9 (d6 v10 false) (i5 .sub v11 (.int .i64 16))) fun v12=>
 b7 (d9 (d6 v10 false) (j1 0 c0)) fun v13=>
 b7 (d9 (d6 v10 false) (c9 S v13)) fun v14=>
 b7 (d9 (d6 v10 false) (m8 v14)) fun v15=>
 b7 (d9 (d6 v10 false) (i5 .geq v12 v15)) fun v16=>
 b7 (d9 (d6 v7 true) (q7 v10 (.bool true) v16)) fun v17=>
 b7 (q7 v7 v17 (.bool false)) fun v18=>
 Q v18 S
theorem b2B{E:j3}{w0:j8}{Q:D→b8→Prop}{a0 c0:D}{S:b8}(h:a7L E w0 (i4 E Q) a0 c0 S):l8 Try.prog E w0 a1l [a0,c0] S Q:=
 j5 b5W b6l b5w (fn:=Try.f64) (c:=Try.f64.body.getD .skip) mixed Try.func64 (by kernel_rfl) (by kernel_rfl) h
def Z2:List (Nat×List Nat):=[(12,[0,2,8,9,30,31,32])]
def X6:List (Nat×List Nat):=[]
def Y9:List (Nat×V1):=[]
noncomputable def W6:Code:=(j7 [1,1,1,1,0,1,0,0] (Try.f69.body.getD .skip))
def W8(E:j3)(w0:j8)(Q:D→b8→Prop):o9→List D→b8→Prop:=
 (q8 0 (G5 Try.prog E w0 Z2 X6 Y9 (j7 [1,1,1,1,1] (Try.f69.body.getD .skip)) (E7 Try.prog Try.f69 Q)))
def W9(E:j3)(w0:j8)(N0:D→D→D→D→D→D→D→b8→Prop)(Q:D→b8→Prop)(x0 x2 x8 x9 x30 x31 x32:D)(S:b8):Prop:=
 b7 (i5 .lss x32 x31) fun v14=>
 i9 v14
 (b7 (o7 1 x30 x32) fun v15=>
 b7 (c9 S v15) fun v16=>
 b7 (i5 .neq v16 (.int .i64 0)) fun v17=>
 b7 (d9 (d6 v17 true) (some x9)) fun v18=>
 b7 (d9 (d6 v17 true) (some x32)) fun v19=>
 b7 (d9 (d6 v17 true) (o7 1 v18 v19)) fun v20=>
 b7 (d9 (d6 v17 true) (c9 S v20)) fun v21=>
 b7 (d9 (d6 v17 true) (some v16)) fun v22=>
 b7 (d9 (d6 v17 true) (i5 .neq v21 v22)) fun v23=>
 b7 (q7 v17 v23 (.bool false)) fun v24=>
 b7 (d9 (d6 v24 false) (some v16)) fun v25=>
 b7 (d9 (d6 v24 false) (i5 .eql v25 (.int .i64 0))) fun v26=>
 b7 (d9 (d6 v24 false) (some v26)) fun v27=>
 b7 (d9 (d6 v27 true) (some x9)) fun v28=>
 b7 (d9 (d6 v27 true) (some x32)) fun v29=>
 b7 (d9 (d6 v27 true) (o7 1 v28 v29)) fun v30=>
 b7 (d9 (d6 v27 true) (c9 S v30)) fun v31=>
 b7 (d9 (d6 v27 true) (i5 .eql v31 (.int .i64 0))) fun v32=>
 b7 (d9 (d6 v24 false) (q7 v27 v32 (.bool false))) fun v33=>
 b7 (d9 (d6 v24 false) (some v33)) fun v34=>
 b7 (d9 (d6 v34 true) (some x2)) fun v35=>
 b7 (d9 (d6 v34 true) (unD .not v35)) fun v36=>
 b7 (d9 (d6 v24 false) (q7 v34 v36 (.bool false))) fun v37=>
 b7 (q7 v24 (.bool true) v37) fun v38=>
 i9 v38
 (Q (.tup [.nilSlc,(.int .i64 211)]) S)
 (b7 (i5 .add x32 (.int .i64 1)) fun v39=>
 N0 x0 x2 x8 x9 x30 x31 v39 S))
 (b7 (a0B x0) fun v40=>
 b7 (j1 0 v40) fun v41=>
 b7 (j1 1 v41) fun v42=>
 b7 (c9 S v42) fun v43=>
 b7 (a0x 1 v43 none (some x8) (some x8)) fun v44=>
 b7 (a0B x0) fun v45=>
 b7 (j1 0 v45) fun v46=>
 b7 (j1 1 v46) fun v47=>
 i7 S 1 v47 v44 fun v48 S49=>
 Q (.tup [x9,(.int .i64 0)]) S49)
theorem a5E{E:j3}{w0:j8}{N0:D→D→D→D→D→D→D→b8→Prop}{Q:D→b8→Prop}{x0 x2 x8 x9 x30 x31 x32:D}{S:b8}(h:W9 E w0 N0 Q x0 x2 x8 x9 x30 x31 x32 S):
  j2 Try.prog E w0 W6 (m6 76 [0,2,8,9,30,31,32] [x0,x2,x8,x9,x30,x31,x32]) S (B1 (fun T S=>N0 (T.getD 0 b9) (T.getD 2 b9) (T.getD 8 b9) (T.getD 9 b9) (T.getD 30 b9) (T.getD 31 b9) (T.getD 32 b9) S) (W8 E w0 Q)):=j4 Z2 X6 Y9 mixed (by kernel_rfl) h
theorem a6w{E:j3}{w0:j8}{Q:D→b8→Prop}(I:Nat→D→D→D→D→D→D→D→b8→Prop)
  (step:∀n x0 x2 x8 x9 x30 x31 x32 S,I n x0 x2 x8 x9 x30 x31 x32 S→W9 E w0 (fun x0 x2 x8 x9 x30 x31 x32 S=>∃m,m<n∧I m x0 x2 x8 x9 x30 x31 x32 S) Q x0 x2 x8 x9 x30 x31 x32 S)
  {n:Nat} {x0 x2 x8 x9 x30 x31 x32:D} {S:b8} (h:I n x0 x2 x8 x9 x30 x31 x32 S):j2 Try.prog E w0 (.loop W6) (m6 76 [0,2,8,9,30,31,32] [x0,x2,x8,x9,x30,x31,x32]) S (W8 E w0 Q):=
 p8 (k:=76) (n:=n) (I:=fun n T S=>I n (T.getD 0 b9) (T.getD 2 b9) (T.getD 8 b9) (T.getD 9 b9) (T.getD 30 b9) (T.getD 31 b9) (T.getD 32 b9) S) (fun n T S hl hI=>q9 [0,2,8,9,30,31,32] hl (j2.mono (a5E (step n _ _ _ _ _ _ _ S hI)) fun ex T' S' _ hq=>by cases ex<;>exact hq)) (o0 ..) (Eq.mp (by kernel_rfl) h)
def a3f(E:j3)(w0:j8)(Q:D→b8→Prop)(a0 a1 a2:D)(S:b8):Prop:=
 b7 (a0B a0) fun v0=>
 b7 (j1 0 v0) fun v1=>
 b7 (j1 1 v1) fun v2=>
 b7 (c9 S v2) fun v3=>
 b7 (m8 v3) fun v4=>
 b7 (m8 a1) fun v5=>
 b7 (i5 .sub v4 v5) fun v6=>
 b7 (i5 .lss v6 (.int .i64 0)) fun v7=>
 i9 v7
 (Q (.tup [.nilSlc,(.int .i64 210)]) S)
 (b7 (a0B a0) fun v8=>
 b7 (j1 0 v8) fun v9=>
 b7 (j1 1 v9) fun v10=>
 b7 (c9 S v10) fun v11=>
 b7 (a0x 1 v11 (some v6) none none) fun v12=>
 b7 (m8 a1) fun v13=>
 j2 Try.prog E w0 (.loop W6) (m6 76 [0,2,8,9,30,31,32] [a0,a2,v6,v12,a1,v13,(.int .i64 0)]) S (W8 E w0 Q))
theorem a7z{E:j3}{w0:j8}{Q:D→b8→Prop}{a0 a1 a2:D}{S:b8}(h:a3f E w0 (i4 E Q) a0 a1 a2 S):l8 Try.prog E w0 a0p [a0,a1,a2] S Q:=
 j5 Z2 X6 Y9 (fn:=Try.f69) (c:=Try.f69.body.getD .skip) mixed Try.func69 (by kernel_rfl) (by kernel_rfl) h
def b0d:List (Nat×List Nat):=[]
def b0b:List (Nat×List Nat):=[]
def b0j:List (Nat×V1):=[]
def a4h(E:j3)(w0:j8)(Q:D→b8→Prop)(a0 a1:D)(S:b8):Prop:=
 b7 (a0B a0) fun v0=>
 b7 (j1 0 v0) fun v1=>
 b7 (j1 1 v1) fun v2=>
 b7 (c9 S v2) fun v3=>
 u9 S 1 8 v3 a1 fun v4 S5=>
 b7 (a0B a0) fun v6=>
 b7 (j1 0 v6) fun v7=>
 b7 (j1 1 v7) fun v8=>
 i7 S5 1 v8 v4 fun v9 S10=>
 b7 (a0B a0) fun v11=>
 b7 (j1 0 v11) fun v12=>
 b7 (j1 1 v12) fun v13=>
 b7 (c9 S10 v13) fun v14=>
 b7 (m8 v14) fun v15=>
 b7 (a0B a0) fun v16=>
 b7 (j1 2 v16) fun v17=>
 b7 (c9 S10 v17) fun v18=>
 b7 (i5 .gtr v15 v18) fun v19=>
 i9 v19
 (Q (.int .i64 210) S10)
 (Q (.int .i64 0) S10)
theorem a7U{E:j3}{w0:j8}{Q:D→b8→Prop}{a0 a1:D}{S:b8}(h:a4h E w0 (i4 E Q) a0 a1 S):l8 Try.prog E w0 E8 [a0,a1] S Q:=
 j5 b0d b0b b0j (fn:=Try.f70) (c:=Try.f70.body.getD .skip) mixed Try.func70 (by kernel_rfl) (by kernel_rfl) h
def a3W:List (Nat×List Nat):=[]
def a4j:List (Nat×List Nat):=[(16,[0,7,9,10])]
def a4t:List (Nat×V1):=[]
noncomputable def a8D:Code:=(j7 [1,1,1,1] (Try.f49.body.getD .skip))
def a8d(E:j3)(w0:j8)(Q:D→b8→Prop):o9→List D→b8→Prop:=
 (E7 Try.prog Try.f49 Q)
def a2B(E:j3)(w0:j8)(Q:D→b8→Prop)(x0 x7 x9 x10:D)(S:b8):Prop:=
 b7 (j1 0 x7) fun v14=>
 b7 (c9 S v14) fun v15=>
 b7 (i5 .eql v15 (.int .u8 9)) fun v16=>
 l8 Try.prog E w0 a0p [x0,x9,v16] S fun v17 S18=>
 b7 (l9 v17 0) fun v19=>
 b7 (l9 v17 1) fun v20=>
 b7 (i5 .neq v20 (.int .i64 0)) fun v21=>
 i9 v21
 (Q v20 S18)
 (b7 (j1 0 x7) fun v22=>
 b7 (c9 S18 v22) fun v23=>
 b7 (i5 .eql v23 (.int .u8 7)) fun v24=>
 i9 v24
 (b7 (a0B x0) fun v25=>
 b7 (j1 0 v25) fun v26=>
 b7 (j1 0 v26) fun v27=>
 b7 (c9 S18 v27) fun v28=>
 b7 (j1 1 x7) fun v29=>
 b7 (c9 S18 v29) fun v30=>
 b7 (o7 1 v28 v30) fun v31=>
 b7 (c9 S18 v31) fun v32=>
 b7 (i5 .eql v32 (.int .i64 0)) fun v33=>
 i9 v33
 (Q (.int .i64 212) S18)
 (r7 S18 1 (m9 1 (List.replicate 1 [(.int .i64 0)]) [(0,v32)]) 1 fun v34 S35=>
 l8 Try.prog E w0 E8 [x0,v34] S35 fun v36 S37=>
 Q v36 S37))
 (b7 (i5 .eql v23 (.int .u8 8)) fun v38=>
 i9 v38
 (b7 (a0B x0) fun v39=>
 b7 (j1 0 v39) fun v40=>
 b7 (j1 0 v40) fun v41=>
 b7 (c9 S18 v41) fun v42=>
 b7 (j1 1 x7) fun v43=>
 b7 (c9 S18 v43) fun v44=>
 b7 (o7 1 v19 (.int .i64 0)) fun v45=>
 b7 (c9 S18 v45) fun v46=>
 b7 (o7 1 v42 v44) fun v47=>
 i7 S18 1 v47 v46 fun v48 S49=>
 Q (.int .i64 0) S49)
 (b7 (i5 .eql v23 (.int .u8 10)) fun v50=>
 i9 v50
 (b7 (o7 1 v19 (.int .i64 0)) fun v51=>
 b7 (c9 S18 v51) fun v52=>
 b7 (o7 1 v19 (.int .i64 0)) fun v53=>
 b7 (c9 S18 v53) fun v54=>
 r7 S18 1 (m9 1 (List.replicate 2 [(.int .i64 0)]) [(0,v52),(1,v54)]) 2 fun v55 S56=>
 l8 Try.prog E w0 E8 [x0,v55] S56 fun v57 S58=>
 Q v57 S58)
 (l8 Try.prog E w0 E8 [x0,x10] S18 fun v59 S60=>
 Q v59 S60))))
def M4(E:j3)(w0:j8)(Q:D→b8→Prop)(x0 x7 x9 x10:D)(S:b8):Prop:=j2 Try.prog E w0 a8D (m6 96 [0,7,9,10] [x0,x7,x9,x10]) S (a8d E w0 Q)
theorem a6B{E:j3}{w0:j8}{Q:D→b8→Prop}{x0 x7 x9 x10:D}{S:b8}(h:a2B E w0 Q x0 x7 x9 x10 S):M4 E w0 Q x0 x7 x9 x10 S:=j4 a3W a4j a4t mixed (by kernel_rfl) h
def a4Q(E:j3)(w0:j8)(Q:D→b8→Prop)(a0 a1 a2 a3:D)(S:b8):Prop:=
 b7 (o5 a1) fun cs=>j6 S cs fun v0 S1=>
 b7 (o5 a2) fun cs=>j6 S1 cs fun v2 S3=>
 b7 (o5 a3) fun cs=>j6 S3 cs fun v4 S5=>
 b7 (i6 S5 4 v4) fun v6=>
 b7 (i6 S5 3 v0) fun v7=>
 l8 Try.prog E w0 a0Q [v6,v7] S5 fun v8 S9=>
 b7 (l9 v8 0) fun v10=>
 b7 (l9 v8 1) fun v11=>
 b7 (l9 v8 2) fun v12=>
 b7 (i5 .neq v12 (.int .i64 0)) fun v13=>
 i9 v13
 (Q v12 S9)
 (b7 (j1 0 v4) fun v61=>
 b7 (c9 S9 v61) fun v62=>
 b7 (i5 .eql v62 (.int .u8 51)) fun v63=>
 i9 v63
 (b7 (j1 2 v2) fun v64=>
 b7 (c9 S9 v64) fun v65=>
 b7 (a0B a0) fun v66=>
 b7 (j1 0 v66) fun v67=>
 b7 (j1 1 v67) fun v68=>
 b7 (c9 S9 v68) fun v69=>
 b7 (m8 v69) fun v70=>
 b7 (m8 v65) fun v71=>
 b7 (i5 .gtr v70 v71) fun v72=>
 i9 v72
 (Q (.int .i64 210) S9)
 (M4 E w0 Q a0 v4 v65 v11 S9))
 (M4 E w0 Q a0 v4 v10 v11 S9))
theorem a9e{E:j3}{w0:j8}{Q:D→b8→Prop}{a0 a1 a2 a3:D}{S:b8}(h:a4Q E w0 (i4 E Q) a0 a1 a2 a3 S):l8 Try.prog E w0 V2 [a0,a1,a2,a3] S Q:=
 j5 a3W a4j a4t (fn:=Try.f49) (c:=Try.f49.body.getD .skip) mixed Try.func49 (by kernel_rfl) (by kernel_rfl) h
def P9:List (Nat×List Nat):=[(28,[5,36,37,38])]
def Q2:List (Nat×List Nat):=[(21,[2,5,11,12]),(41,[2,5,11,21]),(36,[5])]
def Q1:List (Nat×V1):=[]
noncomputable def V4:Code:=(j7 [1,1,1] (Try.f50.body.getD .skip))
def b1Q(E:j3)(w0:j8)(Q:D→b8→Prop):o9→List D→b8→Prop:=
 (E7 Try.prog Try.f50 Q)
def a4S(E:j3)(w0:j8)(Q:D→b8→Prop)(x5:D)(S:b8):Prop:=
 l8 Try.prog E w0 a2p [x5] S fun v4 S5=>
 l8 Try.prog E w0 a0O [x5] S5 fun v6 S7=>
 Q v6 S7
def D6(E:j3)(w0:j8)(Q:D→b8→Prop)(x5:D)(S:b8):Prop:=j2 Try.prog E w0 V4 (m6 52 [5] [x5]) S (b1Q E w0 Q)
theorem a8T{E:j3}{w0:j8}{Q:D→b8→Prop}{x5:D}{S:b8}(h:a4S E w0 Q x5 S):D6 E w0 Q x5 S:=j4 P9 Q2 Q1 mixed (by kernel_rfl) h
noncomputable def Y5:Code:=(j7 [1,1,0,1,0,1,1,1,1,1,1,1,0,1,1,0,0] (Try.f50.body.getD .skip))
def Y4(E:j3)(w0:j8)(Q:D→b8→Prop):o9→List D→b8→Prop:=
 (q8 1 (q8 0 (d1F Try.prog E w0 52 [5] V4 (E7 Try.prog Try.f50 Q))))
def a1K(E:j3)(w0:j8)(N0:D→D→D→D→b8→Prop)(Q:D→b8→Prop)(x5 x36 x37 x38:D)(S:b8):Prop:=
 b7 (i5 .lss x38 x37) fun v31=>
 i9 v31
 (b7 (o7 2 x36 x38) fun v32=>
 b7 (i6 S 2 v32) fun v33=>
 j6 S [(.int .i64 0),(.int .i64 0)] fun v34 S35=>
 i7 S35 2 v34 v33 fun v36 S37=>
 b7 (j1 1 v34) fun v38=>
 b7 (c9 S37 v38) fun v39=>
 r7 S37 1 (m9 1 (List.replicate 1 [(.int .i64 0)]) [(0,v39)]) 1 fun v40 S41=>
 u9 S41 1 8 x5 v40 fun v42 S43=>
 b7 (i5 .add x38 (.int .i64 1)) fun v44=>
 N0 v42 x36 x37 v44 S43)
 (D6 E w0 Q x5 S)
theorem b0h{E:j3}{w0:j8}{N0:D→D→D→D→b8→Prop}{Q:D→b8→Prop}{x5 x36 x37 x38:D}{S:b8}(h:a1K E w0 N0 Q x5 x36 x37 x38 S):
  j2 Try.prog E w0 Y5 (m6 52 [5,36,37,38] [x5,x36,x37,x38]) S (B1 (fun T S=>N0 (T.getD 5 b9) (T.getD 36 b9) (T.getD 37 b9) (T.getD 38 b9) S) (Y4 E w0 Q)):=j4 P9 Q2 Q1 mixed (by kernel_rfl) h
theorem b0k{E:j3}{w0:j8}{Q:D→b8→Prop}(I:Nat→D→D→D→D→b8→Prop)
  (step:∀n x5 x36 x37 x38 S,I n x5 x36 x37 x38 S→a1K E w0 (fun x5 x36 x37 x38 S=>∃m,m<n∧I m x5 x36 x37 x38 S) Q x5 x36 x37 x38 S)
  {n:Nat} {x5 x36 x37 x38:D} {S:b8} (h:I n x5 x36 x37 x38 S):j2 Try.prog E w0 (.loop Y5) (m6 52 [5,36,37,38] [x5,x36,x37,x38]) S (Y4 E w0 Q):=
 p8 (k:=52) (n:=n) (I:=fun n T S=>I n (T.getD 5 b9) (T.getD 36 b9) (T.getD 37 b9) (T.getD 38 b9) S) (fun n T S hl hI=>q9 [5,36,37,38] hl (j2.mono (b0h (step n _ _ _ _ S hI)) fun ex T' S' _ hq=>by cases ex<;>exact hq)) (o0 ..) (Eq.mp (by kernel_rfl) h)
noncomputable def b2A:Code:=(j7 [1,1,0,1,0,1,1,1,1,1] (Try.f50.body.getD .skip))
def b1Y(E:j3)(w0:j8)(Q:D→b8→Prop):o9→List D→b8→Prop:=
 (q8 0 (d1F Try.prog E w0 52 [5] V4 (E7 Try.prog Try.f50 Q)))
def a4T(E:j3)(w0:j8)(Q:D→b8→Prop)(x2 x5 x11 x21:D)(S:b8):Prop:=
 i9 x21
 (b7 (j1 1 x2) fun v16=>
 b7 (c9 S v16) fun v17=>
 r7 S 1 (m9 1 (List.replicate 1 [(.int .i64 0)]) [(0,v17)]) 1 fun v18 S19=>
 u9 S19 1 8 x5 v18 fun v20 S21=>
 D6 E w0 Q v20 S21)
 (b7 (i5 .eql x11 (.int .u8 49)) fun v22=>
 i9 v22
 (b7 (j1 2 x2) fun v23=>
 b7 (c9 S v23) fun v24=>
 b7 (o7 1 x5 (.int .i64 0)) fun v25=>
 i7 S 1 v25 v24 fun v26 S27=>
 b7 (j1 3 x2) fun v28=>
 b7 (c9 S27 v28) fun v29=>
 b7 (m8 v29) fun v30=>
 j2 Try.prog E w0 (.loop Y5) (m6 52 [5,36,37,38] [x5,v29,v30,(.int .i64 0)]) S27 (Y4 E w0 Q))
 (D6 E w0 Q x5 S))
def V5(E:j3)(w0:j8)(Q:D→b8→Prop)(x2 x5 x11 x21:D)(S:b8):Prop:=j2 Try.prog E w0 b2A (m6 52 [2,5,11,21] [x2,x5,x11,x21]) S (b1Y E w0 Q)
theorem a8O{E:j3}{w0:j8}{Q:D→b8→Prop}{x2 x5 x11 x21:D}{S:b8}(h:a4T E w0 Q x2 x5 x11 x21 S):V5 E w0 Q x2 x5 x11 x21 S:=j4 P9 Q2 Q1 mixed (by kernel_rfl) h
noncomputable def b2D:Code:=(j7 [1,1,0,1,0,1] (Try.f50.body.getD .skip))
def b0T(E:j3)(w0:j8)(Q:D→b8→Prop):o9→List D→b8→Prop:=
 (q8 0 (d1F Try.prog E w0 52 [5] V4 (E7 Try.prog Try.f50 Q)))
def a4M(E:j3)(w0:j8)(Q:D→b8→Prop)(x2 x5 x11 x12:D)(S:b8):Prop:=
 i9 x12
 (Q .nilSlc S)
 (b7 (i5 .eql x11 (.int .u8 46)) fun v10=>
 i9 v10
 (b7 (j1 1 x2) fun v11=>
 b7 (c9 S v11) fun v12=>
 b7 (o7 1 x5 (.int .i64 0)) fun v13=>
 i7 S 1 v13 v12 fun v14 S15=>
 D6 E w0 Q x5 S15)
 (b7 (i5 .eql x11 (.int .u8 47)) fun v45=>
 i9 v45
 (V5 E w0 Q x2 x5 x11 v45 S)
 (b7 (i5 .eql x11 (.int .u8 48)) fun v46=>
 V5 E w0 Q x2 x5 x11 v46 S)))
def V3(E:j3)(w0:j8)(Q:D→b8→Prop)(x2 x5 x11 x12:D)(S:b8):Prop:=j2 Try.prog E w0 b2D (m6 52 [2,5,11,12] [x2,x5,x11,x12]) S (b0T E w0 Q)
theorem a9b{E:j3}{w0:j8}{Q:D→b8→Prop}{x2 x5 x11 x12:D}{S:b8}(h:a4M E w0 Q x2 x5 x11 x12 S):V3 E w0 Q x2 x5 x11 x12 S:=j4 P9 Q2 Q1 mixed (by kernel_rfl) h
def a7R(E:j3)(w0:j8)(Q:D→b8→Prop)(a0 a1:D)(S:b8):Prop:=
 b7 (o5 a0) fun cs=>j6 S cs fun v0 S1=>
 r7 S1 1 (m9 1 (List.replicate 1 [(.int .i64 0)]) [(0,a1)]) 1 fun v2 S3=>
 b7 (j1 0 v0) fun v8=>
 b7 (c9 S3 v8) fun v9=>
 b7 (i5 .eql v9 (.int .u8 51)) fun v47=>
 i9 v47
 (V3 E w0 Q v0 v2 v9 v47 S3)
 (b7 (i5 .eql v9 (.int .u8 52)) fun v48=>
 V3 E w0 Q v0 v2 v9 v48 S3)
theorem b2V{E:j3}{w0:j8}{Q:D→b8→Prop}{a0 a1:D}{S:b8}(h:a7R E w0 (i4 E Q) a0 a1 S):l8 Try.prog E w0 a3u [a0,a1] S Q:=
 j5 P9 Q2 Q1 (fn:=Try.f50) (c:=Try.f50.body.getD .skip) mixed Try.func50 (by kernel_rfl) (by kernel_rfl) h
def a3x:List (Nat×List Nat):=[(34,[14,18,20,95,96,97])]
def a3o:List (Nat×List Nat):=[]
def a3q:List (Nat×V1):=[(11,(.leaf [0,1,3,4,7,8,2,5,6,9,10,11])),(16,(.leaf [0,1,2,3,4,5,6,7,10,11,16,8,9,12,13,14,15])),(22,(.leaf [0,1,2,3,4,5,6,8,9,10,11,12,7,13,14,15,16,17,18]))]
noncomputable def a0v:Code:=(j7 [1,1,1,1,1,1,1,1,1,1,0,1,0,0] (Try.f30.body.getD .skip))
def a0s(E:j3)(w0:j8)(Q:D→b8→Prop):o9→List D→b8→Prop:=
 (q8 0 (G5 Try.prog E w0 a3x a3o a3q (j7 [1,1,1,1,1,1,1,1,1,1,1] (Try.f30.body.getD .skip)) (E7 Try.prog Try.f30 Q)))
def a2U(E:j3)(w0:j8)(N0:D→D→D→D→D→D→b8→Prop)(Q:D→b8→Prop)(x14 x18 x20 x95 x96 x97:D)(S:b8):Prop:=
 b7 (i5 .lss x97 x96) fun v76=>
 i9 v76
 (b7 (o7 1 x95 x97) fun v77=>
 b7 (c9 S v77) fun v78=>
 l8 Try.prog E w0 D4 [x14,v78] S fun v79 S80=>
 b7 (l9 v79 0) fun v81=>
 b7 (l9 v79 1) fun v82=>
 b7 (unD .not v82) fun v83=>
 i9 v83
 (Q (.tup [.nilSlc,(.int .i64 190)]) S80)
 (b7 (a0B x18) fun v84=>
 b7 (j1 0 v84) fun v85=>
 b7 (j1 0 v85) fun v86=>
 b7 (c9 S80 v86) fun v87=>
 b7 (a0B x18) fun v88=>
 b7 (j1 0 v88) fun v89=>
 b7 (j1 1 v89) fun v90=>
 b7 (c9 S80 v90) fun v91=>
 l8 Try.prog E w0 w9 [v87] S80 fun v92 S93=>
 o4 v90 S80 S93∧l8 Try.prog E w0 w9 [v91] S93 fun v94 S95=>
 b7 (D3 (s0 [.nilSlc, .nilSlc] [(0,1,v92),(1,1,v94)])) fun v96=>
 b7 (D3 (s0 [(.int .i64 0), .nilSlc, .nilSlc] [(0,1,v78),(1,2,v96)])) fun v97=>
 r7 S95 3 (m9 3 (List.replicate 1 [(.int .i64 0), .nilSlc, .nilSlc]) [(0,v97)]) 1 fun v98 S99=>
 u9 S99 3 56 x20 v98 fun v100 S101=>
 b7 (i5 .add x97 (.int .i64 1)) fun v102=>
 N0 x14 x18 v100 x95 x96 v102 S101))
 (Q (.tup [x20,(.int .i64 0)]) S)
theorem b1i{E:j3}{w0:j8}{N0:D→D→D→D→D→D→b8→Prop}{Q:D→b8→Prop}{x14 x18 x20 x95 x96 x97:D}{S:b8}(h:a2U E w0 N0 Q x14 x18 x20 x95 x96 x97 S):
  j2 Try.prog E w0 a0v (m6 129 [14,18,20,95,96,97] [x14,x18,x20,x95,x96,x97]) S (B1 (fun T S=>N0 (T.getD 14 b9) (T.getD 18 b9) (T.getD 20 b9) (T.getD 95 b9) (T.getD 96 b9) (T.getD 97 b9) S) (a0s E w0 Q)):=j4 a3x a3o a3q mixed (by kernel_rfl) h
theorem b0H{E:j3}{w0:j8}{Q:D→b8→Prop}(I:Nat→D→D→D→D→D→D→b8→Prop)
  (step:∀n x14 x18 x20 x95 x96 x97 S,I n x14 x18 x20 x95 x96 x97 S→a2U E w0 (fun x14 x18 x20 x95 x96 x97 S=>∃m,m<n∧I m x14 x18 x20 x95 x96 x97 S) Q x14 x18 x20 x95 x96 x97 S)
  {n:Nat} {x14 x18 x20 x95 x96 x97:D} {S:b8} (h:I n x14 x18 x20 x95 x96 x97 S):j2 Try.prog E w0 (.loop a0v) (m6 129 [14,18,20,95,96,97] [x14,x18,x20,x95,x96,x97]) S (a0s E w0 Q):=
 p8 (k:=129) (n:=n) (I:=fun n T S=>I n (T.getD 14 b9) (T.getD 18 b9) (T.getD 20 b9) (T.getD 95 b9) (T.getD 96 b9) (T.getD 97 b9) S) (fun n T S hl hI=>q9 [14,18,20,95,96,97] hl (j2.mono (b1i (step n _ _ _ _ _ _ S hI)) fun ex T' S' _ hq=>by cases ex<;>exact hq)) (o0 ..) (Eq.mp (by kernel_rfl) h)
def a9M(E:j3)(w0:j8)(Q:D→b8→Prop)(a0 a1 a2 a3:D)(S:b8):Prop:=
 b7 (o5 a0) fun cs=>j6 S cs fun v0 S1=>
 b7 (o5 a3) fun cs=>j6 S1 cs fun v2 S3=>
 b7 (i6 S3 3 v0) fun v4=>
 l8 Try.prog E w0 N6 [v4,a1] S3 fun v5 S6=>
 b7 (l9 v5 0) fun v7=>
 b7 (l9 v5 1) fun v8=>
 j6 S6 [.nilSlc, .nilSlc] fun v9 S10=>
 i7 S10 2 v9 v7 fun v11 S12=>
 b7 (i5 .neq v8 (.int .i64 0)) fun v13=>
 i9 v13
 (Q (.tup [.nilSlc,v8]) S12)
 (b7 (j1 2 v0) fun v14=>
 b7 (c9 S12 v14) fun v15=>
 b7 (o7 6 v15 a1) fun v16=>
 b7 (i6 S12 6 v16) fun v17=>
 j6 S12 [(.str []), .nilSlc, .nilSlc,(.int .i64 0),(.int .i64 0), .nilSlc] fun v18 S19=>
 i7 S19 6 v18 v17 fun v20 S21=>
 b7 (i6 S21 3 v0) fun v22=>
 b7 (i6 S21 6 v18) fun v23=>
 b7 (i6 S21 2 v2) fun v24=>
 l8 Try.prog E w0 a2v [v22,v23,v24] S21 fun v25 S26=>
 b7 (unD .not v25) fun v27=>
 i9 v27
 (Q (.tup [.nilSlc,(.int .i64 2)]) S26)
 (b7 (j1 5 v18) fun v28=>
 b7 (c9 S26 v28) fun v29=>
 l8 Try.prog E w0 a5k [v29] S26 fun v30 S31=>
 b7 (l9 v30 0) fun v32=>
 b7 (l9 v30 1) fun v33=>
 b7 (l9 v30 2) fun v34=>
 l8 Try.prog E w0 D4 [v33,a2] S31 fun v35 S36=>
 b7 (l9 v35 0) fun v37=>
 b7 (l9 v35 1) fun v38=>
 b7 (unD .not v38) fun v39=>
 i9 v39
 (Q (.tup [.nilSlc,(.int .i64 190)]) S36)
 (b7 (j1 0 v2) fun v40=>
 b7 (c9 S36 v40) fun v41=>
 b7 (j1 1 v2) fun v42=>
 b7 (c9 S36 v42) fun v43=>
 b7 (j1 4 v18) fun v44=>
 b7 (c9 S36 v44) fun v45=>
 l8 Try.prog E w0 w9 [v41] S36 fun v46 S47=>
 o4 v42 S36 S47∧o4 v44 S36 S47∧l8 Try.prog E w0 w9 [v43] S47 fun v48 S49=>
 o4 v44 S36 S49∧b7 (D3 (s0 [.nilSlc, .nilSlc] [(0,1,v46),(1,1,v48)])) fun v50=>
 b7 (D3 (s0 [.nilSlc, .nilSlc,(.int .i64 0)] [(0,2,v50),(2,1,v45)])) fun v51=>
 b7 (o5 v51) fun cs=>j6 S49 cs fun v52 S53=>
 b7 (i6 S53 3 v0) fun v54=>
 b7 (i6 S53 6 v18) fun v55=>
 b7 (o7 4 v32 v37) fun v56=>
 b7 (i6 S53 4 v56) fun v57=>
 l8 Try.prog E w0 V2 [v52,v54,v55,v57] S53 fun v58 S59=>
 b7 (i5 .neq v58 (.int .i64 0)) fun v60=>
 i9 v60
 (Q (.tup [.nilSlc,v58]) S59)
 (b7 (o7 4 v32 v37) fun v61=>
 b7 (i6 S59 4 v61) fun v62=>
 b7 (j1 5 v18) fun v63=>
 b7 (c9 S59 v63) fun v64=>
 b7 (m8 v64) fun v65=>
 b7 (i5 .add v37 (.int .i64 1)) fun v66=>
 r7 S59 1 (m9 1 (List.replicate 1 [(.int .i64 0)]) [(0,v65)]) 1 fun v67 S68=>
 o4 v61 S59 S68∧u9 S68 1 8 v33 v67 fun v69 S70=>
 o4 v61 S59 S70∧b7 (o7 1 v69 v66) fun v71=>
 b7 (c9 S70 v71) fun v72=>
 l8 Try.prog E w0 a3u [v62,v72] S70 fun v73 S74=>
 b7 (m8 v73) fun v75=>
 j2 Try.prog E w0 (.loop a0v) (m6 129 [14,18,20,95,96,97] [v33,v52, .nilSlc,v73,v75,(.int .i64 0)]) S74 (a0s E w0 Q)))))
theorem b3W{E:j3}{w0:j8}{Q:D→b8→Prop}{a0 a1 a2 a3:D}{S:b8}(h:a9M E w0 (i4 E Q) a0 a1 a2 a3 S):l8 Try.prog E w0 L2 [a0,a1,a2,a3] S Q:=
 j5 a3x a3o a3q (fn:=Try.f30) (c:=Try.f30.body.getD .skip) mixed Try.func30 (by kernel_rfl) (by kernel_rfl) h
def O4:List (Nat×List Nat):=[(6,[0,1,6,7,8])]
def O8:List (Nat×List Nat):=[]
def O5:List (Nat×V1):=[]
noncomputable def M5:Code:=(j7 [1,1,1,0,0,0] (Try.f47.body.getD .skip))
def M0(E:j3)(w0:j8)(Q:D→b8→Prop):o9→List D→b8→Prop:=
 (q8 0 (G5 Try.prog E w0 O4 O8 O5 (j7 [1,1,1,1] (Try.f47.body.getD .skip)) (E7 Try.prog Try.f47 Q)))
def M2(E:j3)(w0:j8)(N0:D→D→D→D→D→b8→Prop)(Q:D→b8→Prop)(x0 x1 x6 x7 x8:D)(S:b8):Prop:=
 b7 (i5 .lss x7 x8) fun v1=>
 i9 v1
 (b7 (i5 .add x7 x8) fun v2=>
 b7 (J1 .u64 v2) fun v3=>
 b7 (i5 .shr v3 (.int .u64 1)) fun v4=>
 b7 (J1 .i64 v4) fun v5=>
 b7 (o7 1 x0 v5) fun v6=>
 b7 (c9 S v6) fun v7=>
 l8 Try.prog E w0 a5x [v7,x1] S fun v8 S9=>
 i9 v8
 (b7 (i5 .add v5 (.int .i64 1)) fun v10=>
 N0 x0 x1 x6 v10 x8 S9)
 (N0 x0 x1 x6 x7 v5 S9))
 (b7 (i5 .lss x7 x6) fun v11=>
 b7 (d9 (d6 v11 true) (some x0)) fun v12=>
 b7 (d9 (d6 v11 true) (some x7)) fun v13=>
 b7 (d9 (d6 v11 true) (o7 1 v12 v13)) fun v14=>
 b7 (d9 (d6 v11 true) (c9 S v14)) fun v15=>
 b7 (d9 (d6 v11 true) (some x1)) fun v16=>
 b7 (d9 (d6 v11 true) (i5 .eql v15 v16)) fun v17=>
 b7 (d9 (d6 v11 true) (some v17)) fun v18=>
 b7 (d9 (d6 v18 false) (some x0)) fun v19=>
 b7 (d9 (d6 v18 false) (some x7)) fun v20=>
 b7 (d9 (d6 v18 false) (o7 1 v19 v20)) fun v21=>
 b7 (d9 (d6 v18 false) (c9 S v21)) fun v22=>
 V8 (d6 v18 false) (fun K=>l8 Try.prog E w0 Y0 [v22] S K) S fun v23 S24=>
 b7 (d9 (d6 v18 false) (some v23)) fun v25=>
 b7 (d9 (d6 v25 true) (some x1)) fun v26=>
 V8 (d6 v25 true) (fun K=>l8 Try.prog E w0 Y0 [v26] S24 K) S24 fun v27 S28=>
 b7 (d9 (d6 v18 false) (q7 v25 v27 (.bool false))) fun v29=>
 b7 (d9 (d6 v11 true) (q7 v18 (.bool true) v29)) fun v30=>
 b7 (q7 v11 v30 (.bool false)) fun v31=>
 Q (.tup [x7,v31]) S28)
theorem a3B{E:j3}{w0:j8}{N0:D→D→D→D→D→b8→Prop}{Q:D→b8→Prop}{x0 x1 x6 x7 x8:D}{S:b8}(h:M2 E w0 N0 Q x0 x1 x6 x7 x8 S):
  j2 Try.prog E w0 M5 (m6 54 [0,1,6,7,8] [x0,x1,x6,x7,x8]) S (B1 (fun T S=>N0 (T.getD 0 b9) (T.getD 1 b9) (T.getD 6 b9) (T.getD 7 b9) (T.getD 8 b9) S) (M0 E w0 Q)):=j4 O4 O8 O5 mixed (by kernel_rfl) h
theorem a3w{E:j3}{w0:j8}{Q:D→b8→Prop}(I:Nat→D→D→D→D→D→b8→Prop)
  (step:∀n x0 x1 x6 x7 x8 S,I n x0 x1 x6 x7 x8 S→M2 E w0 (fun x0 x1 x6 x7 x8 S=>∃m,m<n∧I m x0 x1 x6 x7 x8 S) Q x0 x1 x6 x7 x8 S)
  {n:Nat} {x0 x1 x6 x7 x8:D} {S:b8} (h:I n x0 x1 x6 x7 x8 S):j2 Try.prog E w0 (.loop M5) (m6 54 [0,1,6,7,8] [x0,x1,x6,x7,x8]) S (M0 E w0 Q):=
 p8 (k:=54) (n:=n) (I:=fun n T S=>I n (T.getD 0 b9) (T.getD 1 b9) (T.getD 6 b9) (T.getD 7 b9) (T.getD 8 b9) S) (fun n T S hl hI=>q9 [0,1,6,7,8] hl (j2.mono (a3B (step n _ _ _ _ _ S hI)) fun ex T' S' _ hq=>by cases ex<;>exact hq)) (o0 ..) (Eq.mp (by kernel_rfl) h)
def a1o(E:j3)(w0:j8)(Q:D→b8→Prop)(a0 a1:D)(S:b8):Prop:=
 b7 (m8 a0) fun v0=>
 j2 Try.prog E w0 (.loop M5) (m6 54 [0,1,6,7,8] [a0,a1,v0,(.int .i64 0),v0]) S (M0 E w0 Q)
theorem a4x{E:j3}{w0:j8}{Q:D→b8→Prop}{a0 a1:D}{S:b8}(h:a1o E w0 (i4 E Q) a0 a1 S):l8 Try.prog E w0 D4 [a0,a1] S Q:=
 j5 O4 O8 O5 (fn:=Try.f47) (c:=Try.f47.body.getD .skip) mixed Try.func47 (by kernel_rfl) (by kernel_rfl) h
def b9g:List (Nat×List Nat):=[]
def b9j:List (Nat×List Nat):=[]
def b9m:List (Nat×V1):=[]
def b0A(E:j3)(w0:j8)(Q:D→b8→Prop)(a0 a1:D)(S:b8):Prop:=
 l8 Try.prog E w0 a1H [a0] S fun v0 S1=>
 b7 (d9 (d6 v0 true) (some a1)) fun v2=>
 V8 (d6 v0 true) (fun K=>l8 Try.prog E w0 a1H [v2] S1 K) S1 fun v3 S4=>
 b7 (d9 (d6 v0 true) (unD .not v3)) fun v5=>
 b7 (q7 v0 v5 (.bool false)) fun v6=>
 b7 (d9 (d6 v6 false) (some a0)) fun v7=>
 b7 (d9 (d6 v6 false) (some a1)) fun v8=>
 b7 (d9 (d6 v6 false) (i5 .lss v7 v8)) fun v9=>
 b7 (q7 v6 (.bool true) v9) fun v10=>
 Q v10 S4
theorem b4K{E:j3}{w0:j8}{Q:D→b8→Prop}{a0 a1:D}{S:b8}(h:b0A E w0 (i4 E Q) a0 a1 S):l8 Try.prog E w0 a5x [a0,a1] S Q:=
 j5 b9g b9j b9m (fn:=Try.f66) (c:=Try.f66.body.getD .skip) mixed Try.func66 (by kernel_rfl) (by kernel_rfl) h
def b6x:List (Nat×List Nat):=[]
def b6D:List (Nat×List Nat):=[]
def b6F:List (Nat×V1):=[]
def a9S(E:j3)(w0:j8)(Q:D→b8→Prop)(a0:D)(S:b8):Prop:=
 b7 (i5 .neq a0 a0) fun v0=>
 Q v0 S
theorem b4h{E:j3}{w0:j8}{Q:D→b8→Prop}{a0:D}{S:b8}(h:a9S E w0 (i4 E Q) a0 S):l8 Try.prog E w0 a1H [a0] S Q:=
 j5 b6x b6D b6F (fn:=Try.f92) (c:=Try.f92.body.getD .skip) mixed Try.func92 (by kernel_rfl) (by kernel_rfl) h
def b2H:List (Nat×List Nat):=[]
def b2C:List (Nat×List Nat):=[]
def b2y:List (Nat×V1):=[]
def a6d(E:j3)(w0:j8)(Q:D→b8→Prop)(a0:D)(S:b8):Prop:=
 b7 (i5 .neq a0 a0) fun v0=>
 Q v0 S
theorem b0e{E:j3}{w0:j8}{Q:D→b8→Prop}{a0:D}{S:b8}(h:a6d E w0 (i4 E Q) a0 S):l8 Try.prog E w0 Y0 [a0] S Q:=
 j5 b2H b2C b2y (fn:=Try.f67) (c:=Try.f67.body.getD .skip) mixed Try.func67 (by kernel_rfl) (by kernel_rfl) h
end Go.Proofs.Ytdkidgkiplcggaa.d
end
section
open Go.Proofs Go Go.Am Go.Op
namespace Go.Proofs.Ytdkidgkiplcggaa.d
section
set_option linter.unusedSectionVars false
structure Fr where
 locals:List Int
 stack:List Int
 deriving DecidableEq
def frC(f:Fr):List D:=[iD f.locals,iD f.stack]
def frD(f:Fr):D:= .agg (frC f)
def fr0:Fr:=⟨[],[]⟩
structure Fr.Ok (f:Fr):Prop where
 l:f.locals.length<2^30
 s:f.stack.length<2^30
 ints:∀n∈f.locals++f.stack,I64 n
def a4B(r:Ro):Fr:=⟨r.params++List.replicate (r.locals.toNat - r.params.length) 0,[]⟩
def F5(m:Mo)(f:Int):Fr×Int:=
 if(a4D m).2≠0 then(fr0,(a4D m).2) else if f<0∨(m.funcs.length:Int)≤f then(fr0,4) else match m.funcs[f.toNat]? with
  |some r=>(a4B r,0)
  |none=>(fr0,4)
def a4J(m:Mo)(t:Int):Bool:=decide (t=0)||K6 m t
def b1b(m:Mo)(r:Ro)(f:Fr):Bool:=decide ((f.locals.length:Int)=r.locals)&&decide ((f.stack.length:Int)≤r.stack)&&f.locals.all (a4J m)&&f.stack.all (a4J m)
theorem c9S{m:Mo}(h:(a4D m).2=0):P0 m=0:=by
 unfold a4D at h
 by_cases hs:P0 m=0
 ·exact hs
 ·rw[if_pos hs]at h;exact absurd h hs
structure d2C (m:Mo) (r:Ro):Prop where
 par:(r.params.length:Int)≤r.locals
 loc:r.locals≤256
 st0:0≤r.stack
 st1:r.stack≤4096
 res:r.results.length≤8
 code:r.code.length≤65536
 all0:(a7K (a6D r.code)).2.2=0
 ins:∀y∈(a7K (a6D r.code)).1,a1O m r y=true
theorem c7H{m:Mo}(h:(a4D m).2=0){r:Ro}(hr:r∈m.funcs):d2C m r:=by
 obtain⟨_,_,_,h4⟩:=b5c (c9S h)
 obtain⟨h5,h6⟩:=h4 r hr
 obtain⟨_,_,g3,g4,g5,g6⟩:=c0C h5
 unfold a2P at h6
 simp only[Bool.and_eq_true,Bool.not_eq_true',decide_eq_false_iff_not,decide_eq_true_eq,List.all_eq_true]at h6
 obtain⟨⟨⟨⟨⟨_,_⟩,q3⟩,q4⟩,q5⟩,q6⟩:=h6
 exact⟨by omega,g5,by omega,g6,g3,g4,q5,q6⟩
section
variable{E:j3}{w0:j8}
theorem d5l(r:Ro):(K1 r)[1]? =some (iD r.params)∧(K1 r)[2]? =some (iD r.results)∧(K1 r)[3]? =some (.int .i64 r.locals)∧(K1 r)[4]? =some (.int .i64 r.stack)∧(K1 r)[5]? =some (bD r.code):=⟨rfl,rfl,rfl,rfl,rfl⟩
def b4b(r:Fr×Int):D:= .tup [frD r.1, .int .i64 r.2]
theorem d4u:Wk (.agg [.nilSlc, .nilSlc]) (frD fr0):=Wk.agg ⟨Wk.nil 1,Wk.nil 1,trivial⟩
theorem a7c{m:Mo}(hm:m.Fits){f:Int}(hf:I64 f):U1 Try.prog E w0 N6 [moD m, .int .i64 f] (b4b (F5 m f)):=fun S=>by
 refine b2z ?_
 unfold a7T
 rw[moD,Q8,oD]
 intro k a n
 have hk:u7 (S.set k ⟨3,[K5 m],a⟩) k 3 (K5 m):=u7.new
 intro k2 a2 n2
 obtain⟨hne,n2'⟩:=b8.fresh n2
 have hk:=hk.set (o:=⟨2,[[.nilSlc, .nilSlc]],a2⟩) n2
 have h2:u7 (((S.set k ⟨3,[K5 m],a⟩)).set k2 ⟨2,[[.nilSlc, .nilSlc]],a2⟩) k2 2 [.nilSlc, .nilSlc]:=u7.new
 have hle:S.le (((S.set k ⟨3,[K5 m],a⟩)).set k2 ⟨2,[[.nilSlc, .nilSlc]],a2⟩):=b8.le_set (b8.le_new n) n2'
 rw[show(K5 m).length=3 from rfl,show([D.nilSlc, .nilSlc]:List D).length=2 from rfl]
 generalize (((S.set k ⟨3,[K5 m],a⟩)).set k2 ⟨2,[[.nilSlc, .nilSlc]],a2⟩)=T at hk h2 hle
 rw[hk.all (n:=3) (by decide) rfl,oD]
 refine(c0c (E:=E) (w0:=w0) hm).use ?_
 have nok:∀(e:Int) (a':List AV),i4 E (fun d S'=>d=b4b (fr0,e)∧S'=S) (.tup [.agg [.nilSlc, .nilSlc], .int .i64 e]) (T.set k2 ⟨2,[[.nilSlc, .nilSlc]],a'⟩):=fun e a'=>
  i4.less (b8.le_set hle n2') (i4.weak (d':=b4b (fr0,e)) (Wk.tup ⟨d4u,Wk.refl _,trivial⟩) (i4.here ⟨rfl,rfl⟩))
 have bad:∀e:Int,F5 m f=(fr0,e)→b7 (D3 (s0 [.nilSlc, .nilSlc] [])) fun v8=>i7 T 2 (.ptr k2 0) v8 fun v9 S10=>b7 (i6 S10 2 (.ptr k2 0)) fun v11=>i4 E (fun d S'=>d=b4b (F5 m f)∧S'=S) (.tup [v11, .int .i64 e]) S10:=by
  intro e he
  rw[he,fiN,agS,oD]
  refine h2.st (ds:=[.nilSlc, .nilSlc]) (Q8 _) ⟨rfl,by decide,by decide⟩ fun a'=> ?_
  rw[show j9 [D.nilSlc, .nilSlc] 0 [.nilSlc, .nilSlc]=[.nilSlc, .nilSlc]from rfl,(u7.new).all (n:=2) (by decide) rfl,oD]
  exact nok e a'
 have lk:∀ {T':b8},u7 T' k 3 (K5 m)→c9 T' (.ptr k 2)=some (a5s m.funcs):=fun h=>h.ld 2
 rw[a1m,oD,K0]
 refine⟨fun h0=>bad _ (by unfold F5;rw[if_pos h0]),fun h0=> ?_⟩
 have h0:(a4D m).2=0:=Classical.not_not.1 h0
 simp only[H6,oD,D8,Nat.zero_add]
 by_cases c1:f<0
 ·simp only[decide_eq_true c1,K7,t1',vdF,oD,L7,if_true,cdT]
  exact bad 4 (by unfold F5;rw[if_neg (fun h=>h h0),if_pos (.inl c1)])
 simp only[decide_eq_false c1,K7,t2',vdT,oD,L7,Bool.false_eq_true,if_false,lk hk,a4p,a7X]
 rw[K0]
 refine⟨fun c2=>bad 4 (by unfold F5;rw[if_neg (fun h=>h h0),if_pos (.inr c2)]),fun c2=> ?_⟩
 have hlt:f.toNat<m.funcs.length:=by omega
 have hr:m.funcs[f.toNat]? =some m.funcs[f.toNat]:=List.getElem?_eq_getElem hlt
 have hg:=c7H h0 (List.getElem_mem hlt)
 generalize hrr:m.funcs[f.toNat]=r at hr hg
 have hfn:f=((f.toNat:Nat):Int):=by omega
 have hat:o7 6 (a5s m.funcs) (.int .i64 f)=some (.elt (K1 r) 0):=by rw[hfn];exact a9c hr
 have hfirst:F5 m f=(a4B r,0):=by
  unfold F5
  rw[if_neg (fun h=>h h0),if_neg (fun h=>h.elim c1 c2),hr]
 rw[hfirst,hat]
 obtain⟨e1,e2,e3,e4,e5⟩:=d5l r
 simp only[oD,ofE,Nat.zero_add,lsE,e3]
 have hp:=hg.par
 have hl:=hg.loc
 obtain⟨L,hL⟩:∃L:Nat,r.locals=(L:Int):=⟨r.locals.toNat,by omega⟩
 rw[hL]
 refine d3Q ⟨by omega,by omega⟩ fun k3 a3 n3=> ?_
 have hk':=hk.set (o:=⟨1,List.replicate L [.int .i64 0],a3⟩) n3
 have h2':=h2.set (o:=⟨1,List.replicate L [.int .i64 0],a3⟩) n3
 rw[lk hk',oD,hat]
 simp only[oD,ofE,Nat.zero_add,lsE,e1]
 simp only[c5R,b9I,b8.set_same]
 rw[if_pos ⟨by trivial,by trivial,by simp,by decide⟩]
 intro a4
 have hmin:min (iC r.params).length L=r.params.length:=by rw[t7];omega
 rw[hmin,b8.set_set]
 have hrows:(List.replicate L [D.int .i64 0]).take 0++((iC r.params).take r.params.length++(List.replicate L [D.int .i64 0]).drop (0+r.params.length))=iC (a4B r).locals:=by
  rw[List.take_zero,List.nil_append,List.take_of_length_le (by rw[t7];exact Nat.le_refl _),Nat.zero_add,List.drop_replicate]
  unfold a4B
  rw[a3A,hL,Int.toNat_natCast]
  congr 1
  simp[iC,C6]
 rw[hrows]
 have hk':=hk.set (o:=⟨1,iC (a4B r).locals,a4⟩) n3
 have h2':=h2.set (o:=⟨1,iC (a4B r).locals,a4⟩) n3
 rw[show s0 [D.nilSlc, .nilSlc] [(0,1, .raw k3 0 L L true 1)]=some [.raw k3 0 L L true 1, .nilSlc]from rfl,agS,oD]
 refine h2'.st (ds:=[.raw k3 0 L L true 1, .nilSlc]) (Q8 _) ⟨rfl,by decide,by decide⟩ fun a'=> ?_
 rw[show j9 [D.nilSlc, .nilSlc] 0 [.raw k3 0 L L true 1, .nilSlc]=[.raw k3 0 L L true 1, .nilSlc]from rfl,(u7.new).all (n:=2) (by decide) rfl,oD]
 have hne3:k3≠k2:=fun e=>h2.there (by rw[←e];exact n3)
 have n3':=b8.none_of hle n3
 rw[b8.set_comm _ hne3]
 have hbl:(a4B r).locals.length=L:=by unfold a4B;rw[List.length_append,List.length_replicate,hL,Int.toNat_natCast];omega
 refine i4.less (S':=S.set k3 ⟨1,iC (a4B r).locals,a4⟩) (fun j o e=> ?_) (i4.frz n3' ?_)
 ·unfold b8.set at e ⊢
  split at e
  ·rename_i hj;rw[if_pos hj];exact e
  ·rename_i hj
   rw[if_neg hj]
   exact b8.le_set hle n2' _ _ e
 ·have:Am.frz k3 ⟨1,iC (a4B r).locals,a4⟩ (.tup [.agg [.raw k3 0 L L true 1, .nilSlc], .int .i64 0])= .tup [.agg [iD (a4B r).locals, .nilSlc], .int .i64 0]:=by
   simp only[Am.frz,Am.b8X,if_true]
   rw[if_pos ⟨by trivial,by rw[t7,hbl];omega,Nat.le_refl _⟩,List.drop_zero,List.take_of_length_le (by rw[t7,hbl];exact Nat.le_refl _)]
   rfl
  rw[this]
  exact i4.weak (d':=b4b (a4B r,0)) (Wk.tup ⟨Wk.agg ⟨Wk.refl _,Wk.nil 1,trivial⟩,Wk.refl _,trivial⟩) (i4.here ⟨rfl,rfl⟩)
theorem d2g{m:Mo}(hm:m.Ok){t:Int}(ht:I64 t){S:b8}{k:Nat}(hk:u7 S k 3 (K5 m)):l8 Try.prog E w0 a1l [.int .i64 t, .ptr k 0] S fun d S'=>d= .bool (!a4J m t)∧S'=S:=by
 refine b2B ?_
 unfold a7L
 have hl:c9 S (.ptr k 0)=some (a8S m.types):=hk.ld 0
 have hn:m8 (a8S m.types)=some (.int .i64 (m.types.length:Int)):=by simp[a8S]
 have hmt:=hm.types
 have fin:∀b:Bool,a4J m t= !b→i4 E (fun d S'=>d= .bool (!a4J m t)∧S'=S) (.bool b) S:=fun b h=>by rw[h,Bool.not_not];exact i4.here ⟨rfl,rfl⟩
 rw[a1m,oD]
 by_cases c0:t=0
 ·simp only[decide_eq_false (fun h:t≠0=>h c0),K7,t3,t2',vdF,oD,L7,Bool.false_eq_true,if_false,wdU,gdF]
  exact fin false (by unfold a4J;rw[decide_eq_true c0];rfl)
 simp only[decide_eq_true (show t≠0 from c0),K7,t4,vdT,oD,H6]
 by_cases c1:t<1
 ·simp only[decide_eq_true c1,K7,t1',t4,vdF,vdT,oD,L7,if_true,H6,decide_eq_true (show t<16 by omega)]
  refine fin true ?_
  unfold a4J K6
  rw[decide_eq_false c0,decide_eq_false (by omega),decide_eq_false (by omega)];rfl
 simp only[decide_eq_false c1,K7,t2',vdT,oD,a6n,L7,Bool.false_eq_true,if_false,if_true]
 by_cases c2:t>5
 case neg=>
  simp only[decide_eq_false c2,K7,t3,vdF,oD,L7,Bool.false_eq_true,if_false,wdU]
  refine fin false ?_
  unfold a4J K6
  rw[decide_eq_false c0,decide_eq_true (by omega)];rfl
 simp only[decide_eq_true c2,K7,t4,vdT,oD,H6]
 by_cases c3:t<16
 ·simp only[decide_eq_true c3,K7,t1',vdF,oD,L7,if_true]
  refine fin true ?_
  unfold a4J K6
  rw[decide_eq_false c0,decide_eq_false (by omega),decide_eq_false (by omega)];rfl
 have hsub:IntKind.i64.wrap (t - 16)=t - 16:=l7 (by have:=ht.1;omega) (by have:=ht.2;omega)
 simp only[decide_eq_false c3,K7,t2',vdT,oD,b1l,hsub,D8,Nat.zero_add,hl,hn,a7X,L7,Bool.false_eq_true,if_false,if_true]
 refine fin _ ?_
 unfold a4J K6
 rw[decide_eq_false c0,decide_eq_false (by omega)]
 by_cases c4:t - 16≥m.types.length
 ·rw[decide_eq_true c4,decide_eq_false (by omega)];rfl
 ·rw[decide_eq_false c4,decide_eq_true (by omega)];rfl
theorem d2t(m:Mo)(l:List Int):(l.any fun t=> !a4J m t)= !l.all (a4J m):=c5l l
theorem b8O{m:Mo}(hm:m.Fits){r:Ro}(hr:r.Ok){f:Fr}(hf:f.Ok):U1 Try.prog E w0 a2v [moD m, .agg (K1 r),frD f] (.bool (b1b m r f)):=fun S=>by
 refine b5d ?_
 unfold b0G
 rw[moD,Q8,oD]
 intro k a n
 have hk:u7 (S.set k ⟨3,[K5 m],a⟩) k 3 (K5 m):=u7.new
 have l1:S.le (S.set k ⟨3,[K5 m],a⟩):=b8.le_new n
 rw[show(K5 m).length=3 from rfl]
 generalize (S.set k ⟨3,[K5 m],a⟩)=T at hk l1
 rw[Q8,oD]
 intro k2 a2 n2
 have hk:=hk.set (o:=⟨6,[K1 r],a2⟩) n2
 have h2:u7 (T.set k2 ⟨6,[K1 r],a2⟩) k2 6 (K1 r):=u7.new
 have l1:=b8.le_trans l1 (b8.le_new (o:=⟨6,[K1 r],a2⟩) n2)
 rw[show(K1 r).length=6 from rfl]
 generalize (T.set k2 ⟨6,[K1 r],a2⟩)=T at hk h2 l1
 rw[frD,Q8,oD]
 intro k3 a3 n3
 have hk:=hk.set (o:=⟨2,[frC f],a3⟩) n3
 have h2:=h2.set (o:=⟨2,[frC f],a3⟩) n3
 have h3:u7 (T.set k3 ⟨2,[frC f],a3⟩) k3 2 (frC f):=u7.new
 have l1:=b8.le_trans l1 (b8.le_new (o:=⟨2,[frC f],a3⟩) n3)
 rw[show(frC f).length=2 from rfl]
 generalize (T.set k3 ⟨2,[frC f],a3⟩)=T at hk h2 h3 l1
 have f0:c9 T (.ptr k3 0)=some (iD f.locals):=h3.ld 0
 have f1:c9 T (.ptr k3 1)=some (iD f.stack):=h3.ld 1
 have g3:c9 T (.ptr k2 3)=some (.int .i64 r.locals):=h2.ld 3
 have g4:c9 T (.ptr k2 4)=some (.int .i64 r.stack):=h2.ld 4
 have dec:∀l:List Int,(∀n∈l,I64 n)→∀t∈l,a3L E w0 T (.fn (.func a1l) [] [.ptr k 0]) (.int .i64 t) (!a4J m t):=fun l hl t ht=>a1P (by kernel_rfl) (d2g hm.ok (hl t ht) hk)
 have fin:∀b:Bool,b1b m r f=b→i4 E (fun d S'=>d= .bool (b1b m r f)∧S'=S) (.bool b) T:=fun b h=>by rw[h];exact i4.less l1 (i4.here ⟨rfl,rfl⟩)
 have hfl:=hf.l
 have hfs:=hf.s
 simp only[oD,D8,Nat.zero_add,f0,Y7,g3,U6]
 by_cases c1:(f.locals.length:Int)=r.locals
 case neg=>
  simp only[decide_eq_false c1,K7,t3,vdF,oD,L7,Bool.false_eq_true,if_false,gdF,wdU]
  exact fin false (by unfold b1b;rw[decide_eq_false c1];rfl)
 simp only[decide_eq_true c1,K7,t4,vdT,oD,f1,Y7,g4,d0d,L7,if_true]
 by_cases c2:(f.stack.length:Int)≤r.stack
 case neg=>
  simp only[decide_eq_false c2,K7,t3,vdF,oD,L7,Bool.false_eq_true,if_false,gdF,wdU]
  exact fin false (by unfold b1b;rw[decide_eq_true c1,decide_eq_false c2];rfl)
 simp only[decide_eq_true c2,K7,t4,vdT,oD,f0,gdT]
 refine(b2d (p:=fun t=> !a4J m t) (by omega) (dec f.locals fun n hn=>hf.ints n (List.mem_append_left _ hn))).use ?_
 rintro d S' ⟨rfl,rfl⟩
 rw[d2t]
 simp only[unN,oD,L7,if_true,Bool.not_not]
 cases c3:f.locals.all (a4J m) with
 |false=>
  simp only[K7,t3,vdF,oD,L7,Bool.false_eq_true,if_false,gdF,wdU]
  exact fin false (by unfold b1b;rw[decide_eq_true c1,decide_eq_true c2,c3];rfl)
 |true=>
  simp only[K7,t4,vdT,oD,f1,gdT]
  refine(b2d (p:=fun t=> !a4J m t) (by omega) (dec f.stack fun n hn=>hf.ints n (List.mem_append_right _ hn))).use ?_
  rintro d S' ⟨rfl,rfl⟩
  rw[d2t]
  simp only[unN,oD,L7,if_true,Bool.not_not]
  exact fin _ (by unfold b1b;rw[decide_eq_true c1,decide_eq_true c2,c3];rfl)
end
end
section
section
variable{E:j3}{w0:j8}
theorem d3m{S0 S:b8}{d:D}{l:List Int}(h:Own S0 d l S):m8 d=some (.int .i64 (l.length:Int)):=by
 rcases h with ⟨rfl,rfl,rfl⟩|⟨k,acs,ex,_,rfl,rfl⟩<;>rfl
theorem c9N{S0 S:b8}{d:D}{l:List Int}(h:Own S0 d l S){i:Nat}(hi:i<l.length){n:Int}{K:D→b8→Prop}(hK:∀S',Own S0 d (l.set i n) S'→K b9 S'):
  ∃p,o7 1 d (.int .i64 (i:Int))=some p∧i7 S 1 p (.int .i64 n) K:=by
 rcases h with ⟨rfl,rfl,rfl⟩|⟨k,acs,ex,h,rfl,rfl⟩
 ·simp at hi
 ·refine⟨_,d0J hi, ?_⟩
  rw[Nat.zero_add]
  refine stR (ds:=[.int .i64 n]) (row:=[.int .i64 l[i]]) (b8.set_same _ _ _) (c9z (List.getElem?_eq_getElem hi)) (clI _ _) ⟨rfl,by decide,by simp⟩ fun acs'=> ?_
  rw[b8.set_set]
  refine hK _ (.inr ⟨k,acs',ex,h,by simp, ?_⟩)
  have e:j9 [D.int .i64 l[i]] 0 [.int .i64 n]=[.int .i64 n]:=rfl
  rw[e]
  congr 2
  simp only[iC]
  rw[c1M, ←List.map_set]
def RdI(S:b8)(d:D)(l:List Int):Prop:=m8 d=some (.int .i64 (l.length:Int))∧∀(i:Nat) (v:Int),l[i]? =some v→∃p,o7 1 d (.int .i64 (i:Int))=some p∧c9 S p=some (.int .i64 v)
theorem Own.rd{S0 S S':b8}{d:D}{l:List Int}(h:Own S0 d l S)(hle:S.le S'):RdI S' d l:=by
 refine⟨d3m h,fun i v hv=> ?_⟩
 rcases h with ⟨rfl,rfl,rfl⟩|⟨k,acs,ex,h,rfl,rfl⟩
 ·simp at hv
 ·have hi:=(List.getElem?_eq_some_iff.1 hv).1
  refine⟨_,d0J hi, ?_⟩
  rw[Nat.zero_add,ldR (hle _ _ (b8.set_same _ _ _)) (c9z hv)]
  rfl
end
end
end Go.Proofs.Ytdkidgkiplcggaa.d
end
