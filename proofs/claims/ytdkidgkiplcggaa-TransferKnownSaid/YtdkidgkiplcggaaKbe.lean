/-
  TransferKnownSaid: part Kbe of its proof.
-/
import Derived.Test.YtdkidgkiplcggaaRows
import Derived.Test.YtdkidgkiplcggaaKar
import Derived.KernelRfl
import Derived.Test.YtdkidgkiplcggaaKbd
import Derived.Test.YtdkidgkiplcggaaKba
set_option linter.unusedVariables false
set_option linter.unusedSimpArgs false
set_option maxRecDepth 100000
section
open Go.Proofs Go Go.Am
namespace Go.Proofs.Ytdkidgkiplcggaa.d
def b6u:List (Nat×List Nat):=[]
def b5z:List (Nat×List Nat):=[]
def b5o:List (Nat×V5):=[]
def a8d(E:i9)(w0:j7)(Q:D→b8→Prop)(a0 a1:D)(S:b8):Prop:=
 b7 (o4 a0) fun cs=>j8 S cs fun v0 S1=>
 j8 S1 [.nilSlc, .nilSlc] fun v2 S3=>
 b7 (i4 S3 3 v0) fun v4=>
 j6 Try.prog E w0 a7t [v4] S3 fun v5 S6=>
 b7 (f9 .neq v5 (.int .i64 0)) fun v7=>
 i5 v7
 (b7 (C3 (o8 [.nilSlc, .nilSlc] [])) fun v8=>
 i7 S6 2 v2 v8 fun v9 S10=>
 b7 (i4 S10 2 v2) fun v11=>Q (.tup [v11,v5]) S10)
 (b7 (f9 .lss a1 (.int .i64 0)) fun v12=>
 b7 (d8 (b9 v12 false) (some a1)) fun v13=>
 b7 (d8 (b9 v12 false) (j5 2 v0)) fun v14=>
 b7 (d8 (b9 v12 false) (d0 S6 v14)) fun v15=>
 b7 (d8 (b9 v12 false) (m9 v15)) fun v16=>
 b7 (d8 (b9 v12 false) (f9 .geq v13 v16)) fun v17=>
 b7 (o0 v12 (.bool true) v17) fun v18=>
 i5 v18
 (b7 (C3 (o8 [.nilSlc, .nilSlc] [])) fun v19=>
 i7 S6 2 v2 v19 fun v20 S21=>
 b7 (i4 S21 2 v2) fun v22=>Q (.tup [v22,(.int .i64 4)]) S21)
 (b7 (j5 2 v0) fun v23=>
 b7 (d0 S6 v23) fun v24=>
 b7 (p9 6 v24 a1) fun v25=>
 b7 (j5 3 v25) fun v26=>
 b7 (d0 S6 v26) fun v27=>
 b1T S6 1 8 [(.int .i64 0)] v27 v27 fun v28 S29=>
 b7 (j5 2 v0) fun v30=>
 b7 (d0 S29 v30) fun v31=>
 b7 (p9 6 v31 a1) fun v32=>
 b7 (j5 1 v32) fun v33=>
 b7 (d0 S29 v33) fun v34=>
 c7g S29 1 v28 v34 fun v35 S36=>
 b7 (C3 (o8 [.nilSlc, .nilSlc] [(0,1,v28)])) fun v37=>
 i7 S36 2 v2 v37 fun v38 S39=>
 b7 (i4 S39 2 v2) fun v40=>Q (.tup [v40,(.int .i64 0)]) S39))
theorem b2Z{E:i9}{w0:j7}{Q:D→b8→Prop}{a0 a1:D}{S:b8}(h:a8d E w0 (d9 E Q) a0 a1 S):j6 Try.prog E w0 D9 [a0,a1] S Q:=
 j4 b6u b5z b5o (fn:=Try.f33) (c:=Try.f33.body.getD .skip) mixed Try.func33 (by kernel_rfl) (by kernel_rfl) h
def b8M:List (Nat×List Nat):=[]
def b8y:List (Nat×List Nat):=[]
def b8Q:List (Nat×V5):=[]
def b1o(E:i9)(w0:j7)(Q:D→b8→Prop)(a0 a1 a2:D)(S:b8):Prop:=
 b7 (o4 a0) fun cs=>j8 S cs fun v0 S1=>
 b7 (o4 a1) fun cs=>j8 S1 cs fun v2 S3=>
 b7 (o4 a2) fun cs=>j8 S3 cs fun v4 S5=>
 b7 (some (.fn (.func a1o) [] [v0])) fun v6=>
 b7 (j5 0 v4) fun v7=>
 b7 (d0 S5 v7) fun v8=>
 b7 (m9 v8) fun v9=>
 b7 (j5 3 v2) fun v10=>
 b7 (d0 S5 v10) fun v11=>
 b7 (f9 .eql v9 v11) fun v12=>
 b7 (d8 (b9 v12 true) (j5 1 v4)) fun v13=>
 b7 (d8 (b9 v12 true) (d0 S5 v13)) fun v14=>
 b7 (d8 (b9 v12 true) (m9 v14)) fun v15=>
 b7 (d8 (b9 v12 true) (j5 4 v2)) fun v16=>
 b7 (d8 (b9 v12 true) (d0 S5 v16)) fun v17=>
 b7 (d8 (b9 v12 true) (f9 .leq v15 v17)) fun v18=>
 b7 (o0 v12 v18 (.bool false)) fun v19=>
 b7 (d8 (b9 v19 true) (j5 0 v4)) fun v20=>
 b7 (d8 (b9 v19 true) (d0 S5 v20)) fun v21=>
 b7 (d8 (b9 v19 true) (some v6)) fun v22=>
 p8 (b9 v19 true) (fun K=>j6 Try.prog E w0 B9 [v21,v22] S5 K) S5 fun v23 S24=>
 b7 (d8 (b9 v19 true) (unD .not v23)) fun v25=>
 b7 (o0 v19 v25 (.bool false)) fun v26=>
 b7 (d8 (b9 v26 true) (j5 1 v4)) fun v27=>
 b7 (d8 (b9 v26 true) (d0 S24 v27)) fun v28=>
 b7 (d8 (b9 v26 true) (some v6)) fun v29=>
 p8 (b9 v26 true) (fun K=>j6 Try.prog E w0 B9 [v28,v29] S24 K) S24 fun v30 S31=>
 b7 (d8 (b9 v26 true) (unD .not v30)) fun v32=>
 b7 (o0 v26 v32 (.bool false)) fun v33=>
 Q v33 S31
theorem b5A{E:i9}{w0:j7}{Q:D→b8→Prop}{a0 a1 a2:D}{S:b8}(h:b1o E w0 (d9 E Q) a0 a1 a2 S):j6 Try.prog E w0 a2B [a0,a1,a2] S Q:=
 j4 b8M b8y b8Q (fn:=Try.f46) (c:=Try.f46.body.getD .skip) mixed Try.func46 (by kernel_rfl) (by kernel_rfl) h
def b4H:List (Nat×List Nat):=[]
def b4N:List (Nat×List Nat):=[]
def b5O:List (Nat×V5):=[]
def a8y(E:i9)(w0:j7)(Q:D→b8→Prop)(a0 c0:D)(S:b8):Prop:=
 b7 (f9 .neq a0 (.int .i64 0)) fun v0=>
 b7 (d8 (b9 v0 true) (some a0)) fun v1=>
 b7 (d8 (b9 v0 true) (f9 .lss v1 (.int .i64 1))) fun v2=>
 b7 (d8 (b9 v0 true) (some v2)) fun v3=>
 b7 (d8 (b9 v3 false) (some a0)) fun v4=>
 b7 (d8 (b9 v3 false) (f9 .gtr v4 (.int .i64 5))) fun v5=>
 b7 (d8 (b9 v0 true) (o0 v3 (.bool true) v5)) fun v6=>
 b7 (o0 v0 v6 (.bool false)) fun v7=>
 b7 (d8 (b9 v7 true) (some a0)) fun v8=>
 b7 (d8 (b9 v7 true) (f9 .lss v8 (.int .i64 16))) fun v9=>
 b7 (d8 (b9 v7 true) (some v9)) fun v10=>
 b7 (d8 (b9 v10 false) (some a0)) fun v11=>
 b7 (d8 (b9 v10 false) (f9 .sub v11 (.int .i64 16))) fun v12=>
 b7 (d8 (b9 v10 false) (j5 0 c0)) fun v13=>
 b7 (d8 (b9 v10 false) (d0 S v13)) fun v14=>
 b7 (d8 (b9 v10 false) (m9 v14)) fun v15=>
 b7 (d8 (b9 v10 false) (f9 .geq v12 v15)) fun v16=>
 b7 (d8 (b9 v7 true) (o0 v10 (.bool true) v16)) fun v17=>
 b7 (o0 v7 v17 (.bool false)) fun v18=>
 Q v18 S
theorem b2O{E:i9}{w0:j7}{Q:D→b8→Prop}{a0 c0:D}{S:b8}(h:a8y E w0 (d9 E Q) a0 c0 S):j6 Try.prog E w0 a1o [a0,c0] S Q:=
 j4 b4H b4N b5O (fn:=Try.f64) (c:=Try.f64.body.getD .skip) mixed Try.func64 (by kernel_rfl) (by kernel_rfl) h
def Y2:List (Nat×List Nat):=[(12,[0,2,8,9,30,31,32])]
def Z5:List (Nat×List Nat):=[]
def Z8:List (Nat×V5):=[]
noncomputable def X0:Code:=(j9 [1,1,1,1,0,1,0,0] (Try.f69.body.getD .skip))
def W2(E:i9)(w0:j7)(Q:D→b8→Prop):o7→List D→b8→Prop:=
 (r8 0 (L3 Try.prog E w0 Y2 Z5 Z8 (j9 [1,1,1,1,1] (Try.f69.body.getD .skip)) (F3 Try.prog Try.f69 Q)))
def V8(E:i9)(w0:j7)(N0:D→D→D→D→D→D→D→b8→Prop)(Q:D→b8→Prop)(x0 x2 x8 x9 x30 x31 x32:D)(S:b8):Prop:=
 b7 (f9 .lss x32 x31) fun v14=>
 i5 v14
 (b7 (p9 1 x30 x32) fun v15=>
 b7 (d0 S v15) fun v16=>
 b7 (f9 .neq v16 (.int .i64 0)) fun v17=>
 b7 (d8 (b9 v17 true) (some x9)) fun v18=>
 b7 (d8 (b9 v17 true) (some x32)) fun v19=>
 b7 (d8 (b9 v17 true) (p9 1 v18 v19)) fun v20=>
 b7 (d8 (b9 v17 true) (d0 S v20)) fun v21=>
 b7 (d8 (b9 v17 true) (some v16)) fun v22=>
 b7 (d8 (b9 v17 true) (f9 .neq v21 v22)) fun v23=>
 b7 (o0 v17 v23 (.bool false)) fun v24=>
 b7 (d8 (b9 v24 false) (some v16)) fun v25=>
 b7 (d8 (b9 v24 false) (f9 .eql v25 (.int .i64 0))) fun v26=>
 b7 (d8 (b9 v24 false) (some v26)) fun v27=>
 b7 (d8 (b9 v27 true) (some x9)) fun v28=>
 b7 (d8 (b9 v27 true) (some x32)) fun v29=>
 b7 (d8 (b9 v27 true) (p9 1 v28 v29)) fun v30=>
 b7 (d8 (b9 v27 true) (d0 S v30)) fun v31=>
 b7 (d8 (b9 v27 true) (f9 .eql v31 (.int .i64 0))) fun v32=>
 b7 (d8 (b9 v24 false) (o0 v27 v32 (.bool false))) fun v33=>
 b7 (d8 (b9 v24 false) (some v33)) fun v34=>
 b7 (d8 (b9 v34 true) (some x2)) fun v35=>
 b7 (d8 (b9 v34 true) (unD .not v35)) fun v36=>
 b7 (d8 (b9 v24 false) (o0 v34 v36 (.bool false))) fun v37=>
 b7 (o0 v24 (.bool true) v37) fun v38=>
 i5 v38
 (Q (.tup [.nilSlc,(.int .i64 211)]) S)
 (b7 (f9 .add x32 (.int .i64 1)) fun v39=>
 N0 x0 x2 x8 x9 x30 x31 v39 S))
 (b7 (a0H x0) fun v40=>
 b7 (j5 0 v40) fun v41=>
 b7 (j5 1 v41) fun v42=>
 b7 (d0 S v42) fun v43=>
 b7 (a0E 1 v43 none (some x8) (some x8)) fun v44=>
 b7 (a0H x0) fun v45=>
 b7 (j5 0 v45) fun v46=>
 b7 (j5 1 v46) fun v47=>
 i7 S 1 v47 v44 fun v48 S49=>
 Q (.tup [x9,(.int .i64 0)]) S49)
theorem a6n{E:i9}{w0:j7}{N0:D→D→D→D→D→D→D→b8→Prop}{Q:D→b8→Prop}{x0 x2 x8 x9 x30 x31 x32:D}{S:b8}(h:V8 E w0 N0 Q x0 x2 x8 x9 x30 x31 x32 S):
  j3 Try.prog E w0 X0 (l9 76 [0,2,8,9,30,31,32] [x0,x2,x8,x9,x30,x31,x32]) S (D8 (fun T S=>N0 (T.getD 0 c9) (T.getD 2 c9) (T.getD 8 c9) (T.getD 9 c9) (T.getD 30 c9) (T.getD 31 c9) (T.getD 32 c9) S) (W2 E w0 Q)):=j0 Y2 Z5 Z8 mixed (by kernel_rfl) h
theorem a5P{E:i9}{w0:j7}{Q:D→b8→Prop}(I:Nat→D→D→D→D→D→D→D→b8→Prop)
  (step:∀n x0 x2 x8 x9 x30 x31 x32 S,I n x0 x2 x8 x9 x30 x31 x32 S→V8 E w0 (fun x0 x2 x8 x9 x30 x31 x32 S=>∃m,m<n∧I m x0 x2 x8 x9 x30 x31 x32 S) Q x0 x2 x8 x9 x30 x31 x32 S)
  {n:Nat} {x0 x2 x8 x9 x30 x31 x32:D} {S:b8} (h:I n x0 x2 x8 x9 x30 x31 x32 S):j3 Try.prog E w0 (.loop X0) (l9 76 [0,2,8,9,30,31,32] [x0,x2,x8,x9,x30,x31,x32]) S (W2 E w0 Q):=
 q9 (k:=76) (n:=n) (I:=fun n T S=>I n (T.getD 0 c9) (T.getD 2 c9) (T.getD 8 c9) (T.getD 9 c9) (T.getD 30 c9) (T.getD 31 c9) (T.getD 32 c9) S) (fun n T S hl hI=>s4 [0,2,8,9,30,31,32] hl (j3.mono (a6n (step n _ _ _ _ _ _ _ S hI)) fun ex T' S' _ hq=>by cases ex<;>exact hq)) (o5 ..) (Eq.mp (by kernel_rfl) h)
def a3j(E:i9)(w0:j7)(Q:D→b8→Prop)(a0 a1 a2:D)(S:b8):Prop:=
 b7 (a0H a0) fun v0=>
 b7 (j5 0 v0) fun v1=>
 b7 (j5 1 v1) fun v2=>
 b7 (d0 S v2) fun v3=>
 b7 (m9 v3) fun v4=>
 b7 (m9 a1) fun v5=>
 b7 (f9 .sub v4 v5) fun v6=>
 b7 (f9 .lss v6 (.int .i64 0)) fun v7=>
 i5 v7
 (Q (.tup [.nilSlc,(.int .i64 210)]) S)
 (b7 (a0H a0) fun v8=>
 b7 (j5 0 v8) fun v9=>
 b7 (j5 1 v9) fun v10=>
 b7 (d0 S v10) fun v11=>
 b7 (a0E 1 v11 (some v6) none none) fun v12=>
 b7 (m9 a1) fun v13=>
 j3 Try.prog E w0 (.loop X0) (l9 76 [0,2,8,9,30,31,32] [a0,a2,v6,v12,a1,v13,(.int .i64 0)]) S (W2 E w0 Q))
theorem a7B{E:i9}{w0:j7}{Q:D→b8→Prop}{a0 a1 a2:D}{S:b8}(h:a3j E w0 (d9 E Q) a0 a1 a2 S):j6 Try.prog E w0 a0u [a0,a1,a2] S Q:=
 j4 Y2 Z5 Z8 (fn:=Try.f69) (c:=Try.f69.body.getD .skip) mixed Try.func69 (by kernel_rfl) (by kernel_rfl) h
def b0h:List (Nat×List Nat):=[]
def b0n:List (Nat×List Nat):=[]
def b0r:List (Nat×V5):=[]
def a4q(E:i9)(w0:j7)(Q:D→b8→Prop)(a0 a1:D)(S:b8):Prop:=
 b7 (a0H a0) fun v0=>
 b7 (j5 0 v0) fun v1=>
 b7 (j5 1 v1) fun v2=>
 b7 (d0 S v2) fun v3=>
 s8 S 1 8 v3 a1 fun v4 S5=>
 b7 (a0H a0) fun v6=>
 b7 (j5 0 v6) fun v7=>
 b7 (j5 1 v7) fun v8=>
 i7 S5 1 v8 v4 fun v9 S10=>
 b7 (a0H a0) fun v11=>
 b7 (j5 0 v11) fun v12=>
 b7 (j5 1 v12) fun v13=>
 b7 (d0 S10 v13) fun v14=>
 b7 (m9 v14) fun v15=>
 b7 (a0H a0) fun v16=>
 b7 (j5 2 v16) fun v17=>
 b7 (d0 S10 v17) fun v18=>
 b7 (f9 .gtr v15 v18) fun v19=>
 i5 v19
 (Q (.int .i64 210) S10)
 (Q (.int .i64 0) S10)
theorem a8w{E:i9}{w0:j7}{Q:D→b8→Prop}{a0 a1:D}{S:b8}(h:a4q E w0 (d9 E Q) a0 a1 S):j6 Try.prog E w0 F6 [a0,a1] S Q:=
 j4 b0h b0n b0r (fn:=Try.f70) (c:=Try.f70.body.getD .skip) mixed Try.func70 (by kernel_rfl) (by kernel_rfl) h
def a4k:List (Nat×List Nat):=[]
def a4v:List (Nat×List Nat):=[(16,[0,7,9,10])]
def a4h:List (Nat×V5):=[]
noncomputable def a9J:Code:=(j9 [1,1,1,1] (Try.f49.body.getD .skip))
def a8k(E:i9)(w0:j7)(Q:D→b8→Prop):o7→List D→b8→Prop:=
 (F3 Try.prog Try.f49 Q)
def a2u(E:i9)(w0:j7)(Q:D→b8→Prop)(x0 x7 x9 x10:D)(S:b8):Prop:=
 b7 (j5 0 x7) fun v14=>
 b7 (d0 S v14) fun v15=>
 b7 (f9 .eql v15 (.int .u8 9)) fun v16=>
 j6 Try.prog E w0 a0u [x0,x9,v16] S fun v17 S18=>
 b7 (j2 v17 0) fun v19=>
 b7 (j2 v17 1) fun v20=>
 b7 (f9 .neq v20 (.int .i64 0)) fun v21=>
 i5 v21
 (Q v20 S18)
 (b7 (j5 0 x7) fun v22=>
 b7 (d0 S18 v22) fun v23=>
 b7 (f9 .eql v23 (.int .u8 7)) fun v24=>
 i5 v24
 (b7 (a0H x0) fun v25=>
 b7 (j5 0 v25) fun v26=>
 b7 (j5 0 v26) fun v27=>
 b7 (d0 S18 v27) fun v28=>
 b7 (j5 1 x7) fun v29=>
 b7 (d0 S18 v29) fun v30=>
 b7 (p9 1 v28 v30) fun v31=>
 b7 (d0 S18 v31) fun v32=>
 b7 (f9 .eql v32 (.int .i64 0)) fun v33=>
 i5 v33
 (Q (.int .i64 212) S18)
 (m8 S18 1 (j1 1 (List.replicate 1 [(.int .i64 0)]) [(0,v32)]) 1 fun v34 S35=>
 j6 Try.prog E w0 F6 [x0,v34] S35 fun v36 S37=>
 Q v36 S37))
 (b7 (f9 .eql v23 (.int .u8 8)) fun v38=>
 i5 v38
 (b7 (a0H x0) fun v39=>
 b7 (j5 0 v39) fun v40=>
 b7 (j5 0 v40) fun v41=>
 b7 (d0 S18 v41) fun v42=>
 b7 (j5 1 x7) fun v43=>
 b7 (d0 S18 v43) fun v44=>
 b7 (p9 1 v19 (.int .i64 0)) fun v45=>
 b7 (d0 S18 v45) fun v46=>
 b7 (p9 1 v42 v44) fun v47=>
 i7 S18 1 v47 v46 fun v48 S49=>
 Q (.int .i64 0) S49)
 (b7 (f9 .eql v23 (.int .u8 10)) fun v50=>
 i5 v50
 (b7 (p9 1 v19 (.int .i64 0)) fun v51=>
 b7 (d0 S18 v51) fun v52=>
 b7 (p9 1 v19 (.int .i64 0)) fun v53=>
 b7 (d0 S18 v53) fun v54=>
 m8 S18 1 (j1 1 (List.replicate 2 [(.int .i64 0)]) [(0,v52),(1,v54)]) 2 fun v55 S56=>
 j6 Try.prog E w0 F6 [x0,v55] S56 fun v57 S58=>
 Q v57 S58)
 (j6 Try.prog E w0 F6 [x0,x10] S18 fun v59 S60=>
 Q v59 S60))))
def M2(E:i9)(w0:j7)(Q:D→b8→Prop)(x0 x7 x9 x10:D)(S:b8):Prop:=j3 Try.prog E w0 a9J (l9 96 [0,7,9,10] [x0,x7,x9,x10]) S (a8k E w0 Q)
theorem a6K{E:i9}{w0:j7}{Q:D→b8→Prop}{x0 x7 x9 x10:D}{S:b8}(h:a2u E w0 Q x0 x7 x9 x10 S):M2 E w0 Q x0 x7 x9 x10 S:=j0 a4k a4v a4h mixed (by kernel_rfl) h
def a4Y(E:i9)(w0:j7)(Q:D→b8→Prop)(a0 a1 a2 a3:D)(S:b8):Prop:=
 b7 (o4 a1) fun cs=>j8 S cs fun v0 S1=>
 b7 (o4 a2) fun cs=>j8 S1 cs fun v2 S3=>
 b7 (o4 a3) fun cs=>j8 S3 cs fun v4 S5=>
 b7 (i4 S5 4 v4) fun v6=>
 b7 (i4 S5 3 v0) fun v7=>
 j6 Try.prog E w0 a0Z [v6,v7] S5 fun v8 S9=>
 b7 (j2 v8 0) fun v10=>
 b7 (j2 v8 1) fun v11=>
 b7 (j2 v8 2) fun v12=>
 b7 (f9 .neq v12 (.int .i64 0)) fun v13=>
 i5 v13
 (Q v12 S9)
 (b7 (j5 0 v4) fun v61=>
 b7 (d0 S9 v61) fun v62=>
 b7 (f9 .eql v62 (.int .u8 51)) fun v63=>
 i5 v63
 (b7 (j5 2 v2) fun v64=>
 b7 (d0 S9 v64) fun v65=>
 b7 (a0H a0) fun v66=>
 b7 (j5 0 v66) fun v67=>
 b7 (j5 1 v67) fun v68=>
 b7 (d0 S9 v68) fun v69=>
 b7 (m9 v69) fun v70=>
 b7 (m9 v65) fun v71=>
 b7 (f9 .gtr v70 v71) fun v72=>
 i5 v72
 (Q (.int .i64 210) S9)
 (M2 E w0 Q a0 v4 v65 v11 S9))
 (M2 E w0 Q a0 v4 v10 v11 S9))
theorem a8M{E:i9}{w0:j7}{Q:D→b8→Prop}{a0 a1 a2 a3:D}{S:b8}(h:a4Y E w0 (d9 E Q) a0 a1 a2 a3 S):j6 Try.prog E w0 V1 [a0,a1,a2,a3] S Q:=
 j4 a4k a4v a4h (fn:=Try.f49) (c:=Try.f49.body.getD .skip) mixed Try.func49 (by kernel_rfl) (by kernel_rfl) h
def Q8:List (Nat×List Nat):=[(28,[5,36,37,38])]
def Q6:List (Nat×List Nat):=[(21,[2,5,11,12]),(41,[2,5,11,21]),(36,[5])]
def P8:List (Nat×V5):=[]
noncomputable def V3:Code:=(j9 [1,1,1] (Try.f50.body.getD .skip))
def b1e(E:i9)(w0:j7)(Q:D→b8→Prop):o7→List D→b8→Prop:=
 (F3 Try.prog Try.f50 Q)
def a4V(E:i9)(w0:j7)(Q:D→b8→Prop)(x5:D)(S:b8):Prop:=
 j6 Try.prog E w0 a2R [x5] S fun v4 S5=>
 j6 Try.prog E w0 a0N [x5] S5 fun v6 S7=>
 Q v6 S7
def E2(E:i9)(w0:j7)(Q:D→b8→Prop)(x5:D)(S:b8):Prop:=j3 Try.prog E w0 V3 (l9 52 [5] [x5]) S (b1e E w0 Q)
theorem a9r{E:i9}{w0:j7}{Q:D→b8→Prop}{x5:D}{S:b8}(h:a4V E w0 Q x5 S):E2 E w0 Q x5 S:=j0 Q8 Q6 P8 mixed (by kernel_rfl) h
noncomputable def Z4:Code:=(j9 [1,1,0,1,0,1,1,1,1,1,1,1,0,1,1,0,0] (Try.f50.body.getD .skip))
def Y6(E:i9)(w0:j7)(Q:D→b8→Prop):o7→List D→b8→Prop:=
 (r8 1 (r8 0 (d2t Try.prog E w0 52 [5] V3 (F3 Try.prog Try.f50 Q))))
def a1U(E:i9)(w0:j7)(N0:D→D→D→D→b8→Prop)(Q:D→b8→Prop)(x5 x36 x37 x38:D)(S:b8):Prop:=
 b7 (f9 .lss x38 x37) fun v31=>
 i5 v31
 (b7 (p9 2 x36 x38) fun v32=>
 b7 (i4 S 2 v32) fun v33=>
 j8 S [(.int .i64 0),(.int .i64 0)] fun v34 S35=>
 i7 S35 2 v34 v33 fun v36 S37=>
 b7 (j5 1 v34) fun v38=>
 b7 (d0 S37 v38) fun v39=>
 m8 S37 1 (j1 1 (List.replicate 1 [(.int .i64 0)]) [(0,v39)]) 1 fun v40 S41=>
 s8 S41 1 8 x5 v40 fun v42 S43=>
 b7 (f9 .add x38 (.int .i64 1)) fun v44=>
 N0 v42 x36 x37 v44 S43)
 (E2 E w0 Q x5 S)
theorem b0p{E:i9}{w0:j7}{N0:D→D→D→D→b8→Prop}{Q:D→b8→Prop}{x5 x36 x37 x38:D}{S:b8}(h:a1U E w0 N0 Q x5 x36 x37 x38 S):
  j3 Try.prog E w0 Z4 (l9 52 [5,36,37,38] [x5,x36,x37,x38]) S (D8 (fun T S=>N0 (T.getD 5 c9) (T.getD 36 c9) (T.getD 37 c9) (T.getD 38 c9) S) (Y6 E w0 Q)):=j0 Q8 Q6 P8 mixed (by kernel_rfl) h
theorem b0j{E:i9}{w0:j7}{Q:D→b8→Prop}(I:Nat→D→D→D→D→b8→Prop)
  (step:∀n x5 x36 x37 x38 S,I n x5 x36 x37 x38 S→a1U E w0 (fun x5 x36 x37 x38 S=>∃m,m<n∧I m x5 x36 x37 x38 S) Q x5 x36 x37 x38 S)
  {n:Nat} {x5 x36 x37 x38:D} {S:b8} (h:I n x5 x36 x37 x38 S):j3 Try.prog E w0 (.loop Z4) (l9 52 [5,36,37,38] [x5,x36,x37,x38]) S (Y6 E w0 Q):=
 q9 (k:=52) (n:=n) (I:=fun n T S=>I n (T.getD 5 c9) (T.getD 36 c9) (T.getD 37 c9) (T.getD 38 c9) S) (fun n T S hl hI=>s4 [5,36,37,38] hl (j3.mono (b0p (step n _ _ _ _ S hI)) fun ex T' S' _ hq=>by cases ex<;>exact hq)) (o5 ..) (Eq.mp (by kernel_rfl) h)
noncomputable def b2Y:Code:=(j9 [1,1,0,1,0,1,1,1,1,1] (Try.f50.body.getD .skip))
def b1H(E:i9)(w0:j7)(Q:D→b8→Prop):o7→List D→b8→Prop:=
 (r8 0 (d2t Try.prog E w0 52 [5] V3 (F3 Try.prog Try.f50 Q)))
def a4U(E:i9)(w0:j7)(Q:D→b8→Prop)(x2 x5 x11 x21:D)(S:b8):Prop:=
 i5 x21
 (b7 (j5 1 x2) fun v16=>
 b7 (d0 S v16) fun v17=>
 m8 S 1 (j1 1 (List.replicate 1 [(.int .i64 0)]) [(0,v17)]) 1 fun v18 S19=>
 s8 S19 1 8 x5 v18 fun v20 S21=>
 E2 E w0 Q v20 S21)
 (b7 (f9 .eql x11 (.int .u8 49)) fun v22=>
 i5 v22
 (b7 (j5 2 x2) fun v23=>
 b7 (d0 S v23) fun v24=>
 b7 (p9 1 x5 (.int .i64 0)) fun v25=>
 i7 S 1 v25 v24 fun v26 S27=>
 b7 (j5 3 x2) fun v28=>
 b7 (d0 S27 v28) fun v29=>
 b7 (m9 v29) fun v30=>
 j3 Try.prog E w0 (.loop Z4) (l9 52 [5,36,37,38] [x5,v29,v30,(.int .i64 0)]) S27 (Y6 E w0 Q))
 (E2 E w0 Q x5 S))
def V4(E:i9)(w0:j7)(Q:D→b8→Prop)(x2 x5 x11 x21:D)(S:b8):Prop:=j3 Try.prog E w0 b2Y (l9 52 [2,5,11,21] [x2,x5,x11,x21]) S (b1H E w0 Q)
theorem a8F{E:i9}{w0:j7}{Q:D→b8→Prop}{x2 x5 x11 x21:D}{S:b8}(h:a4U E w0 Q x2 x5 x11 x21 S):V4 E w0 Q x2 x5 x11 x21 S:=j0 Q8 Q6 P8 mixed (by kernel_rfl) h
noncomputable def b2W:Code:=(j9 [1,1,0,1,0,1] (Try.f50.body.getD .skip))
def b1P(E:i9)(w0:j7)(Q:D→b8→Prop):o7→List D→b8→Prop:=
 (r8 0 (d2t Try.prog E w0 52 [5] V3 (F3 Try.prog Try.f50 Q)))
def a4Q(E:i9)(w0:j7)(Q:D→b8→Prop)(x2 x5 x11 x12:D)(S:b8):Prop:=
 i5 x12
 (Q .nilSlc S)
 (b7 (f9 .eql x11 (.int .u8 46)) fun v10=>
 i5 v10
 (b7 (j5 1 x2) fun v11=>
 b7 (d0 S v11) fun v12=>
 b7 (p9 1 x5 (.int .i64 0)) fun v13=>
 i7 S 1 v13 v12 fun v14 S15=>
 E2 E w0 Q x5 S15)
 (b7 (f9 .eql x11 (.int .u8 47)) fun v45=>
 i5 v45
 (V4 E w0 Q x2 x5 x11 v45 S)
 (b7 (f9 .eql x11 (.int .u8 48)) fun v46=>
 V4 E w0 Q x2 x5 x11 v46 S)))
def V2(E:i9)(w0:j7)(Q:D→b8→Prop)(x2 x5 x11 x12:D)(S:b8):Prop:=j3 Try.prog E w0 b2W (l9 52 [2,5,11,12] [x2,x5,x11,x12]) S (b1P E w0 Q)
theorem a9B{E:i9}{w0:j7}{Q:D→b8→Prop}{x2 x5 x11 x12:D}{S:b8}(h:a4Q E w0 Q x2 x5 x11 x12 S):V2 E w0 Q x2 x5 x11 x12 S:=j0 Q8 Q6 P8 mixed (by kernel_rfl) h
def a7V(E:i9)(w0:j7)(Q:D→b8→Prop)(a0 a1:D)(S:b8):Prop:=
 b7 (o4 a0) fun cs=>j8 S cs fun v0 S1=>
 m8 S1 1 (j1 1 (List.replicate 1 [(.int .i64 0)]) [(0,a1)]) 1 fun v2 S3=>
 b7 (j5 0 v0) fun v8=>
 b7 (d0 S3 v8) fun v9=>
 b7 (f9 .eql v9 (.int .u8 51)) fun v47=>
 i5 v47
 (V2 E w0 Q v0 v2 v9 v47 S3)
 (b7 (f9 .eql v9 (.int .u8 52)) fun v48=>
 V2 E w0 Q v0 v2 v9 v48 S3)
theorem b2A{E:i9}{w0:j7}{Q:D→b8→Prop}{a0 a1:D}{S:b8}(h:a7V E w0 (d9 E Q) a0 a1 S):j6 Try.prog E w0 a3A [a0,a1] S Q:=
 j4 Q8 Q6 P8 (fn:=Try.f50) (c:=Try.f50.body.getD .skip) mixed Try.func50 (by kernel_rfl) (by kernel_rfl) h
def a3B:List (Nat×List Nat):=[(34,[14,18,20,95,96,97])]
def a3L:List (Nat×List Nat):=[]
def a3K:List (Nat×V5):=[(11,(.leaf [0,1,3,4,7,8,2,5,6,9,10,11])),(16,(.leaf [0,1,2,3,4,5,6,7,10,11,16,8,9,12,13,14,15])),(22,(.leaf [0,1,2,3,4,5,6,8,9,10,11,12,7,13,14,15,16,17,18]))]
noncomputable def a0z:Code:=(j9 [1,1,1,1,1,1,1,1,1,1,0,1,0,0] (Try.f30.body.getD .skip))
def a0C(E:i9)(w0:j7)(Q:D→b8→Prop):o7→List D→b8→Prop:=
 (r8 0 (L3 Try.prog E w0 a3B a3L a3K (j9 [1,1,1,1,1,1,1,1,1,1,1] (Try.f30.body.getD .skip)) (F3 Try.prog Try.f30 Q)))
def a2L(E:i9)(w0:j7)(N0:D→D→D→D→D→D→b8→Prop)(Q:D→b8→Prop)(x14 x18 x20 x95 x96 x97:D)(S:b8):Prop:=
 b7 (f9 .lss x97 x96) fun v76=>
 i5 v76
 (b7 (p9 1 x95 x97) fun v77=>
 b7 (d0 S v77) fun v78=>
 j6 Try.prog E w0 E0 [x14,v78] S fun v79 S80=>
 b7 (j2 v79 0) fun v81=>
 b7 (j2 v79 1) fun v82=>
 b7 (unD .not v82) fun v83=>
 i5 v83
 (Q (.tup [.nilSlc,(.int .i64 190)]) S80)
 (b7 (a0H x18) fun v84=>
 b7 (j5 0 v84) fun v85=>
 b7 (j5 0 v85) fun v86=>
 b7 (d0 S80 v86) fun v87=>
 b7 (a0H x18) fun v88=>
 b7 (j5 0 v88) fun v89=>
 b7 (j5 1 v89) fun v90=>
 b7 (d0 S80 v90) fun v91=>
 j6 Try.prog E w0 y0 [v87] S80 fun v92 S93=>
 r3 v90 S80 S93∧j6 Try.prog E w0 y0 [v91] S93 fun v94 S95=>
 b7 (C3 (o8 [.nilSlc, .nilSlc] [(0,1,v92),(1,1,v94)])) fun v96=>
 b7 (C3 (o8 [(.int .i64 0), .nilSlc, .nilSlc] [(0,1,v78),(1,2,v96)])) fun v97=>
 m8 S95 3 (j1 3 (List.replicate 1 [(.int .i64 0), .nilSlc, .nilSlc]) [(0,v97)]) 1 fun v98 S99=>
 s8 S99 3 56 x20 v98 fun v100 S101=>
 b7 (f9 .add x97 (.int .i64 1)) fun v102=>
 N0 x14 x18 v100 x95 x96 v102 S101))
 (Q (.tup [x20,(.int .i64 0)]) S)
theorem b1I{E:i9}{w0:j7}{N0:D→D→D→D→D→D→b8→Prop}{Q:D→b8→Prop}{x14 x18 x20 x95 x96 x97:D}{S:b8}(h:a2L E w0 N0 Q x14 x18 x20 x95 x96 x97 S):
  j3 Try.prog E w0 a0z (l9 129 [14,18,20,95,96,97] [x14,x18,x20,x95,x96,x97]) S (D8 (fun T S=>N0 (T.getD 14 c9) (T.getD 18 c9) (T.getD 20 c9) (T.getD 95 c9) (T.getD 96 c9) (T.getD 97 c9) S) (a0C E w0 Q)):=j0 a3B a3L a3K mixed (by kernel_rfl) h
theorem b0O{E:i9}{w0:j7}{Q:D→b8→Prop}(I:Nat→D→D→D→D→D→D→b8→Prop)
  (step:∀n x14 x18 x20 x95 x96 x97 S,I n x14 x18 x20 x95 x96 x97 S→a2L E w0 (fun x14 x18 x20 x95 x96 x97 S=>∃m,m<n∧I m x14 x18 x20 x95 x96 x97 S) Q x14 x18 x20 x95 x96 x97 S)
  {n:Nat} {x14 x18 x20 x95 x96 x97:D} {S:b8} (h:I n x14 x18 x20 x95 x96 x97 S):j3 Try.prog E w0 (.loop a0z) (l9 129 [14,18,20,95,96,97] [x14,x18,x20,x95,x96,x97]) S (a0C E w0 Q):=
 q9 (k:=129) (n:=n) (I:=fun n T S=>I n (T.getD 14 c9) (T.getD 18 c9) (T.getD 20 c9) (T.getD 95 c9) (T.getD 96 c9) (T.getD 97 c9) S) (fun n T S hl hI=>s4 [14,18,20,95,96,97] hl (j3.mono (b1I (step n _ _ _ _ _ _ S hI)) fun ex T' S' _ hq=>by cases ex<;>exact hq)) (o5 ..) (Eq.mp (by kernel_rfl) h)
def a9Y(E:i9)(w0:j7)(Q:D→b8→Prop)(a0 a1 a2 a3:D)(S:b8):Prop:=
 b7 (o4 a0) fun cs=>j8 S cs fun v0 S1=>
 b7 (o4 a3) fun cs=>j8 S1 cs fun v2 S3=>
 b7 (i4 S3 3 v0) fun v4=>
 j6 Try.prog E w0 D9 [v4,a1] S3 fun v5 S6=>
 b7 (j2 v5 0) fun v7=>
 b7 (j2 v5 1) fun v8=>
 j8 S6 [.nilSlc, .nilSlc] fun v9 S10=>
 i7 S10 2 v9 v7 fun v11 S12=>
 b7 (f9 .neq v8 (.int .i64 0)) fun v13=>
 i5 v13
 (Q (.tup [.nilSlc,v8]) S12)
 (b7 (j5 2 v0) fun v14=>
 b7 (d0 S12 v14) fun v15=>
 b7 (p9 6 v15 a1) fun v16=>
 b7 (i4 S12 6 v16) fun v17=>
 j8 S12 [(.str []), .nilSlc, .nilSlc,(.int .i64 0),(.int .i64 0), .nilSlc] fun v18 S19=>
 i7 S19 6 v18 v17 fun v20 S21=>
 b7 (i4 S21 3 v0) fun v22=>
 b7 (i4 S21 6 v18) fun v23=>
 b7 (i4 S21 2 v2) fun v24=>
 j6 Try.prog E w0 a2B [v22,v23,v24] S21 fun v25 S26=>
 b7 (unD .not v25) fun v27=>
 i5 v27
 (Q (.tup [.nilSlc,(.int .i64 2)]) S26)
 (b7 (j5 5 v18) fun v28=>
 b7 (d0 S26 v28) fun v29=>
 j6 Try.prog E w0 a5u [v29] S26 fun v30 S31=>
 b7 (j2 v30 0) fun v32=>
 b7 (j2 v30 1) fun v33=>
 b7 (j2 v30 2) fun v34=>
 j6 Try.prog E w0 E0 [v33,a2] S31 fun v35 S36=>
 b7 (j2 v35 0) fun v37=>
 b7 (j2 v35 1) fun v38=>
 b7 (unD .not v38) fun v39=>
 i5 v39
 (Q (.tup [.nilSlc,(.int .i64 190)]) S36)
 (b7 (j5 0 v2) fun v40=>
 b7 (d0 S36 v40) fun v41=>
 b7 (j5 1 v2) fun v42=>
 b7 (d0 S36 v42) fun v43=>
 b7 (j5 4 v18) fun v44=>
 b7 (d0 S36 v44) fun v45=>
 j6 Try.prog E w0 y0 [v41] S36 fun v46 S47=>
 r3 v42 S36 S47∧r3 v44 S36 S47∧j6 Try.prog E w0 y0 [v43] S47 fun v48 S49=>
 r3 v44 S36 S49∧b7 (C3 (o8 [.nilSlc, .nilSlc] [(0,1,v46),(1,1,v48)])) fun v50=>
 b7 (C3 (o8 [.nilSlc, .nilSlc,(.int .i64 0)] [(0,2,v50),(2,1,v45)])) fun v51=>
 b7 (o4 v51) fun cs=>j8 S49 cs fun v52 S53=>
 b7 (i4 S53 3 v0) fun v54=>
 b7 (i4 S53 6 v18) fun v55=>
 b7 (p9 4 v32 v37) fun v56=>
 b7 (i4 S53 4 v56) fun v57=>
 j6 Try.prog E w0 V1 [v52,v54,v55,v57] S53 fun v58 S59=>
 b7 (f9 .neq v58 (.int .i64 0)) fun v60=>
 i5 v60
 (Q (.tup [.nilSlc,v58]) S59)
 (b7 (p9 4 v32 v37) fun v61=>
 b7 (i4 S59 4 v61) fun v62=>
 b7 (j5 5 v18) fun v63=>
 b7 (d0 S59 v63) fun v64=>
 b7 (m9 v64) fun v65=>
 b7 (f9 .add v37 (.int .i64 1)) fun v66=>
 m8 S59 1 (j1 1 (List.replicate 1 [(.int .i64 0)]) [(0,v65)]) 1 fun v67 S68=>
 r3 v61 S59 S68∧s8 S68 1 8 v33 v67 fun v69 S70=>
 r3 v61 S59 S70∧b7 (p9 1 v69 v66) fun v71=>
 b7 (d0 S70 v71) fun v72=>
 j6 Try.prog E w0 a3A [v62,v72] S70 fun v73 S74=>
 b7 (m9 v73) fun v75=>
 j3 Try.prog E w0 (.loop a0z) (l9 129 [14,18,20,95,96,97] [v33,v52, .nilSlc,v73,v75,(.int .i64 0)]) S74 (a0C E w0 Q)))))
theorem b4j{E:i9}{w0:j7}{Q:D→b8→Prop}{a0 a1 a2 a3:D}{S:b8}(h:a9Y E w0 (d9 E Q) a0 a1 a2 a3 S):j6 Try.prog E w0 u7 [a0,a1,a2,a3] S Q:=
 j4 a3B a3L a3K (fn:=Try.f30) (c:=Try.f30.body.getD .skip) mixed Try.func30 (by kernel_rfl) (by kernel_rfl) h
def O7:List (Nat×List Nat):=[(6,[0,1,6,7,8])]
def O4:List (Nat×List Nat):=[]
def O5:List (Nat×V5):=[]
noncomputable def M3:Code:=(j9 [1,1,1,0,0,0] (Try.f47.body.getD .skip))
def M1(E:i9)(w0:j7)(Q:D→b8→Prop):o7→List D→b8→Prop:=
 (r8 0 (L3 Try.prog E w0 O7 O4 O5 (j9 [1,1,1,1] (Try.f47.body.getD .skip)) (F3 Try.prog Try.f47 Q)))
def L9(E:i9)(w0:j7)(N0:D→D→D→D→D→b8→Prop)(Q:D→b8→Prop)(x0 x1 x6 x7 x8:D)(S:b8):Prop:=
 b7 (f9 .lss x7 x8) fun v1=>
 i5 v1
 (b7 (f9 .add x7 x8) fun v2=>
 b7 (K1 .u64 v2) fun v3=>
 b7 (f9 .shr v3 (.int .u64 1)) fun v4=>
 b7 (K1 .i64 v4) fun v5=>
 b7 (p9 1 x0 v5) fun v6=>
 b7 (d0 S v6) fun v7=>
 j6 Try.prog E w0 a5J [v7,x1] S fun v8 S9=>
 i5 v8
 (b7 (f9 .add v5 (.int .i64 1)) fun v10=>
 N0 x0 x1 x6 v10 x8 S9)
 (N0 x0 x1 x6 x7 v5 S9))
 (b7 (f9 .lss x7 x6) fun v11=>
 b7 (d8 (b9 v11 true) (some x0)) fun v12=>
 b7 (d8 (b9 v11 true) (some x7)) fun v13=>
 b7 (d8 (b9 v11 true) (p9 1 v12 v13)) fun v14=>
 b7 (d8 (b9 v11 true) (d0 S v14)) fun v15=>
 b7 (d8 (b9 v11 true) (some x1)) fun v16=>
 b7 (d8 (b9 v11 true) (f9 .eql v15 v16)) fun v17=>
 b7 (d8 (b9 v11 true) (some v17)) fun v18=>
 b7 (d8 (b9 v18 false) (some x0)) fun v19=>
 b7 (d8 (b9 v18 false) (some x7)) fun v20=>
 b7 (d8 (b9 v18 false) (p9 1 v19 v20)) fun v21=>
 b7 (d8 (b9 v18 false) (d0 S v21)) fun v22=>
 p8 (b9 v18 false) (fun K=>j6 Try.prog E w0 Y3 [v22] S K) S fun v23 S24=>
 b7 (d8 (b9 v18 false) (some v23)) fun v25=>
 b7 (d8 (b9 v25 true) (some x1)) fun v26=>
 p8 (b9 v25 true) (fun K=>j6 Try.prog E w0 Y3 [v26] S24 K) S24 fun v27 S28=>
 b7 (d8 (b9 v18 false) (o0 v25 v27 (.bool false))) fun v29=>
 b7 (d8 (b9 v11 true) (o0 v18 (.bool true) v29)) fun v30=>
 b7 (o0 v11 v30 (.bool false)) fun v31=>
 Q (.tup [x7,v31]) S28)
theorem a3J{E:i9}{w0:j7}{N0:D→D→D→D→D→b8→Prop}{Q:D→b8→Prop}{x0 x1 x6 x7 x8:D}{S:b8}(h:L9 E w0 N0 Q x0 x1 x6 x7 x8 S):
  j3 Try.prog E w0 M3 (l9 54 [0,1,6,7,8] [x0,x1,x6,x7,x8]) S (D8 (fun T S=>N0 (T.getD 0 c9) (T.getD 1 c9) (T.getD 6 c9) (T.getD 7 c9) (T.getD 8 c9) S) (M1 E w0 Q)):=j0 O7 O4 O5 mixed (by kernel_rfl) h
theorem a3u{E:i9}{w0:j7}{Q:D→b8→Prop}(I:Nat→D→D→D→D→D→b8→Prop)
  (step:∀n x0 x1 x6 x7 x8 S,I n x0 x1 x6 x7 x8 S→L9 E w0 (fun x0 x1 x6 x7 x8 S=>∃m,m<n∧I m x0 x1 x6 x7 x8 S) Q x0 x1 x6 x7 x8 S)
  {n:Nat} {x0 x1 x6 x7 x8:D} {S:b8} (h:I n x0 x1 x6 x7 x8 S):j3 Try.prog E w0 (.loop M3) (l9 54 [0,1,6,7,8] [x0,x1,x6,x7,x8]) S (M1 E w0 Q):=
 q9 (k:=54) (n:=n) (I:=fun n T S=>I n (T.getD 0 c9) (T.getD 1 c9) (T.getD 6 c9) (T.getD 7 c9) (T.getD 8 c9) S) (fun n T S hl hI=>s4 [0,1,6,7,8] hl (j3.mono (a3J (step n _ _ _ _ _ S hI)) fun ex T' S' _ hq=>by cases ex<;>exact hq)) (o5 ..) (Eq.mp (by kernel_rfl) h)
def a1q(E:i9)(w0:j7)(Q:D→b8→Prop)(a0 a1:D)(S:b8):Prop:=
 b7 (m9 a0) fun v0=>
 j3 Try.prog E w0 (.loop M3) (l9 54 [0,1,6,7,8] [a0,a1,v0,(.int .i64 0),v0]) S (M1 E w0 Q)
theorem a4C{E:i9}{w0:j7}{Q:D→b8→Prop}{a0 a1:D}{S:b8}(h:a1q E w0 (d9 E Q) a0 a1 S):j6 Try.prog E w0 E0 [a0,a1] S Q:=
 j4 O7 O4 O5 (fn:=Try.f47) (c:=Try.f47.body.getD .skip) mixed Try.func47 (by kernel_rfl) (by kernel_rfl) h
def b9d:List (Nat×List Nat):=[]
def b8W:List (Nat×List Nat):=[]
def b8C:List (Nat×V5):=[]
def b1b(E:i9)(w0:j7)(Q:D→b8→Prop)(a0 a1:D)(S:b8):Prop:=
 j6 Try.prog E w0 a1O [a0] S fun v0 S1=>
 b7 (d8 (b9 v0 true) (some a1)) fun v2=>
 p8 (b9 v0 true) (fun K=>j6 Try.prog E w0 a1O [v2] S1 K) S1 fun v3 S4=>
 b7 (d8 (b9 v0 true) (unD .not v3)) fun v5=>
 b7 (o0 v0 v5 (.bool false)) fun v6=>
 b7 (d8 (b9 v6 false) (some a0)) fun v7=>
 b7 (d8 (b9 v6 false) (some a1)) fun v8=>
 b7 (d8 (b9 v6 false) (f9 .lss v7 v8)) fun v9=>
 b7 (o0 v6 (.bool true) v9) fun v10=>
 Q v10 S4
theorem b4S{E:i9}{w0:j7}{Q:D→b8→Prop}{a0 a1:D}{S:b8}(h:b1b E w0 (d9 E Q) a0 a1 S):j6 Try.prog E w0 a5J [a0,a1] S Q:=
 j4 b9d b8W b8C (fn:=Try.f66) (c:=Try.f66.body.getD .skip) mixed Try.func66 (by kernel_rfl) (by kernel_rfl) h
def b7y:List (Nat×List Nat):=[]
def b7d:List (Nat×List Nat):=[]
def b7o:List (Nat×V5):=[]
def a9T(E:i9)(w0:j7)(Q:D→b8→Prop)(a0:D)(S:b8):Prop:=
 b7 (f9 .neq a0 a0) fun v0=>
 Q v0 S
theorem b4c{E:i9}{w0:j7}{Q:D→b8→Prop}{a0:D}{S:b8}(h:a9T E w0 (d9 E Q) a0 S):j6 Try.prog E w0 a1O [a0] S Q:=
 j4 b7y b7d b7o (fn:=Try.f92) (c:=Try.f92.body.getD .skip) mixed Try.func92 (by kernel_rfl) (by kernel_rfl) h
def b2G:List (Nat×List Nat):=[]
def b2S:List (Nat×List Nat):=[]
def b2B:List (Nat×V5):=[]
def a5x(E:i9)(w0:j7)(Q:D→b8→Prop)(a0:D)(S:b8):Prop:=
 b7 (f9 .neq a0 a0) fun v0=>
 Q v0 S
theorem b0i{E:i9}{w0:j7}{Q:D→b8→Prop}{a0:D}{S:b8}(h:a5x E w0 (d9 E Q) a0 S):j6 Try.prog E w0 Y3 [a0] S Q:=
 j4 b2G b2S b2B (fn:=Try.f67) (c:=Try.f67.body.getD .skip) mixed Try.func67 (by kernel_rfl) (by kernel_rfl) h
end Go.Proofs.Ytdkidgkiplcggaa.d
end
section
open Go.Proofs Go Go.Am Go.Op
namespace Go.Proofs.Ytdkidgkiplcggaa.d
section
set_option linter.unusedSectionVars false
structure Fr where
 locals:List Int
 stack:List Int
 deriving DecidableEq
def frC(f:Fr):List D:=[iD f.locals,iD f.stack]
def frD(f:Fr):D:= .agg (frC f)
def fr0:Fr:=⟨[],[]⟩
structure Fr.Ok (f:Fr):Prop where
 l:f.locals.length<2^30
 s:f.stack.length<2^30
 ints:∀n∈f.locals++f.stack,X1 n
def a4K(r:Ro):Fr:=⟨r.params++List.replicate (r.locals.toNat - r.params.length) 0,[]⟩
def G6(m:Mo)(f:Int):Fr×Int:=
 if(a5i m).2≠0 then(fr0,(a5i m).2) else if f<0∨(m.funcs.length:Int)≤f then(fr0,4) else match m.funcs[f.toNat]? with
  |some r=>(a4K r,0)
  |none=>(fr0,4)
def a4M(m:Mo)(t:Int):Bool:=decide (t=0)||K7 m t
def b1Y(m:Mo)(r:Ro)(f:Fr):Bool:=decide ((f.locals.length:Int)=r.locals)&&decide ((f.stack.length:Int)≤r.stack)&&f.locals.all (a4M m)&&f.stack.all (a4M m)
theorem d0E{m:Mo}(h:(a5i m).2=0):O8 m=0:=by
 unfold a5i at h
 by_cases hs:O8 m=0
 ·exact hs
 ·rw[if_pos hs]at h;exact absurd h hs
structure d2I (m:Mo) (r:Ro):Prop where
 par:(r.params.length:Int)≤r.locals
 loc:r.locals≤256
 st0:0≤r.stack
 st1:r.stack≤4096
 res:r.results.length≤8
 code:r.code.length≤65536
 all0:(a8n (a6P r.code)).2.2=0
 ins:∀y∈(a8n (a6P r.code)).1,a1T m r y=true
theorem d1c{m:Mo}(h:(a5i m).2=0){r:Ro}(hr:r∈m.funcs):d2I m r:=by
 obtain⟨_,_,_,h4⟩:=b5C (d0E h)
 obtain⟨h5,h6⟩:=h4 r hr
 obtain⟨_,_,g3,g4,g5,g6⟩:=c0M h5
 unfold a2W at h6
 simp only[Bool.and_eq_true,Bool.not_eq_true',decide_eq_false_iff_not,decide_eq_true_eq,List.all_eq_true]at h6
 obtain⟨⟨⟨⟨⟨_,_⟩,q3⟩,q4⟩,q5⟩,q6⟩:=h6
 exact⟨by omega,g5,by omega,g6,g3,g4,q5,q6⟩
section
variable{E:i9}{w0:j7}
theorem d4I(r:Ro):(P1 r)[1]? =some (iD r.params)∧(P1 r)[2]? =some (iD r.results)∧(P1 r)[3]? =some (.int .i64 r.locals)∧(P1 r)[4]? =some (.int .i64 r.stack)∧(P1 r)[5]? =some (bD r.code):=⟨rfl,rfl,rfl,rfl,rfl⟩
def b3A(r:Fr×Int):D:= .tup [frD r.1, .int .i64 r.2]
theorem d4O:Wk (.agg [.nilSlc, .nilSlc]) (frD fr0):=Wk.agg ⟨Wk.nil 1,Wk.nil 1,trivial⟩
theorem a2z{m:Mo}(hm:m.Fits){f:Int}(hf:X1 f):P9 Try.prog E w0 D9 [moD m, .int .i64 f] (b3A (G6 m f)):=fun S=>by
 refine b2Z ?_
 unfold a8d
 rw[moD,W3,oD]
 intro k a n
 have hk:z7 (S.set k ⟨3,[O9 m],a⟩) k 3 (O9 m):=z7.new
 intro k2 a2 n2
 obtain⟨hne,n2'⟩:=b8.fresh n2
 have hk:=hk.set (o:=⟨2,[[.nilSlc, .nilSlc]],a2⟩) n2
 have h2:z7 (((S.set k ⟨3,[O9 m],a⟩)).set k2 ⟨2,[[.nilSlc, .nilSlc]],a2⟩) k2 2 [.nilSlc, .nilSlc]:=z7.new
 have hle:S.le (((S.set k ⟨3,[O9 m],a⟩)).set k2 ⟨2,[[.nilSlc, .nilSlc]],a2⟩):=b8.le_set (b8.le_new n) n2'
 rw[show(O9 m).length=3 from rfl,show([D.nilSlc, .nilSlc]:List D).length=2 from rfl]
 generalize (((S.set k ⟨3,[O9 m],a⟩)).set k2 ⟨2,[[.nilSlc, .nilSlc]],a2⟩)=T at hk h2 hle
 rw[hk.all (n:=3) (by decide) rfl,oD]
 refine(c0j (E:=E) (w0:=w0) hm).use ?_
 have nok:∀(e:Int) (a':List AV),d9 E (fun d S'=>d=b3A (fr0,e)∧S'=S) (.tup [.agg [.nilSlc, .nilSlc], .int .i64 e]) (T.set k2 ⟨2,[[.nilSlc, .nilSlc]],a'⟩):=fun e a'=>
  d9.less (b8.le_set hle n2') (d9.weak (d':=b3A (fr0,e)) (Wk.tup ⟨d4O,Wk.refl _,trivial⟩) (d9.here ⟨rfl,rfl⟩))
 have bad:∀e:Int,G6 m f=(fr0,e)→b7 (C3 (o8 [.nilSlc, .nilSlc] [])) fun v8=>i7 T 2 (.ptr k2 0) v8 fun v9 S10=>b7 (i4 S10 2 (.ptr k2 0)) fun v11=>d9 E (fun d S'=>d=b3A (G6 m f)∧S'=S) (.tup [v11, .int .i64 e]) S10:=by
  intro e he
  rw[he,fiN,agS,oD]
  refine h2.st (ds:=[.nilSlc, .nilSlc]) (W3 _) ⟨rfl,by decide,by decide⟩ fun a'=> ?_
  rw[show l7 [D.nilSlc, .nilSlc] 0 [.nilSlc, .nilSlc]=[.nilSlc, .nilSlc]from rfl,(z7.new).all (n:=2) (by decide) rfl,oD]
  exact nok e a'
 have lk:∀ {T':b8},z7 T' k 3 (O9 m)→d0 T' (.ptr k 2)=some (a8v m.funcs):=fun h=>h.ld 2
 rw[a5M,oD,M0]
 refine⟨fun h0=>bad _ (by unfold G6;rw[if_pos h0]),fun h0=> ?_⟩
 have h0:(a5i m).2=0:=Classical.not_not.1 h0
 simp only[L7,oD,F8,Nat.zero_add]
 by_cases c1:f<0
 ·simp only[decide_eq_true c1,N6,t1',vdF,oD,P0,if_true,cdT]
  exact bad 4 (by unfold G6;rw[if_neg (fun h=>h h0),if_pos (.inl c1)])
 simp only[decide_eq_false c1,N6,t2',vdT,oD,P0,Bool.false_eq_true,if_false,lk hk,b1i,a9G]
 rw[M0]
 refine⟨fun c2=>bad 4 (by unfold G6;rw[if_neg (fun h=>h h0),if_pos (.inr c2)]),fun c2=> ?_⟩
 have hlt:f.toNat<m.funcs.length:=by omega
 have hr:m.funcs[f.toNat]? =some m.funcs[f.toNat]:=List.getElem?_eq_getElem hlt
 have hg:=d1c h0 (List.getElem_mem hlt)
 generalize hrr:m.funcs[f.toNat]=r at hr hg
 have hfn:f=((f.toNat:Nat):Int):=by omega
 have hat:p9 6 (a8v m.funcs) (.int .i64 f)=some (.elt (P1 r) 0):=by rw[hfn];exact b5X hr
 have hfirst:G6 m f=(a4K r,0):=by
  unfold G6
  rw[if_neg (fun h=>h h0),if_neg (fun h=>h.elim c1 c2),hr]
 rw[hfirst,hat]
 obtain⟨e1,e2,e3,e4,e5⟩:=d4I r
 simp only[oD,ofE,Nat.zero_add,lsE,e3]
 have hp:=hg.par
 have hl:=hg.loc
 obtain⟨L,hL⟩:∃L:Nat,r.locals=(L:Int):=⟨r.locals.toNat,by omega⟩
 rw[hL]
 refine d3X ⟨by omega,by omega⟩ fun k3 a3 n3=> ?_
 have hk':=hk.set (o:=⟨1,List.replicate L [.int .i64 0],a3⟩) n3
 have h2':=h2.set (o:=⟨1,List.replicate L [.int .i64 0],a3⟩) n3
 rw[lk hk',oD,hat]
 simp only[oD,ofE,Nat.zero_add,lsE,e1]
 simp only[c7g,b9y,b8.set_same]
 rw[if_pos ⟨by trivial,by trivial,by simp,by decide⟩]
 intro a4
 have hmin:min (iC r.params).length L=r.params.length:=by rw[s6];omega
 rw[hmin,b8.set_set]
 have hrows:(List.replicate L [D.int .i64 0]).take 0++((iC r.params).take r.params.length++(List.replicate L [D.int .i64 0]).drop (0+r.params.length))=iC (a4K r).locals:=by
  rw[List.take_zero,List.nil_append,List.take_of_length_le (by rw[s6];exact Nat.le_refl _),Nat.zero_add,List.drop_replicate]
  unfold a4K
  rw[a3w,hL,Int.toNat_natCast]
  congr 1
  simp[iC,A9]
 rw[hrows]
 have hk':=hk.set (o:=⟨1,iC (a4K r).locals,a4⟩) n3
 have h2':=h2.set (o:=⟨1,iC (a4K r).locals,a4⟩) n3
 rw[show o8 [D.nilSlc, .nilSlc] [(0,1, .raw k3 0 L L true 1)]=some [.raw k3 0 L L true 1, .nilSlc]from rfl,agS,oD]
 refine h2'.st (ds:=[.raw k3 0 L L true 1, .nilSlc]) (W3 _) ⟨rfl,by decide,by decide⟩ fun a'=> ?_
 rw[show l7 [D.nilSlc, .nilSlc] 0 [.raw k3 0 L L true 1, .nilSlc]=[.raw k3 0 L L true 1, .nilSlc]from rfl,(z7.new).all (n:=2) (by decide) rfl,oD]
 have hne3:k3≠k2:=fun e=>h2.there (by rw[←e];exact n3)
 have n3':=b8.none_of hle n3
 rw[b8.set_comm _ hne3]
 have hbl:(a4K r).locals.length=L:=by unfold a4K;rw[List.length_append,List.length_replicate,hL,Int.toNat_natCast];omega
 refine d9.less (S':=S.set k3 ⟨1,iC (a4K r).locals,a4⟩) (fun j o e=> ?_) (d9.frz n3' ?_)
 ·unfold b8.set at e ⊢
  split at e
  ·rename_i hj;rw[if_pos hj];exact e
  ·rename_i hj
   rw[if_neg hj]
   exact b8.le_set hle n2' _ _ e
 ·have:Am.frz k3 ⟨1,iC (a4K r).locals,a4⟩ (.tup [.agg [.raw k3 0 L L true 1, .nilSlc], .int .i64 0])= .tup [.agg [iD (a4K r).locals, .nilSlc], .int .i64 0]:=by
   simp only[Am.frz,Am.b8N,if_true]
   rw[if_pos ⟨by trivial,by rw[s6,hbl];omega,Nat.le_refl _⟩,List.drop_zero,List.take_of_length_le (by rw[s6,hbl];exact Nat.le_refl _)]
   rfl
  rw[this]
  exact d9.weak (d':=b3A (a4K r,0)) (Wk.tup ⟨Wk.agg ⟨Wk.refl _,Wk.nil 1,trivial⟩,Wk.refl _,trivial⟩) (d9.here ⟨rfl,rfl⟩)
theorem d2n{m:Mo}(hm:m.Ok){t:Int}(ht:X1 t){S:b8}{k:Nat}(hk:z7 S k 3 (O9 m)):j6 Try.prog E w0 a1o [.int .i64 t, .ptr k 0] S fun d S'=>d= .bool (!a4M m t)∧S'=S:=by
 refine b2O ?_
 unfold a8y
 have hl:d0 S (.ptr k 0)=some (a9a m.types):=hk.ld 0
 have hn:m9 (a9a m.types)=some (.int .i64 (m.types.length:Int)):=by simp[a9a]
 have hmt:=hm.types
 have fin:∀b:Bool,a4M m t= !b→d9 E (fun d S'=>d= .bool (!a4M m t)∧S'=S) (.bool b) S:=fun b h=>by rw[h,Bool.not_not];exact d9.here ⟨rfl,rfl⟩
 rw[a5M,oD]
 by_cases c0:t=0
 ·simp only[decide_eq_false (fun h:t≠0=>h c0),N6,t3,t2',vdF,oD,P0,Bool.false_eq_true,if_false,wdU,gdF]
  exact fin false (by unfold a4M;rw[decide_eq_true c0];rfl)
 simp only[decide_eq_true (show t≠0 from c0),N6,t4,vdT,oD,L7]
 by_cases c1:t<1
 ·simp only[decide_eq_true c1,N6,t1',t4,vdF,vdT,oD,P0,if_true,L7,decide_eq_true (show t<16 by omega)]
  refine fin true ?_
  unfold a4M K7
  rw[decide_eq_false c0,decide_eq_false (by omega),decide_eq_false (by omega)];rfl
 simp only[decide_eq_false c1,N6,t2',vdT,oD,a9k,P0,Bool.false_eq_true,if_false,if_true]
 by_cases c2:t>5
 case neg=>
  simp only[decide_eq_false c2,N6,t3,vdF,oD,P0,Bool.false_eq_true,if_false,wdU]
  refine fin false ?_
  unfold a4M K7
  rw[decide_eq_false c0,decide_eq_true (by omega)];rfl
 simp only[decide_eq_true c2,N6,t4,vdT,oD,L7]
 by_cases c3:t<16
 ·simp only[decide_eq_true c3,N6,t1',vdF,oD,P0,if_true]
  refine fin true ?_
  unfold a4M K7
  rw[decide_eq_false c0,decide_eq_false (by omega),decide_eq_false (by omega)];rfl
 have hsub:IntKind.i64.wrap (t - 16)=t - 16:=m7 (by have:=ht.1;omega) (by have:=ht.2;omega)
 simp only[decide_eq_false c3,N6,t2',vdT,oD,b3c,hsub,F8,Nat.zero_add,hl,hn,a9G,P0,Bool.false_eq_true,if_false,if_true]
 refine fin _ ?_
 unfold a4M K7
 rw[decide_eq_false c0,decide_eq_false (by omega)]
 by_cases c4:t - 16≥m.types.length
 ·rw[decide_eq_true c4,decide_eq_false (by omega)];rfl
 ·rw[decide_eq_false c4,decide_eq_true (by omega)];rfl
theorem d2p(m:Mo)(l:List Int):(l.any fun t=> !a4M m t)= !l.all (a4M m):=c3U l
theorem b8L{m:Mo}(hm:m.Fits){r:Ro}(hr:r.Ok){f:Fr}(hf:f.Ok):P9 Try.prog E w0 a2B [moD m, .agg (P1 r),frD f] (.bool (b1Y m r f)):=fun S=>by
 refine b5A ?_
 unfold b1o
 rw[moD,W3,oD]
 intro k a n
 have hk:z7 (S.set k ⟨3,[O9 m],a⟩) k 3 (O9 m):=z7.new
 have l1:S.le (S.set k ⟨3,[O9 m],a⟩):=b8.le_new n
 rw[show(O9 m).length=3 from rfl]
 generalize (S.set k ⟨3,[O9 m],a⟩)=T at hk l1
 rw[W3,oD]
 intro k2 a2 n2
 have hk:=hk.set (o:=⟨6,[P1 r],a2⟩) n2
 have h2:z7 (T.set k2 ⟨6,[P1 r],a2⟩) k2 6 (P1 r):=z7.new
 have l1:=b8.le_trans l1 (b8.le_new (o:=⟨6,[P1 r],a2⟩) n2)
 rw[show(P1 r).length=6 from rfl]
 generalize (T.set k2 ⟨6,[P1 r],a2⟩)=T at hk h2 l1
 rw[frD,W3,oD]
 intro k3 a3 n3
 have hk:=hk.set (o:=⟨2,[frC f],a3⟩) n3
 have h2:=h2.set (o:=⟨2,[frC f],a3⟩) n3
 have h3:z7 (T.set k3 ⟨2,[frC f],a3⟩) k3 2 (frC f):=z7.new
 have l1:=b8.le_trans l1 (b8.le_new (o:=⟨2,[frC f],a3⟩) n3)
 rw[show(frC f).length=2 from rfl]
 generalize (T.set k3 ⟨2,[frC f],a3⟩)=T at hk h2 h3 l1
 have f0:d0 T (.ptr k3 0)=some (iD f.locals):=h3.ld 0
 have f1:d0 T (.ptr k3 1)=some (iD f.stack):=h3.ld 1
 have g3:d0 T (.ptr k2 3)=some (.int .i64 r.locals):=h2.ld 3
 have g4:d0 T (.ptr k2 4)=some (.int .i64 r.stack):=h2.ld 4
 have dec:∀l:List Int,(∀n∈l,X1 n)→∀t∈l,a3P E w0 T (.fn (.func a1o) [] [.ptr k 0]) (.int .i64 t) (!a4M m t):=fun l hl t ht=>a1S (by kernel_rfl) (d2n hm.ok (hl t ht) hk)
 have fin:∀b:Bool,b1Y m r f=b→d9 E (fun d S'=>d= .bool (b1Y m r f)∧S'=S) (.bool b) T:=fun b h=>by rw[h];exact d9.less l1 (d9.here ⟨rfl,rfl⟩)
 have hfl:=hf.l
 have hfs:=hf.s
 simp only[oD,F8,Nat.zero_add,f0,a3I,g3,L1]
 by_cases c1:(f.locals.length:Int)=r.locals
 case neg=>
  simp only[decide_eq_false c1,N6,t3,vdF,oD,P0,Bool.false_eq_true,if_false,gdF,wdU]
  exact fin false (by unfold b1Y;rw[decide_eq_false c1];rfl)
 simp only[decide_eq_true c1,N6,t4,vdT,oD,f1,a3I,g4,d1S,P0,if_true]
 by_cases c2:(f.stack.length:Int)≤r.stack
 case neg=>
  simp only[decide_eq_false c2,N6,t3,vdF,oD,P0,Bool.false_eq_true,if_false,gdF,wdU]
  exact fin false (by unfold b1Y;rw[decide_eq_true c1,decide_eq_false c2];rfl)
 simp only[decide_eq_true c2,N6,t4,vdT,oD,f0,gdT]
 refine(b2y (p:=fun t=> !a4M m t) (by omega) (dec f.locals fun n hn=>hf.ints n (List.mem_append_left _ hn))).use ?_
 rintro d S' ⟨rfl,rfl⟩
 rw[d2p]
 simp only[unN,oD,P0,if_true,Bool.not_not]
 cases c3:f.locals.all (a4M m) with
 |false=>
  simp only[N6,t3,vdF,oD,P0,Bool.false_eq_true,if_false,gdF,wdU]
  exact fin false (by unfold b1Y;rw[decide_eq_true c1,decide_eq_true c2,c3];rfl)
 |true=>
  simp only[N6,t4,vdT,oD,f1,gdT]
  refine(b2y (p:=fun t=> !a4M m t) (by omega) (dec f.stack fun n hn=>hf.ints n (List.mem_append_right _ hn))).use ?_
  rintro d S' ⟨rfl,rfl⟩
  rw[d2p]
  simp only[unN,oD,P0,if_true,Bool.not_not]
  exact fin _ (by unfold b1Y;rw[decide_eq_true c1,decide_eq_true c2,c3];rfl)
end
end
section
section
variable{E:i9}{w0:j7}
theorem d3q{S0 S:b8}{d:D}{l:List Int}(h:Own S0 d l S):m9 d=some (.int .i64 (l.length:Int)):=by
 rcases h with ⟨rfl,rfl,rfl⟩|⟨k,acs,ex,_,rfl,rfl⟩<;>rfl
theorem c8P{S0 S:b8}{d:D}{l:List Int}(h:Own S0 d l S){i:Nat}(hi:i<l.length){n:Int}{K:D→b8→Prop}(hK:∀S',Own S0 d (l.set i n) S'→K c9 S'):
  ∃p,p9 1 d (.int .i64 (i:Int))=some p∧i7 S 1 p (.int .i64 n) K:=by
 rcases h with ⟨rfl,rfl,rfl⟩|⟨k,acs,ex,h,rfl,rfl⟩
 ·simp at hi
 ·refine⟨_,d0q hi, ?_⟩
  rw[Nat.zero_add]
  refine stR (ds:=[.int .i64 n]) (row:=[.int .i64 l[i]]) (b8.set_same _ _ _) (c9B (List.getElem?_eq_getElem hi)) (clI _ _) ⟨rfl,by decide,by simp⟩ fun acs'=> ?_
  rw[b8.set_set]
  refine hK _ (.inr ⟨k,acs',ex,h,by simp, ?_⟩)
  have e:l7 [D.int .i64 l[i]] 0 [.int .i64 n]=[.int .i64 n]:=rfl
  rw[e]
  congr 2
  simp only[iC]
  rw[c1L, ←List.map_set]
def RdI(S:b8)(d:D)(l:List Int):Prop:=m9 d=some (.int .i64 (l.length:Int))∧∀(i:Nat) (v:Int),l[i]? =some v→∃p,p9 1 d (.int .i64 (i:Int))=some p∧d0 S p=some (.int .i64 v)
theorem Own.rd{S0 S S':b8}{d:D}{l:List Int}(h:Own S0 d l S)(hle:S.le S'):RdI S' d l:=by
 refine⟨d3q h,fun i v hv=> ?_⟩
 rcases h with ⟨rfl,rfl,rfl⟩|⟨k,acs,ex,h,rfl,rfl⟩
 ·simp at hv
 ·have hi:=(List.getElem?_eq_some_iff.1 hv).1
  refine⟨_,d0q hi, ?_⟩
  rw[Nat.zero_add,ldR (hle _ _ (b8.set_same _ _ _)) (c9B hv)]
  rfl
end
end
end Go.Proofs.Ytdkidgkiplcggaa.d
end
