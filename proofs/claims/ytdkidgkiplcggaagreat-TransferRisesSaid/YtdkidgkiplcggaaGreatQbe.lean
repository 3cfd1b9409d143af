/-
  TransferRisesSaid: part Qbe of its proof.
-/
import Derived.Test.YtdkidgkiplcggaaGreatRows
import Derived.Test.YtdkidgkiplcggaaGreatQar
import Derived.KernelRfl
import Derived.Test.YtdkidgkiplcggaaGreatQbd
import Derived.Test.YtdkidgkiplcggaaGreatQba
set_option linter.unusedVariables false
set_option linter.unusedSimpArgs false
set_option maxRecDepth 100000
section
open Go.Proofs Go Go.Am
namespace Go.Proofs.YtdkidgkiplcggaaGreat.d
def b7h:List (Nat×List Nat):=[]
def b7Q:List (Nat×List Nat):=[]
def b6I:List (Nat×O6):=[]
def a8T(E:j2)(w0:j9)(Q:D→b8→Prop)(a0 a1:D)(S:b8):Prop:=
 b7 (o3 a0) fun cs=>j6 S cs fun v0 S1=>
 j6 S1 [.nilSlc, .nilSlc] fun v2 S3=>
 b7 (i5 S3 3 v0) fun v4=>
 j8 Tryz.prog E w0 a8w [v4] S3 fun v5 S6=>
 b7 (i4 .neq v5 (.int .i64 0)) fun v7=>
 i6 v7
 (b7 (E1 (r6 [.nilSlc, .nilSlc] [])) fun v8=>
 i7 S6 2 v2 v8 fun v9 S10=>
 b7 (i5 S10 2 v2) fun v11=>Q (.tup [v11,v5]) S10)
 (b7 (i4 .lss a1 (.int .i64 0)) fun v12=>
 b7 (f9 (d6 v12 false) (some a1)) fun v13=>
 b7 (f9 (d6 v12 false) (j4 2 v0)) fun v14=>
 b7 (f9 (d6 v12 false) (c9 S6 v14)) fun v15=>
 b7 (f9 (d6 v12 false) (m9 v15)) fun v16=>
 b7 (f9 (d6 v12 false) (i4 .geq v13 v16)) fun v17=>
 b7 (q9 v12 (.bool true) v17) fun v18=>
 i6 v18
 (b7 (E1 (r6 [.nilSlc, .nilSlc] [])) fun v19=>
 i7 S6 2 v2 v19 fun v20 S21=>
 b7 (i5 S21 2 v2) fun v22=>Q (.tup [v22,(.int .i64 4)]) S21)
 (b7 (j4 2 v0) fun v23=>
 b7 (c9 S6 v23) fun v24=>
 b7 (o6 6 v24 a1) fun v25=>
 b7 (j4 3 v25) fun v26=>
 b7 (c9 S6 v26) fun v27=>
 a6o S6 1 8 [(.int .i64 0)] v27 v27 fun v28 S29=>
 b7 (j4 2 v0) fun v30=>
 b7 (c9 S29 v30) fun v31=>
 b7 (o6 6 v31 a1) fun v32=>
 b7 (j4 1 v32) fun v33=>
 b7 (c9 S29 v33) fun v34=>
 c7J S29 1 v28 v34 fun v35 S36=>
 b7 (E1 (r6 [.nilSlc, .nilSlc] [(0,1,v28)])) fun v37=>
 i7 S36 2 v2 v37 fun v38 S39=>
 b7 (i5 S39 2 v2) fun v40=>Q (.tup [v40,(.int .i64 0)]) S39))
theorem b4k{E:j2}{w0:j9}{Q:D→b8→Prop}{a0 a1:D}{S:b8}(h:a8T E w0 (d9 E Q) a0 a1 S):j8 Tryz.prog E w0 O5 [a0,a1] S Q:=
 j0 b7h b7Q b6I (fn:=Tryz.f12) (c:=Tryz.f12.body.getD .skip) mixed Tryz.func12 (by kernel_rfl) (by kernel_rfl) h
def c0z:List (Nat×List Nat):=[]
def c0A:List (Nat×List Nat):=[]
def c0r:List (Nat×O6):=[]
def b1W(E:j2)(w0:j9)(Q:D→b8→Prop)(a0 a1 a2:D)(S:b8):Prop:=
 b7 (o3 a0) fun cs=>j6 S cs fun v0 S1=>
 b7 (o3 a1) fun cs=>j6 S1 cs fun v2 S3=>
 b7 (o3 a2) fun cs=>j6 S3 cs fun v4 S5=>
 b7 (some (.fn (.func a1O) [] [v0])) fun v6=>
 b7 (j4 0 v4) fun v7=>
 b7 (c9 S5 v7) fun v8=>
 b7 (m9 v8) fun v9=>
 b7 (j4 3 v2) fun v10=>
 b7 (c9 S5 v10) fun v11=>
 b7 (i4 .eql v9 v11) fun v12=>
 b7 (f9 (d6 v12 true) (j4 1 v4)) fun v13=>
 b7 (f9 (d6 v12 true) (c9 S5 v13)) fun v14=>
 b7 (f9 (d6 v12 true) (m9 v14)) fun v15=>
 b7 (f9 (d6 v12 true) (j4 4 v2)) fun v16=>
 b7 (f9 (d6 v12 true) (c9 S5 v16)) fun v17=>
 b7 (f9 (d6 v12 true) (i4 .leq v15 v17)) fun v18=>
 b7 (q9 v12 v18 (.bool false)) fun v19=>
 b7 (f9 (d6 v19 true) (j4 0 v4)) fun v20=>
 b7 (f9 (d6 v19 true) (c9 S5 v20)) fun v21=>
 b7 (f9 (d6 v19 true) (some v6)) fun v22=>
 Q1 (d6 v19 true) (fun K=>j8 Tryz.prog E w0 C4 [v21,v22] S5 K) S5 fun v23 S24=>
 b7 (f9 (d6 v19 true) (unD .not v23)) fun v25=>
 b7 (q9 v19 v25 (.bool false)) fun v26=>
 b7 (f9 (d6 v26 true) (j4 1 v4)) fun v27=>
 b7 (f9 (d6 v26 true) (c9 S24 v27)) fun v28=>
 b7 (f9 (d6 v26 true) (some v6)) fun v29=>
 Q1 (d6 v26 true) (fun K=>j8 Tryz.prog E w0 C4 [v28,v29] S24 K) S24 fun v30 S31=>
 b7 (f9 (d6 v26 true) (unD .not v30)) fun v32=>
 b7 (q9 v26 v32 (.bool false)) fun v33=>
 Q v33 S31
theorem b7b{E:j2}{w0:j9}{Q:D→b8→Prop}{a0 a1 a2:D}{S:b8}(h:b1W E w0 (d9 E Q) a0 a1 a2 S):j8 Tryz.prog E w0 a3l [a0,a1,a2] S Q:=
 j0 c0z c0A c0r (fn:=Tryz.f31) (c:=Tryz.f31.body.getD .skip) mixed Tryz.func31 (by kernel_rfl) (by kernel_rfl) h
def b6U:List (Nat×List Nat):=[]
def b6B:List (Nat×List Nat):=[]
def b6V:List (Nat×O6):=[]
def a8A(E:j2)(w0:j9)(Q:D→b8→Prop)(a0 c0:D)(S:b8):Prop:=
 b7 (i4 .neq a0 (.int .i64 0)) fun v0=>
 b7 (f9 (d6 v0 true) (some a0)) fun v1=>
 b7 (f9 (d6 v0 true) (i4 .lss v1 (.int .i64 1))) fun v2=>
 b7 (f9 (d6 v0 true) (some v2)) fun v3=>
 b7 (f9 (d6 v3 false) (some a0)) fun v4=>
 b7 (f9 (d6 v3 false) (i4 .gtr v4 (.int .i64 5))) fun v5=>
 b7 (f9 (d6 v0 true) (q9 v3 (.bool true) v5)) fun v6=>
 b7 (q9 v0 v6 (.bool false)) fun v7=>
 b7 (f9 (d6 v7 true) (some a0)) fun v8=>
 b7 (f9 (d6 v7 true) (i4 .lss v8 (.int .i64 16))) fun v9=>
 b7 (f9 (d6 v7 true) (some v9)) fun v10=>
 b7 (f9 (d6 v10 false) (some a0)) fun v11=>
 b7 (f9 (d6 v10 false) (i4 .sub v11 (.int .i64 16))) fun v12=>
 b7 (f9 (d6 v10 false) (j4 0 c0)) fun v13=>
 b7 (f9 (d6 v10 false) (c9 S v13)) fun v14=>
 b7 (f9 (d6 v10 false) (m9 v14)) fun v15=>
 b7 (f9 (d6 v10 false) (i4 .geq v12 v15)) fun v16=>
 b7 (f9 (d6 v7 true) (q9 v10 (.bool true) v16)) fun v17=>
 b7 (q9 v7 v17 (.bool false)) fun v18=>
 Q v18 S
theorem b4o{E:j2}{w0:j9}{Q:D→b8→Prop}{a0 c0:D}{S:b8}(h:a8A E w0 (d9 E Q) a0 c0 S):j8 Tryz.prog E w0 a1O [a0,c0] S Q:=
 j0 b6U b6B b6V (fn:=Tryz.f52) (c:=Tryz.f52.body.getD .skip) mixed Tryz.func52 (by kernel_rfl) (by kernel_rfl) h
def a0g:List (Nat×List Nat):=[(12,[0,2,8,9,30,31,32])]
def a0c:List (Nat×List Nat):=[]
def a0s:List (Nat×O6):=[]
noncomputable def X8:Code:=(j7 [1,1,1,1,0,1,0,0] (Tryz.f58.body.getD .skip))
def Y0(E:j2)(w0:j9)(Q:D→b8→Prop):o8→List D→b8→Prop:=
 (q8 0 (H4 Tryz.prog E w0 a0g a0c a0s (j7 [1,1,1,1,1] (Tryz.f58.body.getD .skip)) (F5 Tryz.prog Tryz.f58 Q)))
def Y8(E:j2)(w0:j9)(N0:D→D→D→D→D→D→D→b8→Prop)(Q:D→b8→Prop)(x0 x2 x8 x9 x30 x31 x32:D)(S:b8):Prop:=
 b7 (i4 .lss x32 x31) fun v14=>
 i6 v14
 (b7 (o6 1 x30 x32) fun v15=>
 b7 (c9 S v15) fun v16=>
 b7 (i4 .neq v16 (.int .i64 0)) fun v17=>
 b7 (f9 (d6 v17 true) (some x9)) fun v18=>
 b7 (f9 (d6 v17 true) (some x32)) fun v19=>
 b7 (f9 (d6 v17 true) (o6 1 v18 v19)) fun v20=>
 b7 (f9 (d6 v17 true) (c9 S v20)) fun v21=>
 b7 (f9 (d6 v17 true) (some v16)) fun v22=>
 b7 (f9 (d6 v17 true) (i4 .neq v21 v22)) fun v23=>
 b7 (q9 v17 v23 (.bool false)) fun v24=>
 b7 (f9 (d6 v24 false) (some v16)) fun v25=>
 b7 (f9 (d6 v24 false) (i4 .eql v25 (.int .i64 0))) fun v26=>
 b7 (f9 (d6 v24 false) (some v26)) fun v27=>
 b7 (f9 (d6 v27 true) (some x9)) fun v28=>
 b7 (f9 (d6 v27 true) (some x32)) fun v29=>
 b7 (f9 (d6 v27 true) (o6 1 v28 v29)) fun v30=>
 b7 (f9 (d6 v27 true) (c9 S v30)) fun v31=>
 b7 (f9 (d6 v27 true) (i4 .eql v31 (.int .i64 0))) fun v32=>
 b7 (f9 (d6 v24 false) (q9 v27 v32 (.bool false))) fun v33=>
 b7 (f9 (d6 v24 false) (some v33)) fun v34=>
 b7 (f9 (d6 v34 true) (some x2)) fun v35=>
 b7 (f9 (d6 v34 true) (unD .not v35)) fun v36=>
 b7 (f9 (d6 v24 false) (q9 v34 v36 (.bool false))) fun v37=>
 b7 (q9 v24 (.bool true) v37) fun v38=>
 i6 v38
 (Q (.tup [.nilSlc,(.int .i64 211)]) S)
 (b7 (i4 .add x32 (.int .i64 1)) fun v39=>
 N0 x0 x2 x8 x9 x30 x31 v39 S))
 (b7 (a1h x0) fun v40=>
 b7 (j4 0 v40) fun v41=>
 b7 (j4 1 v41) fun v42=>
 b7 (c9 S v42) fun v43=>
 b7 (a1a 1 v43 none (some x8) (some x8)) fun v44=>
 b7 (a1h x0) fun v45=>
 b7 (j4 0 v45) fun v46=>
 b7 (j4 1 v46) fun v47=>
 i7 S 1 v47 v44 fun v48 S49=>
 Q (.tup [x9,(.int .i64 0)]) S49)
theorem a6s{E:j2}{w0:j9}{N0:D→D→D→D→D→D→D→b8→Prop}{Q:D→b8→Prop}{x0 x2 x8 x9 x30 x31 x32:D}{S:b8}(h:Y8 E w0 N0 Q x0 x2 x8 x9 x30 x31 x32 S):
  j1 Tryz.prog E w0 X8 (m6 76 [0,2,8,9,30,31,32] [x0,x2,x8,x9,x30,x31,x32]) S (B0 (fun T S=>N0 (T.getD 0 b9) (T.getD 2 b9) (T.getD 8 b9) (T.getD 9 b9) (T.getD 30 b9) (T.getD 31 b9) (T.getD 32 b9) S) (Y0 E w0 Q)):=j3 a0g a0c a0s mixed (by kernel_rfl) h
theorem a6P{E:j2}{w0:j9}{Q:D→b8→Prop}(I:Nat→D→D→D→D→D→D→D→b8→Prop)
  (step:∀n x0 x2 x8 x9 x30 x31 x32 S,I n x0 x2 x8 x9 x30 x31 x32 S→Y8 E w0 (fun x0 x2 x8 x9 x30 x31 x32 S=>∃m,m<n∧I m x0 x2 x8 x9 x30 x31 x32 S) Q x0 x2 x8 x9 x30 x31 x32 S)
  {n:Nat} {x0 x2 x8 x9 x30 x31 x32:D} {S:b8} (h:I n x0 x2 x8 x9 x30 x31 x32 S):j1 Tryz.prog E w0 (.loop X8) (m6 76 [0,2,8,9,30,31,32] [x0,x2,x8,x9,x30,x31,x32]) S (Y0 E w0 Q):=
 o7 (k:=76) (n:=n) (I:=fun n T S=>I n (T.getD 0 b9) (T.getD 2 b9) (T.getD 8 b9) (T.getD 9 b9) (T.getD 30 b9) (T.getD 31 b9) (T.getD 32 b9) S) (fun n T S hl hI=>p8 [0,2,8,9,30,31,32] hl (j1.mono (a6s (step n _ _ _ _ _ _ _ S hI)) fun ex T' S' _ hq=>by cases ex<;>exact hq)) (m7 ..) (Eq.mp (by kernel_rfl) h)
def a3O(E:j2)(w0:j9)(Q:D→b8→Prop)(a0 a1 a2:D)(S:b8):Prop:=
 b7 (a1h a0) fun v0=>
 b7 (j4 0 v0) fun v1=>
 b7 (j4 1 v1) fun v2=>
 b7 (c9 S v2) fun v3=>
 b7 (m9 v3) fun v4=>
 b7 (m9 a1) fun v5=>
 b7 (i4 .sub v4 v5) fun v6=>
 b7 (i4 .lss v6 (.int .i64 0)) fun v7=>
 i6 v7
 (Q (.tup [.nilSlc,(.int .i64 210)]) S)
 (b7 (a1h a0) fun v8=>
 b7 (j4 0 v8) fun v9=>
 b7 (j4 1 v9) fun v10=>
 b7 (c9 S v10) fun v11=>
 b7 (a1a 1 v11 (some v6) none none) fun v12=>
 b7 (m9 a1) fun v13=>
 j1 Tryz.prog E w0 (.loop X8) (m6 76 [0,2,8,9,30,31,32] [a0,a2,v6,v12,a1,v13,(.int .i64 0)]) S (Y0 E w0 Q))
theorem a8q{E:j2}{w0:j9}{Q:D→b8→Prop}{a0 a1 a2:D}{S:b8}(h:a3O E w0 (d9 E Q) a0 a1 a2 S):j8 Tryz.prog E w0 a0G [a0,a1,a2] S Q:=
 j0 a0g a0c a0s (fn:=Tryz.f58) (c:=Tryz.f58.body.getD .skip) mixed Tryz.func58 (by kernel_rfl) (by kernel_rfl) h
def b1j:List (Nat×List Nat):=[]
def b1x:List (Nat×List Nat):=[]
def b1w:List (Nat×O6):=[]
def a5d(E:j2)(w0:j9)(Q:D→b8→Prop)(a0 a1:D)(S:b8):Prop:=
 b7 (a1h a0) fun v0=>
 b7 (j4 0 v0) fun v1=>
 b7 (j4 1 v1) fun v2=>
 b7 (c9 S v2) fun v3=>
 w9 S 1 8 v3 a1 fun v4 S5=>
 b7 (a1h a0) fun v6=>
 b7 (j4 0 v6) fun v7=>
 b7 (j4 1 v7) fun v8=>
 i7 S5 1 v8 v4 fun v9 S10=>
 b7 (a1h a0) fun v11=>
 b7 (j4 0 v11) fun v12=>
 b7 (j4 1 v12) fun v13=>
 b7 (c9 S10 v13) fun v14=>
 b7 (m9 v14) fun v15=>
 b7 (a1h a0) fun v16=>
 b7 (j4 2 v16) fun v17=>
 b7 (c9 S10 v17) fun v18=>
 b7 (i4 .gtr v15 v18) fun v19=>
 i6 v19
 (Q (.int .i64 210) S10)
 (Q (.int .i64 0) S10)
theorem a9c{E:j2}{w0:j9}{Q:D→b8→Prop}{a0 a1:D}{S:b8}(h:a5d E w0 (d9 E Q) a0 a1 S):j8 Tryz.prog E w0 F9 [a0,a1] S Q:=
 j0 b1j b1x b1w (fn:=Tryz.f59) (c:=Tryz.f59.body.getD .skip) mixed Tryz.func59 (by kernel_rfl) (by kernel_rfl) h
def a5a:List (Nat×List Nat):=[]
def a4Z:List (Nat×List Nat):=[(16,[0,7,9,10])]
def a4U:List (Nat×O6):=[]
noncomputable def b0J:Code:=(j7 [1,1,1,1] (Tryz.f35.body.getD .skip))
def a8U(E:j2)(w0:j9)(Q:D→b8→Prop):o8→List D→b8→Prop:=
 (F5 Tryz.prog Tryz.f35 Q)
def a3i(E:j2)(w0:j9)(Q:D→b8→Prop)(x0 x7 x9 x10:D)(S:b8):Prop:=
 b7 (j4 0 x7) fun v14=>
 b7 (c9 S v14) fun v15=>
 b7 (i4 .eql v15 (.int .u8 9)) fun v16=>
 j8 Tryz.prog E w0 a0G [x0,x9,v16] S fun v17 S18=>
 b7 (j5 v17 0) fun v19=>
 b7 (j5 v17 1) fun v20=>
 b7 (i4 .neq v20 (.int .i64 0)) fun v21=>
 i6 v21
 (Q v20 S18)
 (b7 (j4 0 x7) fun v22=>
 b7 (c9 S18 v22) fun v23=>
 b7 (i4 .eql v23 (.int .u8 7)) fun v24=>
 i6 v24
 (b7 (a1h x0) fun v25=>
 b7 (j4 0 v25) fun v26=>
 b7 (j4 0 v26) fun v27=>
 b7 (c9 S18 v27) fun v28=>
 b7 (j4 1 x7) fun v29=>
 b7 (c9 S18 v29) fun v30=>
 b7 (o6 1 v28 v30) fun v31=>
 b7 (c9 S18 v31) fun v32=>
 b7 (i4 .eql v32 (.int .i64 0)) fun v33=>
 i6 v33
 (Q (.int .i64 212) S18)
 (r9 S18 1 (m8 1 (List.replicate 1 [(.int .i64 0)]) [(0,v32)]) 1 fun v34 S35=>
 j8 Tryz.prog E w0 F9 [x0,v34] S35 fun v36 S37=>
 Q v36 S37))
 (b7 (i4 .eql v23 (.int .u8 8)) fun v38=>
 i6 v38
 (b7 (a1h x0) fun v39=>
 b7 (j4 0 v39) fun v40=>
 b7 (j4 0 v40) fun v41=>
 b7 (c9 S18 v41) fun v42=>
 b7 (j4 1 x7) fun v43=>
 b7 (c9 S18 v43) fun v44=>
 b7 (o6 1 v19 (.int .i64 0)) fun v45=>
 b7 (c9 S18 v45) fun v46=>
 b7 (o6 1 v42 v44) fun v47=>
 i7 S18 1 v47 v46 fun v48 S49=>
 Q (.int .i64 0) S49)
 (b7 (i4 .eql v23 (.int .u8 10)) fun v50=>
 i6 v50
 (b7 (o6 1 v19 (.int .i64 0)) fun v51=>
 b7 (c9 S18 v51) fun v52=>
 b7 (o6 1 v19 (.int .i64 0)) fun v53=>
 b7 (c9 S18 v53) fun v54=>
 r9 S18 1 (m8 1 (List.replicate 2 [(.int .i64 0)]) [(0,v52),(1,v54)]) 2 fun v55 S56=>
 j8 Tryz.prog E w0 F9 [x0,v55] S56 fun v57 S58=>
 Q v57 S58)
 (j8 Tryz.prog E w0 F9 [x0,x10] S18 fun v59 S60=>
 Q v59 S60))))
def N7(E:j2)(w0:j9)(Q:D→b8→Prop)(x0 x7 x9 x10:D)(S:b8):Prop:=j1 Tryz.prog E w0 b0J (m6 96 [0,7,9,10] [x0,x7,x9,x10]) S (a8U E w0 Q)
theorem a7t{E:j2}{w0:j9}{Q:D→b8→Prop}{x0 x7 x9 x10:D}{S:b8}(h:a3i E w0 Q x0 x7 x9 x10 S):N7 E w0 Q x0 x7 x9 x10 S:=j3 a5a a4Z a4U mixed (by kernel_rfl) h
def a5u(E:j2)(w0:j9)(Q:D→b8→Prop)(a0 a1 a2 a3:D)(S:b8):Prop:=
 b7 (o3 a1) fun cs=>j6 S cs fun v0 S1=>
 b7 (o3 a2) fun cs=>j6 S1 cs fun v2 S3=>
 b7 (o3 a3) fun cs=>j6 S3 cs fun v4 S5=>
 b7 (i5 S5 4 v4) fun v6=>
 b7 (i5 S5 3 v0) fun v7=>
 j8 Tryz.prog E w0 a1n [v6,v7] S5 fun v8 S9=>
 b7 (j5 v8 0) fun v10=>
 b7 (j5 v8 1) fun v11=>
 b7 (j5 v8 2) fun v12=>
 b7 (i4 .neq v12 (.int .i64 0)) fun v13=>
 i6 v13
 (Q v12 S9)
 (b7 (j4 0 v4) fun v61=>
 b7 (c9 S9 v61) fun v62=>
 b7 (i4 .eql v62 (.int .u8 51)) fun v63=>
 i6 v63
 (b7 (j4 2 v2) fun v64=>
 b7 (c9 S9 v64) fun v65=>
 b7 (a1h a0) fun v66=>
 b7 (j4 0 v66) fun v67=>
 b7 (j4 1 v67) fun v68=>
 b7 (c9 S9 v68) fun v69=>
 b7 (m9 v69) fun v70=>
 b7 (m9 v65) fun v71=>
 b7 (i4 .gtr v70 v71) fun v72=>
 i6 v72
 (Q (.int .i64 210) S9)
 (N7 E w0 Q a0 v4 v65 v11 S9))
 (N7 E w0 Q a0 v4 v10 v11 S9))
theorem a9F{E:j2}{w0:j9}{Q:D→b8→Prop}{a0 a1 a2 a3:D}{S:b8}(h:a5u E w0 (d9 E Q) a0 a1 a2 a3 S):j8 Tryz.prog E w0 X2 [a0,a1,a2,a3] S Q:=
 j0 a5a a4Z a4U (fn:=Tryz.f35) (c:=Tryz.f35.body.getD .skip) mixed Tryz.func35 (by kernel_rfl) (by kernel_rfl) h
def U7:List (Nat×List Nat):=[(28,[5,36,37,38])]
def R9:List (Nat×List Nat):=[(21,[2,5,11,12]),(41,[2,5,11,21]),(36,[5])]
def U4:List (Nat×O6):=[]
noncomputable def X1:Code:=(j7 [1,1,1] (Tryz.f36.body.getD .skip))
def b3m(E:j2)(w0:j9)(Q:D→b8→Prop):o8→List D→b8→Prop:=
 (F5 Tryz.prog Tryz.f36 Q)
def a5C(E:j2)(w0:j9)(Q:D→b8→Prop)(x5:D)(S:b8):Prop:=
 j8 Tryz.prog E w0 a3x [x5] S fun v4 S5=>
 j8 Tryz.prog E w0 a1z [x5] S5 fun v6 S7=>
 Q v6 S7
def E7(E:j2)(w0:j9)(Q:D→b8→Prop)(x5:D)(S:b8):Prop:=j1 Tryz.prog E w0 X1 (m6 52 [5] [x5]) S (b3m E w0 Q)
theorem a9R{E:j2}{w0:j9}{Q:D→b8→Prop}{x5:D}{S:b8}(h:a5C E w0 Q x5 S):E7 E w0 Q x5 S:=j3 U7 R9 U4 mixed (by kernel_rfl) h
noncomputable def a0d:Code:=(j7 [1,1,0,1,0,1,1,1,1,1,1,1,0,1,1,0,0] (Tryz.f36.body.getD .skip))
def a0j(E:j2)(w0:j9)(Q:D→b8→Prop):o8→List D→b8→Prop:=
 (q8 1 (q8 0 (d3A Tryz.prog E w0 52 [5] X1 (F5 Tryz.prog Tryz.f36 Q))))
def a2y(E:j2)(w0:j9)(N0:D→D→D→D→b8→Prop)(Q:D→b8→Prop)(x5 x36 x37 x38:D)(S:b8):Prop:=
 b7 (i4 .lss x38 x37) fun v31=>
 i6 v31
 (b7 (o6 2 x36 x38) fun v32=>
 b7 (i5 S 2 v32) fun v33=>
 j6 S [(.int .i64 0),(.int .i64 0)] fun v34 S35=>
 i7 S35 2 v34 v33 fun v36 S37=>
 b7 (j4 1 v34) fun v38=>
 b7 (c9 S37 v38) fun v39=>
 r9 S37 1 (m8 1 (List.replicate 1 [(.int .i64 0)]) [(0,v39)]) 1 fun v40 S41=>
 w9 S41 1 8 x5 v40 fun v42 S43=>
 b7 (i4 .add x38 (.int .i64 1)) fun v44=>
 N0 v42 x36 x37 v44 S43)
 (E7 E w0 Q x5 S)
theorem b1m{E:j2}{w0:j9}{N0:D→D→D→D→b8→Prop}{Q:D→b8→Prop}{x5 x36 x37 x38:D}{S:b8}(h:a2y E w0 N0 Q x5 x36 x37 x38 S):
  j1 Tryz.prog E w0 a0d (m6 52 [5,36,37,38] [x5,x36,x37,x38]) S (B0 (fun T S=>N0 (T.getD 5 b9) (T.getD 36 b9) (T.getD 37 b9) (T.getD 38 b9) S) (a0j E w0 Q)):=j3 U7 R9 U4 mixed (by kernel_rfl) h
theorem b1l{E:j2}{w0:j9}{Q:D→b8→Prop}(I:Nat→D→D→D→D→b8→Prop)
  (step:∀n x5 x36 x37 x38 S,I n x5 x36 x37 x38 S→a2y E w0 (fun x5 x36 x37 x38 S=>∃m,m<n∧I m x5 x36 x37 x38 S) Q x5 x36 x37 x38 S)
  {n:Nat} {x5 x36 x37 x38:D} {S:b8} (h:I n x5 x36 x37 x38 S):j1 Tryz.prog E w0 (.loop a0d) (m6 52 [5,36,37,38] [x5,x36,x37,x38]) S (a0j E w0 Q):=
 o7 (k:=52) (n:=n) (I:=fun n T S=>I n (T.getD 5 b9) (T.getD 36 b9) (T.getD 37 b9) (T.getD 38 b9) S) (fun n T S hl hI=>p8 [5,36,37,38] hl (j1.mono (b1m (step n _ _ _ _ S hI)) fun ex T' S' _ hq=>by cases ex<;>exact hq)) (m7 ..) (Eq.mp (by kernel_rfl) h)
noncomputable def b3W:Code:=(j7 [1,1,0,1,0,1,1,1,1,1] (Tryz.f36.body.getD .skip))
def b2r(E:j2)(w0:j9)(Q:D→b8→Prop):o8→List D→b8→Prop:=
 (q8 0 (d3A Tryz.prog E w0 52 [5] X1 (F5 Tryz.prog Tryz.f36 Q)))
def a5s(E:j2)(w0:j9)(Q:D→b8→Prop)(x2 x5 x11 x21:D)(S:b8):Prop:=
 i6 x21
 (b7 (j4 1 x2) fun v16=>
 b7 (c9 S v16) fun v17=>
 r9 S 1 (m8 1 (List.replicate 1 [(.int .i64 0)]) [(0,v17)]) 1 fun v18 S19=>
 w9 S19 1 8 x5 v18 fun v20 S21=>
 E7 E w0 Q v20 S21)
 (b7 (i4 .eql x11 (.int .u8 49)) fun v22=>
 i6 v22
 (b7 (j4 2 x2) fun v23=>
 b7 (c9 S v23) fun v24=>
 b7 (o6 1 x5 (.int .i64 0)) fun v25=>
 i7 S 1 v25 v24 fun v26 S27=>
 b7 (j4 3 x2) fun v28=>
 b7 (c9 S27 v28) fun v29=>
 b7 (m9 v29) fun v30=>
 j1 Tryz.prog E w0 (.loop a0d) (m6 52 [5,36,37,38] [x5,v29,v30,(.int .i64 0)]) S27 (a0j E w0 Q))
 (E7 E w0 Q x5 S))
def X0(E:j2)(w0:j9)(Q:D→b8→Prop)(x2 x5 x11 x21:D)(S:b8):Prop:=j1 Tryz.prog E w0 b3W (m6 52 [2,5,11,21] [x2,x5,x11,x21]) S (b2r E w0 Q)
theorem a9t{E:j2}{w0:j9}{Q:D→b8→Prop}{x2 x5 x11 x21:D}{S:b8}(h:a5s E w0 Q x2 x5 x11 x21 S):X0 E w0 Q x2 x5 x11 x21 S:=j3 U7 R9 U4 mixed (by kernel_rfl) h
noncomputable def b3U:Code:=(j7 [1,1,0,1,0,1] (Tryz.f36.body.getD .skip))
def b2A(E:j2)(w0:j9)(Q:D→b8→Prop):o8→List D→b8→Prop:=
 (q8 0 (d3A Tryz.prog E w0 52 [5] X1 (F5 Tryz.prog Tryz.f36 Q)))
def a5A(E:j2)(w0:j9)(Q:D→b8→Prop)(x2 x5 x11 x12:D)(S:b8):Prop:=
 i6 x12
 (Q .nilSlc S)
 (b7 (i4 .eql x11 (.int .u8 46)) fun v10=>
 i6 v10
 (b7 (j4 1 x2) fun v11=>
 b7 (c9 S v11) fun v12=>
 b7 (o6 1 x5 (.int .i64 0)) fun v13=>
 i7 S 1 v13 v12 fun v14 S15=>
 E7 E w0 Q x5 S15)
 (b7 (i4 .eql x11 (.int .u8 47)) fun v45=>
 i6 v45
 (X0 E w0 Q x2 x5 x11 v45 S)
 (b7 (i4 .eql x11 (.int .u8 48)) fun v46=>
 X0 E w0 Q x2 x5 x11 v46 S)))
def X3(E:j2)(w0:j9)(Q:D→b8→Prop)(x2 x5 x11 x12:D)(S:b8):Prop:=j1 Tryz.prog E w0 b3U (m6 52 [2,5,11,12] [x2,x5,x11,x12]) S (b2A E w0 Q)
theorem b0G{E:j2}{w0:j9}{Q:D→b8→Prop}{x2 x5 x11 x12:D}{S:b8}(h:a5A E w0 Q x2 x5 x11 x12 S):X3 E w0 Q x2 x5 x11 x12 S:=j3 U7 R9 U4 mixed (by kernel_rfl) h
def a8L(E:j2)(w0:j9)(Q:D→b8→Prop)(a0 a1:D)(S:b8):Prop:=
 b7 (o3 a0) fun cs=>j6 S cs fun v0 S1=>
 r9 S1 1 (m8 1 (List.replicate 1 [(.int .i64 0)]) [(0,a1)]) 1 fun v2 S3=>
 b7 (j4 0 v0) fun v8=>
 b7 (c9 S3 v8) fun v9=>
 b7 (i4 .eql v9 (.int .u8 51)) fun v47=>
 i6 v47
 (X3 E w0 Q v0 v2 v9 v47 S3)
 (b7 (i4 .eql v9 (.int .u8 52)) fun v48=>
 X3 E w0 Q v0 v2 v9 v48 S3)
theorem b3V{E:j2}{w0:j9}{Q:D→b8→Prop}{a0 a1:D}{S:b8}(h:a8L E w0 (d9 E Q) a0 a1 S):j8 Tryz.prog E w0 a4k [a0,a1] S Q:=
 j0 U7 R9 U4 (fn:=Tryz.f36) (c:=Tryz.f36.body.getD .skip) mixed Tryz.func36 (by kernel_rfl) (by kernel_rfl) h
def a4j:List (Nat×List Nat):=[(34,[14,18,20,95,96,97])]
def a3Y:List (Nat×List Nat):=[]
def a4g:List (Nat×O6):=[(11,(.leaf [0,1,3,4,7,8,2,5,6,9,10,11])),(16,(.leaf [0,1,2,3,4,5,6,7,10,11,16,8,9,12,13,14,15])),(22,(.leaf [0,1,2,3,4,5,6,8,9,10,11,12,7,13,14,15,16,17,18]))]
noncomputable def a1b:Code:=(j7 [1,1,1,1,1,1,1,1,1,1,0,1,0,0] (Tryz.f10.body.getD .skip))
def a0Y(E:j2)(w0:j9)(Q:D→b8→Prop):o8→List D→b8→Prop:=
 (q8 0 (H4 Tryz.prog E w0 a4j a3Y a4g (j7 [1,1,1,1,1,1,1,1,1,1,1] (Tryz.f10.body.getD .skip)) (F5 Tryz.prog Tryz.f10 Q)))
def a3t(E:j2)(w0:j9)(N0:D→D→D→D→D→D→b8→Prop)(Q:D→b8→Prop)(x14 x18 x20 x95 x96 x97:D)(S:b8):Prop:=
 b7 (i4 .lss x97 x96) fun v76=>
 i6 v76
 (b7 (o6 1 x95 x97) fun v77=>
 b7 (c9 S v77) fun v78=>
 j8 Tryz.prog E w0 E5 [x14,v78] S fun v79 S80=>
 b7 (j5 v79 0) fun v81=>
 b7 (j5 v79 1) fun v82=>
 b7 (unD .not v82) fun v83=>
 i6 v83
 (Q (.tup [.nilSlc,(.int .i64 190)]) S80)
 (b7 (a1h x18) fun v84=>
 b7 (j4 0 v84) fun v85=>
 b7 (j4 0 v85) fun v86=>
 b7 (c9 S80 v86) fun v87=>
 b7 (a1h x18) fun v88=>
 b7 (j4 0 v88) fun v89=>
 b7 (j4 1 v89) fun v90=>
 b7 (c9 S80 v90) fun v91=>
 j8 Tryz.prog E w0 A2 [v87] S80 fun v92 S93=>
 r7 v90 S80 S93∧j8 Tryz.prog E w0 A2 [v91] S93 fun v94 S95=>
 b7 (E1 (r6 [.nilSlc, .nilSlc] [(0,1,v92),(1,1,v94)])) fun v96=>
 b7 (E1 (r6 [(.int .i64 0), .nilSlc, .nilSlc] [(0,1,v78),(1,2,v96)])) fun v97=>
 r9 S95 3 (m8 3 (List.replicate 1 [(.int .i64 0), .nilSlc, .nilSlc]) [(0,v97)]) 1 fun v98 S99=>
 w9 S99 3 56 x20 v98 fun v100 S101=>
 b7 (i4 .add x97 (.int .i64 1)) fun v102=>
 N0 x14 x18 v100 x95 x96 v102 S101))
 (Q (.tup [x20,(.int .i64 0)]) S)
theorem b3e{E:j2}{w0:j9}{N0:D→D→D→D→D→D→b8→Prop}{Q:D→b8→Prop}{x14 x18 x20 x95 x96 x97:D}{S:b8}(h:a3t E w0 N0 Q x14 x18 x20 x95 x96 x97 S):
  j1 Tryz.prog E w0 a1b (m6 129 [14,18,20,95,96,97] [x14,x18,x20,x95,x96,x97]) S (B0 (fun T S=>N0 (T.getD 14 b9) (T.getD 18 b9) (T.getD 20 b9) (T.getD 95 b9) (T.getD 96 b9) (T.getD 97 b9) S) (a0Y E w0 Q)):=j3 a4j a3Y a4g mixed (by kernel_rfl) h
theorem b2i{E:j2}{w0:j9}{Q:D→b8→Prop}(I:Nat→D→D→D→D→D→D→b8→Prop)
  (step:∀n x14 x18 x20 x95 x96 x97 S,I n x14 x18 x20 x95 x96 x97 S→a3t E w0 (fun x14 x18 x20 x95 x96 x97 S=>∃m,m<n∧I m x14 x18 x20 x95 x96 x97 S) Q x14 x18 x20 x95 x96 x97 S)
  {n:Nat} {x14 x18 x20 x95 x96 x97:D} {S:b8} (h:I n x14 x18 x20 x95 x96 x97 S):j1 Tryz.prog E w0 (.loop a1b) (m6 129 [14,18,20,95,96,97] [x14,x18,x20,x95,x96,x97]) S (a0Y E w0 Q):=
 o7 (k:=129) (n:=n) (I:=fun n T S=>I n (T.getD 14 b9) (T.getD 18 b9) (T.getD 20 b9) (T.getD 95 b9) (T.getD 96 b9) (T.getD 97 b9) S) (fun n T S hl hI=>p8 [14,18,20,95,96,97] hl (j1.mono (b3e (step n _ _ _ _ _ _ S hI)) fun ex T' S' _ hq=>by cases ex<;>exact hq)) (m7 ..) (Eq.mp (by kernel_rfl) h)
def b1c(E:j2)(w0:j9)(Q:D→b8→Prop)(a0 a1 a2 a3:D)(S:b8):Prop:=
 b7 (o3 a0) fun cs=>j6 S cs fun v0 S1=>
 b7 (o3 a3) fun cs=>j6 S1 cs fun v2 S3=>
 b7 (i5 S3 3 v0) fun v4=>
 j8 Tryz.prog E w0 O5 [v4,a1] S3 fun v5 S6=>
 b7 (j5 v5 0) fun v7=>
 b7 (j5 v5 1) fun v8=>
 j6 S6 [.nilSlc, .nilSlc] fun v9 S10=>
 i7 S10 2 v9 v7 fun v11 S12=>
 b7 (i4 .neq v8 (.int .i64 0)) fun v13=>
 i6 v13
 (Q (.tup [.nilSlc,v8]) S12)
 (b7 (j4 2 v0) fun v14=>
 b7 (c9 S12 v14) fun v15=>
 b7 (o6 6 v15 a1) fun v16=>
 b7 (i5 S12 6 v16) fun v17=>
 j6 S12 [(.str []), .nilSlc, .nilSlc,(.int .i64 0),(.int .i64 0), .nilSlc] fun v18 S19=>
 i7 S19 6 v18 v17 fun v20 S21=>
 b7 (i5 S21 3 v0) fun v22=>
 b7 (i5 S21 6 v18) fun v23=>
 b7 (i5 S21 2 v2) fun v24=>
 j8 Tryz.prog E w0 a3l [v22,v23,v24] S21 fun v25 S26=>
 b7 (unD .not v25) fun v27=>
 i6 v27
 (Q (.tup [.nilSlc,(.int .i64 2)]) S26)
 (b7 (j4 5 v18) fun v28=>
 b7 (c9 S26 v28) fun v29=>
 j8 Tryz.prog E w0 a5X [v29] S26 fun v30 S31=>
 b7 (j5 v30 0) fun v32=>
 b7 (j5 v30 1) fun v33=>
 b7 (j5 v30 2) fun v34=>
 j8 Tryz.prog E w0 E5 [v33,a2] S31 fun v35 S36=>
 b7 (j5 v35 0) fun v37=>
 b7 (j5 v35 1) fun v38=>
 b7 (unD .not v38) fun v39=>
 i6 v39
 (Q (.tup [.nilSlc,(.int .i64 190)]) S36)
 (b7 (j4 0 v2) fun v40=>
 b7 (c9 S36 v40) fun v41=>
 b7 (j4 1 v2) fun v42=>
 b7 (c9 S36 v42) fun v43=>
 b7 (j4 4 v18) fun v44=>
 b7 (c9 S36 v44) fun v45=>
 j8 Tryz.prog E w0 A2 [v41] S36 fun v46 S47=>
 r7 v42 S36 S47∧r7 v44 S36 S47∧j8 Tryz.prog E w0 A2 [v43] S47 fun v48 S49=>
 r7 v44 S36 S49∧b7 (E1 (r6 [.nilSlc, .nilSlc] [(0,1,v46),(1,1,v48)])) fun v50=>
 b7 (E1 (r6 [.nilSlc, .nilSlc,(.int .i64 0)] [(0,2,v50),(2,1,v45)])) fun v51=>
 b7 (o3 v51) fun cs=>j6 S49 cs fun v52 S53=>
 b7 (i5 S53 3 v0) fun v54=>
 b7 (i5 S53 6 v18) fun v55=>
 b7 (o6 4 v32 v37) fun v56=>
 b7 (i5 S53 4 v56) fun v57=>
 j8 Tryz.prog E w0 X2 [v52,v54,v55,v57] S53 fun v58 S59=>
 b7 (i4 .neq v58 (.int .i64 0)) fun v60=>
 i6 v60
 (Q (.tup [.nilSlc,v58]) S59)
 (b7 (o6 4 v32 v37) fun v61=>
 b7 (i5 S59 4 v61) fun v62=>
 b7 (j4 5 v18) fun v63=>
 b7 (c9 S59 v63) fun v64=>
 b7 (m9 v64) fun v65=>
 b7 (i4 .add v37 (.int .i64 1)) fun v66=>
 r9 S59 1 (m8 1 (List.replicate 1 [(.int .i64 0)]) [(0,v65)]) 1 fun v67 S68=>
 r7 v61 S59 S68∧w9 S68 1 8 v33 v67 fun v69 S70=>
 r7 v61 S59 S70∧b7 (o6 1 v69 v66) fun v71=>
 b7 (c9 S70 v71) fun v72=>
 j8 Tryz.prog E w0 a4k [v62,v72] S70 fun v73 S74=>
 b7 (m9 v73) fun v75=>
 j1 Tryz.prog E w0 (.loop a1b) (m6 129 [14,18,20,95,96,97] [v33,v52, .nilSlc,v73,v75,(.int .i64 0)]) S74 (a0Y E w0 Q)))))
theorem b5t{E:j2}{w0:j9}{Q:D→b8→Prop}{a0 a1 a2 a3:D}{S:b8}(h:b1c E w0 (d9 E Q) a0 a1 a2 a3 S):j8 Tryz.prog E w0 I0 [a0,a1,a2,a3] S Q:=
 j0 a4j a3Y a4g (fn:=Tryz.f10) (c:=Tryz.f10.body.getD .skip) mixed Tryz.func10 (by kernel_rfl) (by kernel_rfl) h
def Q4:List (Nat×List Nat):=[(6,[0,1,6,7,8])]
def P3:List (Nat×List Nat):=[]
def P6:List (Nat×O6):=[]
noncomputable def M5:Code:=(j7 [1,1,1,0,0,0] (Tryz.f33.body.getD .skip))
def N8(E:j2)(w0:j9)(Q:D→b8→Prop):o8→List D→b8→Prop:=
 (q8 0 (H4 Tryz.prog E w0 Q4 P3 P6 (j7 [1,1,1,1] (Tryz.f33.body.getD .skip)) (F5 Tryz.prog Tryz.f33 Q)))
def M7(E:j2)(w0:j9)(N0:D→D→D→D→D→b8→Prop)(Q:D→b8→Prop)(x0 x1 x6 x7 x8:D)(S:b8):Prop:=
 b7 (i4 .lss x7 x8) fun v1=>
 i6 v1
 (b7 (i4 .add x7 x8) fun v2=>
 b7 (J9 .u64 v2) fun v3=>
 b7 (i4 .shr v3 (.int .u64 1)) fun v4=>
 b7 (J9 .i64 v4) fun v5=>
 b7 (o6 1 x0 v5) fun v6=>
 b7 (c9 S v6) fun v7=>
 j8 Tryz.prog E w0 a6y [v7,x1] S fun v8 S9=>
 i6 v8
 (b7 (i4 .add v5 (.int .i64 1)) fun v10=>
 N0 x0 x1 x6 v10 x8 S9)
 (N0 x0 x1 x6 x7 v5 S9))
 (b7 (i4 .lss x7 x6) fun v11=>
 b7 (f9 (d6 v11 true) (some x0)) fun v12=>
 b7 (f9 (d6 v11 true) (some x7)) fun v13=>
 b7 (f9 (d6 v11 true) (o6 1 v12 v13)) fun v14=>
 b7 (f9 (d6 v11 true) (c9 S v14)) fun v15=>
 b7 (f9 (d6 v11 true) (some x1)) fun v16=>
 b7 (f9 (d6 v11 true) (i4 .eql v15 v16)) fun v17=>
 b7 (f9 (d6 v11 true) (some v17)) fun v18=>
 b7 (f9 (d6 v18 false) (some x0)) fun v19=>
 b7 (f9 (d6 v18 false) (some x7)) fun v20=>
 b7 (f9 (d6 v18 false) (o6 1 v19 v20)) fun v21=>
 b7 (f9 (d6 v18 false) (c9 S v21)) fun v22=>
 Q1 (d6 v18 false) (fun K=>j8 Tryz.prog E w0 a0r [v22] S K) S fun v23 S24=>
 b7 (f9 (d6 v18 false) (some v23)) fun v25=>
 b7 (f9 (d6 v25 true) (some x1)) fun v26=>
 Q1 (d6 v25 true) (fun K=>j8 Tryz.prog E w0 a0r [v26] S24 K) S24 fun v27 S28=>
 b7 (f9 (d6 v18 false) (q9 v25 v27 (.bool false))) fun v29=>
 b7 (f9 (d6 v11 true) (q9 v18 (.bool true) v29)) fun v30=>
 b7 (q9 v11 v30 (.bool false)) fun v31=>
 Q (.tup [x7,v31]) S28)
theorem a4c{E:j2}{w0:j9}{N0:D→D→D→D→D→b8→Prop}{Q:D→b8→Prop}{x0 x1 x6 x7 x8:D}{S:b8}(h:M7 E w0 N0 Q x0 x1 x6 x7 x8 S):
  j1 Tryz.prog E w0 M5 (m6 54 [0,1,6,7,8] [x0,x1,x6,x7,x8]) S (B0 (fun T S=>N0 (T.getD 0 b9) (T.getD 1 b9) (T.getD 6 b9) (T.getD 7 b9) (T.getD 8 b9) S) (N8 E w0 Q)):=j3 Q4 P3 P6 mixed (by kernel_rfl) h
theorem a4l{E:j2}{w0:j9}{Q:D→b8→Prop}(I:Nat→D→D→D→D→D→b8→Prop)
  (step:∀n x0 x1 x6 x7 x8 S,I n x0 x1 x6 x7 x8 S→M7 E w0 (fun x0 x1 x6 x7 x8 S=>∃m,m<n∧I m x0 x1 x6 x7 x8 S) Q x0 x1 x6 x7 x8 S)
  {n:Nat} {x0 x1 x6 x7 x8:D} {S:b8} (h:I n x0 x1 x6 x7 x8 S):j1 Tryz.prog E w0 (.loop M5) (m6 54 [0,1,6,7,8] [x0,x1,x6,x7,x8]) S (N8 E w0 Q):=
 o7 (k:=54) (n:=n) (I:=fun n T S=>I n (T.getD 0 b9) (T.getD 1 b9) (T.getD 6 b9) (T.getD 7 b9) (T.getD 8 b9) S) (fun n T S hl hI=>p8 [0,1,6,7,8] hl (j1.mono (a4c (step n _ _ _ _ _ S hI)) fun ex T' S' _ hq=>by cases ex<;>exact hq)) (m7 ..) (Eq.mp (by kernel_rfl) h)
def a1U(E:j2)(w0:j9)(Q:D→b8→Prop)(a0 a1:D)(S:b8):Prop:=
 b7 (m9 a0) fun v0=>
 j1 Tryz.prog E w0 (.loop M5) (m6 54 [0,1,6,7,8] [a0,a1,v0,(.int .i64 0),v0]) S (N8 E w0 Q)
theorem a5j{E:j2}{w0:j9}{Q:D→b8→Prop}{a0 a1:D}{S:b8}(h:a1U E w0 (d9 E Q) a0 a1 S):j8 Tryz.prog E w0 E5 [a0,a1] S Q:=
 j0 Q4 P3 P6 (fn:=Tryz.f33) (c:=Tryz.f33.body.getD .skip) mixed Tryz.func33 (by kernel_rfl) (by kernel_rfl) h
def c1d:List (Nat×List Nat):=[]
def c0x:List (Nat×List Nat):=[]
def c0s:List (Nat×O6):=[]
def b1D(E:j2)(w0:j9)(Q:D→b8→Prop)(a0 a1:D)(S:b8):Prop:=
 j8 Tryz.prog E w0 a2q [a0] S fun v0 S1=>
 b7 (f9 (d6 v0 true) (some a1)) fun v2=>
 Q1 (d6 v0 true) (fun K=>j8 Tryz.prog E w0 a2q [v2] S1 K) S1 fun v3 S4=>
 b7 (f9 (d6 v0 true) (unD .not v3)) fun v5=>
 b7 (q9 v0 v5 (.bool false)) fun v6=>
 b7 (f9 (d6 v6 false) (some a0)) fun v7=>
 b7 (f9 (d6 v6 false) (some a1)) fun v8=>
 b7 (f9 (d6 v6 false) (i4 .lss v7 v8)) fun v9=>
 b7 (q9 v6 (.bool true) v9) fun v10=>
 Q v10 S4
theorem b6h{E:j2}{w0:j9}{Q:D→b8→Prop}{a0 a1:D}{S:b8}(h:b1D E w0 (d9 E Q) a0 a1 S):j8 Tryz.prog E w0 a6y [a0,a1] S Q:=
 j0 c1d c0x c0s (fn:=Tryz.f55) (c:=Tryz.f55.body.getD .skip) mixed Tryz.func55 (by kernel_rfl) (by kernel_rfl) h
def b9c:List (Nat×List Nat):=[]
def b8l:List (Nat×List Nat):=[]
def b8i:List (Nat×O6):=[]
def b1f(E:j2)(w0:j9)(Q:D→b8→Prop)(a0:D)(S:b8):Prop:=
 b7 (i4 .neq a0 a0) fun v0=>
 Q v0 S
theorem b4U{E:j2}{w0:j9}{Q:D→b8→Prop}{a0:D}{S:b8}(h:b1f E w0 (d9 E Q) a0 S):j8 Tryz.prog E w0 a2q [a0] S Q:=
 j0 b9c b8l b8i (fn:=Tryz.f83) (c:=Tryz.f83.body.getD .skip) mixed Tryz.func83 (by kernel_rfl) (by kernel_rfl) h
def b4g:List (Nat×List Nat):=[]
def b4l:List (Nat×List Nat):=[]
def b4e:List (Nat×O6):=[]
def a6S(E:j2)(w0:j9)(Q:D→b8→Prop)(a0:D)(S:b8):Prop:=
 b7 (i4 .neq a0 a0) fun v0=>
 Q v0 S
theorem b1q{E:j2}{w0:j9}{Q:D→b8→Prop}{a0:D}{S:b8}(h:a6S E w0 (d9 E Q) a0 S):j8 Tryz.prog E w0 a0r [a0] S Q:=
 j0 b4g b4l b4e (fn:=Tryz.f56) (c:=Tryz.f56.body.getD .skip) mixed Tryz.func56 (by kernel_rfl) (by kernel_rfl) h
end Go.Proofs.YtdkidgkiplcggaaGreat.d
end
section
open Go.Proofs Go Go.Am Go.Op
namespace Go.Proofs.YtdkidgkiplcggaaGreat.d
section
set_option linter.unusedSectionVars false
structure Fr where
 locals:List Int
 stack:List Int
 deriving DecidableEq
def H9(f:Fr):List D:=[iD f.locals,iD f.stack]
def frD(f:Fr):D:= .agg (H9 f)
def fr0:Fr:=⟨[],[]⟩
structure Fr.Ok (f:Fr):Prop where
 l:f.locals.length<2^30
 s:f.stack.length<2^30
 ints:∀n∈f.locals++f.stack,I64 n
def a5o(r:Ro):Fr:=⟨r.params++List.replicate (r.locals.toNat - r.params.length) 0,[]⟩
def F3(m:Mo)(f:Int):Fr×Int:=
 if(a3G m).2≠0 then(fr0,(a3G m).2) else if f<0∨(m.funcs.length:Int)≤f then(fr0,4) else match m.funcs[f.toNat]? with
  |some r=>(a5o r,0)
  |none=>(fr0,4)
def a5q(m:Mo)(t:Int):Bool:=decide (t=0)||L3 m t
def b1A(m:Mo)(r:Ro)(f:Fr):Bool:=decide ((f.locals.length:Int)=r.locals)&&decide ((f.stack.length:Int)≤r.stack)&&f.locals.all (a5q m)&&f.stack.all (a5q m)
theorem d3c{m:Mo}(h:(a3G m).2=0):Q5 m=0:=by
 unfold a3G at h
 by_cases hs:Q5 m=0
 ·exact hs
 ·rw[if_pos hs]at h;exact absurd h hs
structure d4V (m:Mo) (r:Ro):Prop where
 par:(r.params.length:Int)≤r.locals
 loc:r.locals≤256
 st0:0≤r.stack
 st1:r.stack≤4096
 res:r.results.length≤8
 code:r.code.length≤65536
 all0:(a8O (a7y r.code)).2.2=0
 ins:∀y∈(a8O (a7y r.code)).1,a2v m r y=true
theorem c6a{m:Mo}(h:(a3G m).2=0){r:Ro}(hr:r∈m.funcs):d4V m r:=by
 obtain⟨_,_,_,h4⟩:=b7q (d3c h)
 obtain⟨h5,h6⟩:=h4 r hr
 obtain⟨_,_,g3,g4,g5,g6⟩:=c2e h5
 unfold a3m at h6
 simp only[Bool.and_eq_true,Bool.not_eq_true',decide_eq_false_iff_not,decide_eq_true_eq,List.all_eq_true]at h6
 obtain⟨⟨⟨⟨⟨_,_⟩,q3⟩,q4⟩,q5⟩,q6⟩:=h6
 exact⟨by omega,g5,by omega,g6,g3,g4,q5,q6⟩
section
variable{E:j2}{w0:j9}
theorem d7p(r:Ro):(L8 r)[1]? =some (iD r.params)∧(L8 r)[2]? =some (iD r.results)∧(L8 r)[3]? =some (.int .i64 r.locals)∧(L8 r)[4]? =some (.int .i64 r.stack)∧(L8 r)[5]? =some (bD r.code):=⟨rfl,rfl,rfl,rfl,rfl⟩
def b5o(r:Fr×Int):D:= .tup [frD r.1, .int .i64 r.2]
theorem d7w:Wk (.agg [.nilSlc, .nilSlc]) (frD fr0):=Wk.agg ⟨Wk.nil 1,Wk.nil 1,trivial⟩
theorem a7K{m:Mo}(hm:m.Fits){f:Int}(hf:I64 f):K9 Tryz.prog E w0 O5 [moD m, .int .i64 f] (b5o (F3 m f)):=fun S=>by
 refine b4k ?_
 unfold a8T
 rw[moD,U9,oD]
 intro k a n
 have hk:u9 (S.set k ⟨3,[M3 m],a⟩) k 3 (M3 m):=u9.new
 intro k2 a2 n2
 obtain⟨hne,n2'⟩:=b8.fresh n2
 have hk:=hk.set (o:=⟨2,[[.nilSlc, .nilSlc]],a2⟩) n2
 have h2:u9 (((S.set k ⟨3,[M3 m],a⟩)).set k2 ⟨2,[[.nilSlc, .nilSlc]],a2⟩) k2 2 [.nilSlc, .nilSlc]:=u9.new
 have hle:S.le (((S.set k ⟨3,[M3 m],a⟩)).set k2 ⟨2,[[.nilSlc, .nilSlc]],a2⟩):=b8.le_set (b8.le_new n) n2'
 rw[show(M3 m).length=3 from rfl,show([D.nilSlc, .nilSlc]:List D).length=2 from rfl]
 generalize (((S.set k ⟨3,[M3 m],a⟩)).set k2 ⟨2,[[.nilSlc, .nilSlc]],a2⟩)=T at hk h2 hle
 rw[hk.all (n:=3) (by decide) rfl,oD]
 refine(c3o (E:=E) (w0:=w0) hm).use ?_
 have nok:∀(e:Int) (a':List AV),d9 E (fun d S'=>d=b5o (fr0,e)∧S'=S) (.tup [.agg [.nilSlc, .nilSlc], .int .i64 e]) (T.set k2 ⟨2,[[.nilSlc, .nilSlc]],a'⟩):=fun e a'=>
  d9.less (b8.le_set hle n2') (d9.weak (d':=b5o (fr0,e)) (Wk.tup ⟨d7w,Wk.refl _,trivial⟩) (d9.here ⟨rfl,rfl⟩))
 have bad:∀e:Int,F3 m f=(fr0,e)→b7 (E1 (r6 [.nilSlc, .nilSlc] [])) fun v8=>i7 T 2 (.ptr k2 0) v8 fun v9 S10=>b7 (i5 S10 2 (.ptr k2 0)) fun v11=>d9 E (fun d S'=>d=b5o (F3 m f)∧S'=S) (.tup [v11, .int .i64 e]) S10:=by
  intro e he
  rw[he,fiN,agS,oD]
  refine h2.st (ds:=[.nilSlc, .nilSlc]) (U9 _) ⟨rfl,by decide,by decide⟩ fun a'=> ?_
  rw[show l7 [D.nilSlc, .nilSlc] 0 [.nilSlc, .nilSlc]=[.nilSlc, .nilSlc]from rfl,(u9.new).all (n:=2) (by decide) rfl,oD]
  exact nok e a'
 have lk:∀ {T':b8},u9 T' k 3 (M3 m)→c9 T' (.ptr k 2)=some (a9d m.funcs):=fun h=>h.ld 2
 rw[a3s,oD,I6]
 refine⟨fun h0=>bad _ (by unfold F3;rw[if_pos h0]),fun h0=> ?_⟩
 have h0:(a3G m).2=0:=Classical.not_not.1 h0
 simp only[H7,oD,E2,Nat.zero_add]
 by_cases c1:f<0
 ·simp only[decide_eq_true c1,M4,t1',vdF,oD,M8,if_true,cdT]
  exact bad 4 (by unfold F3;rw[if_neg (fun h=>h h0),if_pos (.inl c1)])
 simp only[decide_eq_false c1,M4,t2',vdT,oD,M8,Bool.false_eq_true,if_false,lk hk,a6Y,a8S]
 rw[I6]
 refine⟨fun c2=>bad 4 (by unfold F3;rw[if_neg (fun h=>h h0),if_pos (.inr c2)]),fun c2=> ?_⟩
 have hlt:f.toNat<m.funcs.length:=by omega
 have hr:m.funcs[f.toNat]? =some m.funcs[f.toNat]:=List.getElem?_eq_getElem hlt
 have hg:=c6a h0 (List.getElem_mem hlt)
 generalize hrr:m.funcs[f.toNat]=r at hr hg
 have hfn:f=((f.toNat:Nat):Int):=by omega
 have hat:o6 6 (a9d m.funcs) (.int .i64 f)=some (.elt (L8 r) 0):=by rw[hfn];exact b3O hr
 have hfirst:F3 m f=(a5o r,0):=by
  unfold F3
  rw[if_neg (fun h=>h h0),if_neg (fun h=>h.elim c1 c2),hr]
 rw[hfirst,hat]
 obtain⟨e1,e2,e3,e4,e5⟩:=d7p r
 simp only[oD,ofE,Nat.zero_add,lsE,e3]
 have hp:=hg.par
 have hl:=hg.loc
 obtain⟨L,hL⟩:∃L:Nat,r.locals=(L:Int):=⟨r.locals.toNat,by omega⟩
 rw[hL]
 refine d6g ⟨by omega,by omega⟩ fun k3 a3 n3=> ?_
 have hk':=hk.set (o:=⟨1,List.replicate L [.int .i64 0],a3⟩) n3
 have h2':=h2.set (o:=⟨1,List.replicate L [.int .i64 0],a3⟩) n3
 rw[lk hk',oD,hat]
 simp only[oD,ofE,Nat.zero_add,lsE,e1]
 simp only[c7J,c1n,b8.set_same]
 rw[if_pos ⟨by trivial,by trivial,by simp,by decide⟩]
 intro a4
 have hmin:min (iC r.params).length L=r.params.length:=by rw[u4];omega
 rw[hmin,b8.set_set]
 have hrows:(List.replicate L [D.int .i64 0]).take 0++((iC r.params).take r.params.length++(List.replicate L [D.int .i64 0]).drop (0+r.params.length))=iC (a5o r).locals:=by
  rw[List.take_zero,List.nil_append,List.take_of_length_le (by rw[u4];exact Nat.le_refl _),Nat.zero_add,List.drop_replicate]
  unfold a5o
  rw[a4n,hL,Int.toNat_natCast]
  congr 1
  simp[iC,B4]
 rw[hrows]
 have hk':=hk.set (o:=⟨1,iC (a5o r).locals,a4⟩) n3
 have h2':=h2.set (o:=⟨1,iC (a5o r).locals,a4⟩) n3
 rw[show r6 [D.nilSlc, .nilSlc] [(0,1, .raw k3 0 L L true 1)]=some [.raw k3 0 L L true 1, .nilSlc]from rfl,agS,oD]
 refine h2'.st (ds:=[.raw k3 0 L L true 1, .nilSlc]) (U9 _) ⟨rfl,by decide,by decide⟩ fun a'=> ?_
 rw[show l7 [D.nilSlc, .nilSlc] 0 [.raw k3 0 L L true 1, .nilSlc]=[.raw k3 0 L L true 1, .nilSlc]from rfl,(u9.new).all (n:=2) (by decide) rfl,oD]
 have hne3:k3≠k2:=fun e=>h2.there (by rw[←e];exact n3)
 have n3':=b8.none_of hle n3
 rw[b8.set_comm _ hne3]
 have hbl:(a5o r).locals.length=L:=by unfold a5o;rw[List.length_append,List.length_replicate,hL,Int.toNat_natCast];omega
 refine d9.less (S':=S.set k3 ⟨1,iC (a5o r).locals,a4⟩) (fun j o e=> ?_) (d9.frz n3' ?_)
 ·unfold b8.set at e ⊢
  split at e
  ·rename_i hj;rw[if_pos hj];exact e
  ·rename_i hj
   rw[if_neg hj]
   exact b8.le_set hle n2' _ _ e
 ·have:Am.frz k3 ⟨1,iC (a5o r).locals,a4⟩ (.tup [.agg [.raw k3 0 L L true 1, .nilSlc], .int .i64 0])= .tup [.agg [iD (a5o r).locals, .nilSlc], .int .i64 0]:=by
   simp only[Am.frz,Am.c0E,if_true]
   rw[if_pos ⟨by trivial,by rw[u4,hbl];omega,Nat.le_refl _⟩,List.drop_zero,List.take_of_length_le (by rw[u4,hbl];exact Nat.le_refl _)]
   rfl
  rw[this]
  exact d9.weak (d':=b5o (a5o r,0)) (Wk.tup ⟨Wk.agg ⟨Wk.refl _,Wk.nil 1,trivial⟩,Wk.refl _,trivial⟩) (d9.here ⟨rfl,rfl⟩)
theorem d4R{m:Mo}(hm:m.Ok){t:Int}(ht:I64 t){S:b8}{k:Nat}(hk:u9 S k 3 (M3 m)):j8 Tryz.prog E w0 a1O [.int .i64 t, .ptr k 0] S fun d S'=>d= .bool (!a5q m t)∧S'=S:=by
 refine b4o ?_
 unfold a8A
 have hl:c9 S (.ptr k 0)=some (b0l m.types):=hk.ld 0
 have hn:m9 (b0l m.types)=some (.int .i64 (m.types.length:Int)):=by simp[b0l]
 have hmt:=hm.types
 have fin:∀b:Bool,a5q m t= !b→d9 E (fun d S'=>d= .bool (!a5q m t)∧S'=S) (.bool b) S:=fun b h=>by rw[h,Bool.not_not];exact d9.here ⟨rfl,rfl⟩
 rw[a3s,oD]
 by_cases c0:t=0
 ·simp only[decide_eq_false (fun h:t≠0=>h c0),M4,t3,t2',vdF,oD,M8,Bool.false_eq_true,if_false,wdU,gdF]
  exact fin false (by unfold a5q;rw[decide_eq_true c0];rfl)
 simp only[decide_eq_true (show t≠0 from c0),M4,t4,vdT,oD,H7]
 by_cases c1:t<1
 ·simp only[decide_eq_true c1,M4,t1',t4,vdF,vdT,oD,M8,if_true,H7,decide_eq_true (show t<16 by omega)]
  refine fin true ?_
  unfold a5q L3
  rw[decide_eq_false c0,decide_eq_false (by omega),decide_eq_false (by omega)];rfl
 simp only[decide_eq_false c1,M4,t2',vdT,oD,a7w,M8,Bool.false_eq_true,if_false,if_true]
 by_cases c2:t>5
 case neg=>
  simp only[decide_eq_false c2,M4,t3,vdF,oD,M8,Bool.false_eq_true,if_false,wdU]
  refine fin false ?_
  unfold a5q L3
  rw[decide_eq_false c0,decide_eq_true (by omega)];rfl
 simp only[decide_eq_true c2,M4,t4,vdT,oD,H7]
 by_cases c3:t<16
 ·simp only[decide_eq_true c3,M4,t1',vdF,oD,M8,if_true]
  refine fin true ?_
  unfold a5q L3
  rw[decide_eq_false c0,decide_eq_false (by omega),decide_eq_false (by omega)];rfl
 have hsub:IntKind.i64.wrap (t - 16)=t - 16:=l8 (by have:=ht.1;omega) (by have:=ht.2;omega)
 simp only[decide_eq_false c3,M4,t2',vdT,oD,b4u,hsub,E2,Nat.zero_add,hl,hn,a8S,M8,Bool.false_eq_true,if_false,if_true]
 refine fin _ ?_
 unfold a5q L3
 rw[decide_eq_false c0,decide_eq_false (by omega)]
 by_cases c4:t - 16≥m.types.length
 ·rw[decide_eq_true c4,decide_eq_false (by omega)];rfl
 ·rw[decide_eq_false c4,decide_eq_true (by omega)];rfl
theorem d4h(m:Mo)(l:List Int):(l.any fun t=> !a5q m t)= !l.all (a5q m):=c7a l
theorem c0e{m:Mo}(hm:m.Fits){r:Ro}(hr:r.Ok){f:Fr}(hf:f.Ok):K9 Tryz.prog E w0 a3l [moD m, .agg (L8 r),frD f] (.bool (b1A m r f)):=fun S=>by
 refine b7b ?_
 unfold b1W
 rw[moD,U9,oD]
 intro k a n
 have hk:u9 (S.set k ⟨3,[M3 m],a⟩) k 3 (M3 m):=u9.new
 have l1:S.le (S.set k ⟨3,[M3 m],a⟩):=b8.le_new n
 rw[show(M3 m).length=3 from rfl]
 generalize (S.set k ⟨3,[M3 m],a⟩)=T at hk l1
 rw[U9,oD]
 intro k2 a2 n2
 have hk:=hk.set (o:=⟨6,[L8 r],a2⟩) n2
 have h2:u9 (T.set k2 ⟨6,[L8 r],a2⟩) k2 6 (L8 r):=u9.new
 have l1:=b8.le_trans l1 (b8.le_new (o:=⟨6,[L8 r],a2⟩) n2)
 rw[show(L8 r).length=6 from rfl]
 generalize (T.set k2 ⟨6,[L8 r],a2⟩)=T at hk h2 l1
 rw[frD,U9,oD]
 intro k3 a3 n3
 have hk:=hk.set (o:=⟨2,[H9 f],a3⟩) n3
 have h2:=h2.set (o:=⟨2,[H9 f],a3⟩) n3
 have h3:u9 (T.set k3 ⟨2,[H9 f],a3⟩) k3 2 (H9 f):=u9.new
 have l1:=b8.le_trans l1 (b8.le_new (o:=⟨2,[H9 f],a3⟩) n3)
 rw[show(H9 f).length=2 from rfl]
 generalize (T.set k3 ⟨2,[H9 f],a3⟩)=T at hk h2 h3 l1
 have f0:c9 T (.ptr k3 0)=some (iD f.locals):=h3.ld 0
 have f1:c9 T (.ptr k3 1)=some (iD f.stack):=h3.ld 1
 have g3:c9 T (.ptr k2 3)=some (.int .i64 r.locals):=h2.ld 3
 have g4:c9 T (.ptr k2 4)=some (.int .i64 r.stack):=h2.ld 4
 have dec:∀l:List Int,(∀n∈l,I64 n)→∀t∈l,a4A E w0 T (.fn (.func a1O) [] [.ptr k 0]) (.int .i64 t) (!a5q m t):=fun l hl t ht=>a2z (by kernel_rfl) (d4R hm.ok (hl t ht) hk)
 have fin:∀b:Bool,b1A m r f=b→d9 E (fun d S'=>d= .bool (b1A m r f)∧S'=S) (.bool b) T:=fun b h=>by rw[h];exact d9.less l1 (d9.here ⟨rfl,rfl⟩)
 have hfl:=hf.l
 have hfs:=hf.s
 simp only[oD,E2,Nat.zero_add,f0,Y7,g3,Q2]
 by_cases c1:(f.locals.length:Int)=r.locals
 case neg=>
  simp only[decide_eq_false c1,M4,t3,vdF,oD,M8,Bool.false_eq_true,if_false,gdF,wdU]
  exact fin false (by unfold b1A;rw[decide_eq_false c1];rfl)
 simp only[decide_eq_true c1,M4,t4,vdT,oD,f1,Y7,g4,d4A,M8,if_true]
 by_cases c2:(f.stack.length:Int)≤r.stack
 case neg=>
  simp only[decide_eq_false c2,M4,t3,vdF,oD,M8,Bool.false_eq_true,if_false,gdF,wdU]
  exact fin false (by unfold b1A;rw[decide_eq_true c1,decide_eq_false c2];rfl)
 simp only[decide_eq_true c2,M4,t4,vdT,oD,f0,gdT]
 refine(b3B (p:=fun t=> !a5q m t) (by omega) (dec f.locals fun n hn=>hf.ints n (List.mem_append_left _ hn))).use ?_
 rintro d S' ⟨rfl,rfl⟩
 rw[d4h]
 simp only[unN,oD,M8,if_true,Bool.not_not]
 cases c3:f.locals.all (a5q m) with
 |false=>
  simp only[M4,t3,vdF,oD,M8,Bool.false_eq_true,if_false,gdF,wdU]
  exact fin false (by unfold b1A;rw[decide_eq_true c1,decide_eq_true c2,c3];rfl)
 |true=>
  simp only[M4,t4,vdT,oD,f1,gdT]
  refine(b3B (p:=fun t=> !a5q m t) (by omega) (dec f.stack fun n hn=>hf.ints n (List.mem_append_right _ hn))).use ?_
  rintro d S' ⟨rfl,rfl⟩
  rw[d4h]
  simp only[unN,oD,M8,if_true,Bool.not_not]
  exact fin _ (by unfold b1A;rw[decide_eq_true c1,decide_eq_true c2,c3];rfl)
end
end
section
section
variable{E:j2}{w0:j9}
theorem d5l{S0 S:b8}{d:D}{l:List Int}(h:Own S0 d l S):m9 d=some (.int .i64 (l.length:Int)):=by
 rcases h with ⟨rfl,rfl,rfl⟩|⟨k,acs,ex,_,rfl,rfl⟩<;>rfl
theorem d1L{S0 S:b8}{d:D}{l:List Int}(h:Own S0 d l S){i:Nat}(hi:i<l.length){n:Int}{K:D→b8→Prop}(hK:∀S',Own S0 d (l.set i n) S'→K b9 S'):
  ∃p,o6 1 d (.int .i64 (i:Int))=some p∧i7 S 1 p (.int .i64 n) K:=by
 rcases h with ⟨rfl,rfl,rfl⟩|⟨k,acs,ex,h,rfl,rfl⟩
 ·simp at hi
 ·refine⟨_,c8P hi, ?_⟩
  rw[Nat.zero_add]
  refine stR (ds:=[.int .i64 n]) (row:=[.int .i64 l[i]]) (b8.set_same _ _ _) (d1V (List.getElem?_eq_getElem hi)) (clI _ _) ⟨rfl,by decide,by simp⟩ fun acs'=> ?_
  rw[b8.set_set]
  refine hK _ (.inr ⟨k,acs',ex,h,by simp, ?_⟩)
  have e:l7 [D.int .i64 l[i]] 0 [.int .i64 n]=[.int .i64 n]:=rfl
  rw[e]
  congr 2
  simp only[iC]
  rw[b7f, ←List.map_set]
def RdI(S:b8)(d:D)(l:List Int):Prop:=m9 d=some (.int .i64 (l.length:Int))∧∀(i:Nat) (v:Int),l[i]? =some v→∃p,o6 1 d (.int .i64 (i:Int))=some p∧c9 S p=some (.int .i64 v)
theorem Own.rd{S0 S S':b8}{d:D}{l:List Int}(h:Own S0 d l S)(hle:S.le S'):RdI S' d l:=by
 refine⟨d5l h,fun i v hv=> ?_⟩
 rcases h with ⟨rfl,rfl,rfl⟩|⟨k,acs,ex,h,rfl,rfl⟩
 ·simp at hv
 ·have hi:=(List.getElem?_eq_some_iff.1 hv).1
  refine⟨_,c8P hi, ?_⟩
  rw[Nat.zero_add,ldR (hle _ _ (b8.set_same _ _ _)) (d1V hv)]
  rfl
end
end
end Go.Proofs.YtdkidgkiplcggaaGreat.d
end
