/-
  TransferRisesSaid: part Qbh of its proof.
-/
import Derived.Test.YtdkidgkiplcggaaGreatRows
import Derived.Test.YtdkidgkiplcggaaGreatQar
import Derived.KernelRfl
import Derived.Test.YtdkidgkiplcggaaGreatQbg
import Derived.Test.YtdkidgkiplcggaaGreatQax
set_option linter.unusedVariables false
set_option linter.unusedSimpArgs false
set_option maxRecDepth 100000
section
open Go.Proofs Go Go.Am
namespace Go.Proofs.YtdkidgkiplcggaaGreat.d
def b8P:List (Nat×List Nat):=[]
def b9e:List (Nat×List Nat):=[]
def b8G:List (Nat×O6):=[]
def b0M(E:j2)(w0:j9)(Q:D→b8→Prop)(a0 a1:D)(S:b8):Prop:=
 b7 (o3 a0) fun cs=>j6 S cs fun v0 S1=>
 b7 (o3 a1) fun cs=>j6 S1 cs fun v2 S3=>
 j6 S3 [.nilSlc, .nilSlc] fun v4 S5=>
 b7 (i5 S5 2 v0) fun v6=>
 b7 (i5 S5 2 v2) fun v7=>
 j8 Tryz.prog E w0 W9 [v6,v7,(.fn (.func B7) [] [])] S5 fun v8 S9=>
 b7 (j5 v8 0) fun v10=>
 b7 (j5 v8 1) fun v11=>
 b7 (j5 v8 2) fun v12=>
 b7 (unD .not v12) fun v13=>
 i6 v13
 (b7 (E1 (r6 [.nilSlc, .nilSlc] [])) fun v14=>
 i7 S9 2 v4 v14 fun v15 S16=>
 b7 (i5 S16 2 v4) fun v17=>Q (.tup [v17,(.bool false)]) S16)
 (b7 (E1 (r6 [.nilSlc, .nilSlc] [(0,1,v10),(1,1,v11)])) fun v18=>
 i7 S9 2 v4 v18 fun v19 S20=>
 b7 (i5 S20 2 v4) fun v21=>Q (.tup [v21,(.bool true)]) S20)
theorem b5B{E:j2}{w0:j9}{Q:D→b8→Prop}{a0 a1:D}{S:b8}(h:b0M E w0 (d9 E Q) a0 a1 S):j8 Tryz.prog E w0 a2r [a0,a1] S Q:=
 j0 b8P b9e b8G (fn:=Tryz.f18) (c:=Tryz.f18.body.getD .skip) mixed Tryz.func18 (by kernel_rfl) (by kernel_rfl) h
def b8V:List (Nat×List Nat):=[]
def b9g:List (Nat×List Nat):=[]
def b8Z:List (Nat×O6):=[]
def b0Z(E:j2)(w0:j9)(Q:D→b8→Prop)(a0 a1:D)(S:b8):Prop:=
 b7 (o3 a0) fun cs=>j6 S cs fun v0 S1=>
 b7 (o3 a1) fun cs=>j6 S1 cs fun v2 S3=>
 b7 (i5 S3 2 v0) fun v4=>
 b7 (i5 S3 2 v2) fun v5=>
 j8 Tryz.prog E w0 U2 [v4,v5,(.fn (.func C0) [] [])] S3 fun v6 S7=>
 b7 (j5 v6 0) fun v8=>
 b7 (j5 v6 1) fun v9=>
 b7 (j5 v6 2) fun v10=>
 b7 (f9 (d6 v10 true) (some v8)) fun v11=>
 Q1 (d6 v10 true) (fun K=>j8 Tryz.prog E w0 E3 [v11,(.bool false)] S7 K) S7 fun v12 S13=>
 b7 (f9 (d6 v10 true) (unD .not v12)) fun v14=>
 b7 (q9 v10 v14 (.bool false)) fun v15=>
 b7 (f9 (d6 v15 true) (some v9)) fun v16=>
 Q1 (d6 v15 true) (fun K=>j8 Tryz.prog E w0 E3 [v16,(.bool false)] S13 K) S13 fun v17 S18=>
 b7 (f9 (d6 v15 true) (unD .not v17)) fun v19=>
 b7 (q9 v15 v19 (.bool false)) fun v20=>
 Q v20 S18
theorem b5l{E:j2}{w0:j9}{Q:D→b8→Prop}{a0 a1:D}{S:b8}(h:b0Z E w0 (d9 E Q) a0 a1 S):j8 Tryz.prog E w0 a2s [a0,a1] S Q:=
 j0 b8V b9g b8Z (fn:=Tryz.f19) (c:=Tryz.f19.body.getD .skip) mixed Tryz.func19 (by kernel_rfl) (by kernel_rfl) h
def b1Y:List (Nat×List Nat):=[]
def b3r:List (Nat×List Nat):=[]
def b2P:List (Nat×O6):=[]
def a5t(E:j2)(w0:j9)(Q:D→b8→Prop)(a0 a1 a2:D)(S:b8):Prop:=
 b7 (o3 a0) fun cs=>j6 S cs fun v0 S1=>
 b7 (o3 a1) fun cs=>j6 S1 cs fun v2 S3=>
 b7 (j4 0 v0) fun v4=>
 b7 (c9 S3 v4) fun v5=>
 b7 (j4 0 v2) fun v6=>
 b7 (c9 S3 v6) fun v7=>
 j8 Tryz.prog E w0 H6 [v5,v7,a2] S3 fun v8 S9=>
 b7 (j5 v8 0) fun v10=>
 b7 (j5 v8 1) fun v11=>
 b7 (unD .not v11) fun v12=>
 i6 v12
 (Q (.tup [.nilSlc, .nilSlc,(.bool false)]) S9)
 (b7 (j4 1 v0) fun v13=>
 b7 (c9 S9 v13) fun v14=>
 b7 (j4 1 v2) fun v15=>
 b7 (c9 S9 v15) fun v16=>
 j8 Tryz.prog E w0 H6 [v14,v16,a2] S9 fun v17 S18=>
 b7 (j5 v17 0) fun v19=>
 b7 (j5 v17 1) fun v20=>
 Q (.tup [v10,v19,v20]) S18)
theorem a9H{E:j2}{w0:j9}{Q:D→b8→Prop}{a0 a1 a2:D}{S:b8}(h:a5t E w0 (d9 E Q) a0 a1 a2 S):j8 Tryz.prog E w0 W9 [a0,a1,a2] S Q:=
 j0 b1Y b3r b2P (fn:=Tryz.f43) (c:=Tryz.f43.body.getD .skip) mixed Tryz.func43 (by kernel_rfl) (by kernel_rfl) h
def b1h:List (Nat×List Nat):=[]
def b1y:List (Nat×List Nat):=[]
def b1s:List (Nat×O6):=[]
def a4I(E:j2)(w0:j9)(Q:D→b8→Prop)(a0 a1 a2:D)(S:b8):Prop:=
 b7 (o3 a0) fun cs=>j6 S cs fun v0 S1=>
 b7 (o3 a1) fun cs=>j6 S1 cs fun v2 S3=>
 b7 (j4 0 v0) fun v4=>
 b7 (c9 S3 v4) fun v5=>
 b7 (j4 0 v2) fun v6=>
 b7 (c9 S3 v6) fun v7=>
 j8 Tryz.prog E w0 D1 [v5,v7,a2] S3 fun v8 S9=>
 b7 (j5 v8 0) fun v10=>
 b7 (j5 v8 1) fun v11=>
 b7 (unD .not v11) fun v12=>
 i6 v12
 (Q (.tup [.nilSlc, .nilSlc,(.bool false)]) S9)
 (b7 (j4 1 v0) fun v13=>
 b7 (c9 S9 v13) fun v14=>
 b7 (j4 1 v2) fun v15=>
 b7 (c9 S9 v15) fun v16=>
 j8 Tryz.prog E w0 D1 [v14,v16,a2] S9 fun v17 S18=>
 b7 (j5 v17 0) fun v19=>
 b7 (j5 v17 1) fun v20=>
 Q (.tup [v10,v19,v20]) S18)
theorem a8C{E:j2}{w0:j9}{Q:D→b8→Prop}{a0 a1 a2:D}{S:b8}(h:a4I E w0 (d9 E Q) a0 a1 a2 S):j8 Tryz.prog E w0 U2 [a0,a1,a2] S Q:=
 j0 b1h b1y b1s (fn:=Tryz.f45) (c:=Tryz.f45.body.getD .skip) mixed Tryz.func45 (by kernel_rfl) (by kernel_rfl) h
def a1I:List (Nat×List Nat):=[(10,[0,1,2,8,19,20])]
def a1u:List (Nat×List Nat):=[]
def a1t:List (Nat×O6):=[]
noncomputable def a0M:Code:=(j7 [1,1,1,0,1,0,0] (Tryz.f69.body.getD .skip))
def a0W(E:j2)(w0:j9)(Q:D→b8→Prop):o8→List D→b8→Prop:=
 (q8 0 (H4 Tryz.prog E w0 a1I a1u a1t (j7 [1,1,1,1] (Tryz.f69.body.getD .skip)) (F5 Tryz.prog Tryz.f69 Q)))
def a0H(E:j2)(w0:j9)(N0:D→D→D→D→D→D→b8→Prop)(Q:D→b8→Prop)(x0 x1 x2 x8 x19 x20:D)(S:b8):Prop:=
 b7 (i4 .lss x20 x19) fun v7=>
 i6 v7
 (b7 (o6 1 x0 x20) fun v8=>
 b7 (c9 S v8) fun v9=>
 b7 (o6 1 x1 x20) fun v10=>
 b7 (c9 S v10) fun v11=>
 a0f Tryz.prog (j8 Tryz.prog E w0) S x2 [v9,v11] fun v12 S13=>
 b7 (o6 1 x8 x20) fun v14=>
 i7 S13 1 v14 v12 fun v15 S16=>
 b7 (i4 .add x20 (.int .i64 1)) fun v17=>
 N0 x0 x1 x2 x8 x19 v17 S16)
 (Q (.tup [x8,(.bool true)]) S)
theorem a8o{E:j2}{w0:j9}{N0:D→D→D→D→D→D→b8→Prop}{Q:D→b8→Prop}{x0 x1 x2 x8 x19 x20:D}{S:b8}(h:a0H E w0 N0 Q x0 x1 x2 x8 x19 x20 S):
  j1 Tryz.prog E w0 a0M (m6 38 [0,1,2,8,19,20] [x0,x1,x2,x8,x19,x20]) S (B0 (fun T S=>N0 (T.getD 0 b9) (T.getD 1 b9) (T.getD 2 b9) (T.getD 8 b9) (T.getD 19 b9) (T.getD 20 b9) S) (a0W E w0 Q)):=j3 a1I a1u a1t mixed (by kernel_rfl) h
theorem a8x{E:j2}{w0:j9}{Q:D→b8→Prop}(I:Nat→D→D→D→D→D→D→b8→Prop)
  (step:∀n x0 x1 x2 x8 x19 x20 S,I n x0 x1 x2 x8 x19 x20 S→a0H E w0 (fun x0 x1 x2 x8 x19 x20 S=>∃m,m<n∧I m x0 x1 x2 x8 x19 x20 S) Q x0 x1 x2 x8 x19 x20 S)
  {n:Nat} {x0 x1 x2 x8 x19 x20:D} {S:b8} (h:I n x0 x1 x2 x8 x19 x20 S):j1 Tryz.prog E w0 (.loop a0M) (m6 38 [0,1,2,8,19,20] [x0,x1,x2,x8,x19,x20]) S (a0W E w0 Q):=
 o7 (k:=38) (n:=n) (I:=fun n T S=>I n (T.getD 0 b9) (T.getD 1 b9) (T.getD 2 b9) (T.getD 8 b9) (T.getD 19 b9) (T.getD 20 b9) S) (fun n T S hl hI=>p8 [0,1,2,8,19,20] hl (j1.mono (a8o (step n _ _ _ _ _ _ S hI)) fun ex T' S' _ hq=>by cases ex<;>exact hq)) (m7 ..) (Eq.mp (by kernel_rfl) h)
def a5B(E:j2)(w0:j9)(Q:D→b8→Prop)(a0 a1 a2:D)(S:b8):Prop:=
 b7 (m9 a0) fun v0=>
 b7 (m9 a1) fun v1=>
 b7 (i4 .neq v0 v1) fun v2=>
 i6 v2
 (Q (.tup [.nilSlc,(.bool false)]) S)
 (b7 (m9 a0) fun v3=>
 a6o S 1 8 [(.int .i64 0)] v3 v3 fun v4 S5=>
 b7 (m9 a0) fun v6=>
 j1 Tryz.prog E w0 (.loop a0M) (m6 38 [0,1,2,8,19,20] [a0,a1,a2,v4,v6,(.int .i64 0)]) S5 (a0W E w0 Q))
theorem b0c{E:j2}{w0:j9}{Q:D→b8→Prop}{a0 a1 a2:D}{S:b8}(h:a5B E w0 (d9 E Q) a0 a1 a2 S):j8 Tryz.prog E w0 H6 [a0,a1,a2] S Q:=
 j0 a1I a1u a1t (fn:=Tryz.f69) (c:=Tryz.f69.body.getD .skip) mixed Tryz.func69 (by kernel_rfl) (by kernel_rfl) h
def Q9:List (Nat×List Nat):=[(10,[0,1,2,8,19,20])]
def Q8:List (Nat×List Nat):=[]
def R4:List (Nat×O6):=[]
noncomputable def O7:Code:=(j7 [1,1,1,0,1,0,0] (Tryz.f70.body.getD .skip))
def P5(E:j2)(w0:j9)(Q:D→b8→Prop):o8→List D→b8→Prop:=
 (q8 0 (H4 Tryz.prog E w0 Q9 Q8 R4 (j7 [1,1,1,1] (Tryz.f70.body.getD .skip)) (F5 Tryz.prog Tryz.f70 Q)))
def P1(E:j2)(w0:j9)(N0:D→D→D→D→D→D→b8→Prop)(Q:D→b8→Prop)(x0 x1 x2 x8 x19 x20:D)(S:b8):Prop:=
 b7 (i4 .lss x20 x19) fun v7=>
 i6 v7
 (b7 (o6 1 x0 x20) fun v8=>
 b7 (c9 S v8) fun v9=>
 b7 (o6 1 x1 x20) fun v10=>
 b7 (c9 S v10) fun v11=>
 a0f Tryz.prog (j8 Tryz.prog E w0) S x2 [v9,v11] fun v12 S13=>
 b7 (o6 1 x8 x20) fun v14=>
 i7 S13 1 v14 v12 fun v15 S16=>
 b7 (i4 .add x20 (.int .i64 1)) fun v17=>
 N0 x0 x1 x2 x8 x19 v17 S16)
 (Q (.tup [x8,(.bool true)]) S)
theorem a4K{E:j2}{w0:j9}{N0:D→D→D→D→D→D→b8→Prop}{Q:D→b8→Prop}{x0 x1 x2 x8 x19 x20:D}{S:b8}(h:P1 E w0 N0 Q x0 x1 x2 x8 x19 x20 S):
  j1 Tryz.prog E w0 O7 (m6 38 [0,1,2,8,19,20] [x0,x1,x2,x8,x19,x20]) S (B0 (fun T S=>N0 (T.getD 0 b9) (T.getD 1 b9) (T.getD 2 b9) (T.getD 8 b9) (T.getD 19 b9) (T.getD 20 b9) S) (P5 E w0 Q)):=j3 Q9 Q8 R4 mixed (by kernel_rfl) h
theorem a4R{E:j2}{w0:j9}{Q:D→b8→Prop}(I:Nat→D→D→D→D→D→D→b8→Prop)
  (step:∀n x0 x1 x2 x8 x19 x20 S,I n x0 x1 x2 x8 x19 x20 S→P1 E w0 (fun x0 x1 x2 x8 x19 x20 S=>∃m,m<n∧I m x0 x1 x2 x8 x19 x20 S) Q x0 x1 x2 x8 x19 x20 S)
  {n:Nat} {x0 x1 x2 x8 x19 x20:D} {S:b8} (h:I n x0 x1 x2 x8 x19 x20 S):j1 Tryz.prog E w0 (.loop O7) (m6 38 [0,1,2,8,19,20] [x0,x1,x2,x8,x19,x20]) S (P5 E w0 Q):=
 o7 (k:=38) (n:=n) (I:=fun n T S=>I n (T.getD 0 b9) (T.getD 1 b9) (T.getD 2 b9) (T.getD 8 b9) (T.getD 19 b9) (T.getD 20 b9) S) (fun n T S hl hI=>p8 [0,1,2,8,19,20] hl (j1.mono (a4K (step n _ _ _ _ _ _ S hI)) fun ex T' S' _ hq=>by cases ex<;>exact hq)) (m7 ..) (Eq.mp (by kernel_rfl) h)
def a2p(E:j2)(w0:j9)(Q:D→b8→Prop)(a0 a1 a2:D)(S:b8):Prop:=
 b7 (m9 a0) fun v0=>
 b7 (m9 a1) fun v1=>
 b7 (i4 .neq v0 v1) fun v2=>
 i6 v2
 (Q (.tup [.nilSlc,(.bool false)]) S)
 (b7 (m9 a0) fun v3=>
 a6o S 1 1 [(.bool false)] v3 v3 fun v4 S5=>
 b7 (m9 a0) fun v6=>
 j1 Tryz.prog E w0 (.loop O7) (m6 38 [0,1,2,8,19,20] [a0,a1,a2,v4,v6,(.int .i64 0)]) S5 (P5 E w0 Q))
theorem a5P{E:j2}{w0:j9}{Q:D→b8→Prop}{a0 a1 a2:D}{S:b8}(h:a2p E w0 (d9 E Q) a0 a1 a2 S):j8 Tryz.prog E w0 D1 [a0,a1,a2] S Q:=
 j0 Q9 Q8 R4 (fn:=Tryz.f70) (c:=Tryz.f70.body.getD .skip) mixed Tryz.func70 (by kernel_rfl) (by kernel_rfl) h
def b5I:List (Nat×List Nat):=[]
def b4Q:List (Nat×List Nat):=[]
def b4X:List (Nat×O6):=[]
def a7T(E:j2)(w0:j9)(Q:D→b8→Prop)(a0 a1:D)(S:b8):Prop:=
 b7 (i4 .neq a0 a1) fun v0=>
 i6 v0
 (Q (.int .i64 0) S)
 (Q a0 S)
theorem b2x{E:j2}{w0:j9}{Q:D→b8→Prop}{a0 a1:D}{S:b8}(h:a7T E w0 (d9 E Q) a0 a1 S):j8 Tryz.prog E w0 B7 [a0,a1] S Q:=
 j0 b5I b4Q b4X (fn:=Tryz.f44) (c:=Tryz.f44.body.getD .skip) mixed Tryz.func44 (by kernel_rfl) (by kernel_rfl) h
def b5R:List (Nat×List Nat):=[]
def b4T:List (Nat×List Nat):=[]
def b5W:List (Nat×O6):=[]
def a7D(E:j2)(w0:j9)(Q:D→b8→Prop)(a0 a1:D)(S:b8):Prop:=
 b7 (i4 .eql a1 (.int .i64 0)) fun v0=>
 b7 (f9 (d6 v0 false) (some a1)) fun v1=>
 b7 (f9 (d6 v0 false) (some a0)) fun v2=>
 b7 (f9 (d6 v0 false) (i4 .eql v1 v2)) fun v3=>
 b7 (q9 v0 (.bool true) v3) fun v4=>
 Q v4 S
theorem b1F{E:j2}{w0:j9}{Q:D→b8→Prop}{a0 a1:D}{S:b8}(h:a7D E w0 (d9 E Q) a0 a1 S):j8 Tryz.prog E w0 C0 [a0,a1] S Q:=
 j0 b5R b4T b5W (fn:=Tryz.f46) (c:=Tryz.f46.body.getD .skip) mixed Tryz.func46 (by kernel_rfl) (by kernel_rfl) h
def a8K:List (Nat×List Nat):=[]
def a9g:List (Nat×List Nat):=[]
def a8B:List (Nat×O6):=[]
def a3B(E:j2)(w0:j9)(Q:D→b8→Prop)(a0 a1:D)(S:b8):Prop:=
 j8 Tryz.prog E w0 a2b [a0,a1] S fun v0 S1=>
 b7 (i4 .geq v0 (.int .i64 0)) fun v2=>
 Q v2 S1
theorem a7u{E:j2}{w0:j9}{Q:D→b8→Prop}{a0 a1:D}{S:b8}(h:a3B E w0 (d9 E Q) a0 a1 S):j8 Tryz.prog E w0 E3 [a0,a1] S Q:=
 j0 a8K a9g a8B (fn:=Tryz.f47) (c:=Tryz.f47.body.getD .skip) mixed Tryz.func47 (by kernel_rfl) (by kernel_rfl) h
def a1x:List (Nat×List Nat):=[(4,[0,1,7,8])]
def a1o:List (Nat×List Nat):=[]
def a1G:List (Nat×O6):=[]
noncomputable def a0R:Code:=(j7 [1,0,1,0,0] (Tryz.f71.body.getD .skip))
def a0Q(E:j2)(w0:j9)(Q:D→b8→Prop):o8→List D→b8→Prop:=
 (q8 0 (H4 Tryz.prog E w0 a1x a1o a1G (j7 [1,1] (Tryz.f71.body.getD .skip)) (F5 Tryz.prog Tryz.f71 Q)))
def a0I(E:j2)(w0:j9)(N0:D→D→D→D→b8→Prop)(Q:D→b8→Prop)(x0 x1 x7 x8:D)(S:b8):Prop:=
 b7 (i4 .lss x8 x7) fun v1=>
 i6 v1
 (b7 (o6 1 x0 x8) fun v2=>
 b7 (c9 S v2) fun v3=>
 b7 (b8j .eql (d5A x1 v3)) fun v4=>
 i6 v4
 (Q x8 S)
 (b7 (i4 .add x8 (.int .i64 1)) fun v5=>
 N0 x0 x1 x7 v5 S))
 (Q (.int .i64 (-1)) S)
theorem a8k{E:j2}{w0:j9}{N0:D→D→D→D→b8→Prop}{Q:D→b8→Prop}{x0 x1 x7 x8:D}{S:b8}(h:a0I E w0 N0 Q x0 x1 x7 x8 S):
  j1 Tryz.prog E w0 a0R (m6 19 [0,1,7,8] [x0,x1,x7,x8]) S (B0 (fun T S=>N0 (T.getD 0 b9) (T.getD 1 b9) (T.getD 7 b9) (T.getD 8 b9) S) (a0Q E w0 Q)):=j3 a1x a1o a1G mixed (by kernel_rfl) h
theorem a8u{E:j2}{w0:j9}{Q:D→b8→Prop}(I:Nat→D→D→D→D→b8→Prop)
  (step:∀n x0 x1 x7 x8 S,I n x0 x1 x7 x8 S→a0I E w0 (fun x0 x1 x7 x8 S=>∃m,m<n∧I m x0 x1 x7 x8 S) Q x0 x1 x7 x8 S)
  {n:Nat} {x0 x1 x7 x8:D} {S:b8} (h:I n x0 x1 x7 x8 S):j1 Tryz.prog E w0 (.loop a0R) (m6 19 [0,1,7,8] [x0,x1,x7,x8]) S (a0Q E w0 Q):=
 o7 (k:=19) (n:=n) (I:=fun n T S=>I n (T.getD 0 b9) (T.getD 1 b9) (T.getD 7 b9) (T.getD 8 b9) S) (fun n T S hl hI=>p8 [0,1,7,8] hl (j1.mono (a8k (step n _ _ _ _ S hI)) fun ex T' S' _ hq=>by cases ex<;>exact hq)) (m7 ..) (Eq.mp (by kernel_rfl) h)
def a5v(E:j2)(w0:j9)(Q:D→b8→Prop)(a0 a1:D)(S:b8):Prop:=
 b7 (m9 a0) fun v0=>
 j1 Tryz.prog E w0 (.loop a0R) (m6 19 [0,1,7,8] [a0,a1,v0,(.int .i64 0)]) S (a0Q E w0 Q)
theorem a9E{E:j2}{w0:j9}{Q:D→b8→Prop}{a0 a1:D}{S:b8}(h:a5v E w0 (d9 E Q) a0 a1 S):j8 Tryz.prog E w0 a2b [a0,a1] S Q:=
 j0 a1x a1o a1G (fn:=Tryz.f71) (c:=Tryz.f71.body.getD .skip) mixed Tryz.func71 (by kernel_rfl) (by kernel_rfl) h
end Go.Proofs.YtdkidgkiplcggaaGreat.d
end
section
open Go.Proofs Go Go.Am Go.Op
namespace Go.Proofs.YtdkidgkiplcggaaGreat.d
section
set_option linter.unusedSectionVars false
def R6(x y:Int):Int:=if x≠y then 0 else x
def V3(x y:Int):Bool:=decide (y=0)||decide (y=x)
theorem b9j:∀ {a b:List Int},a.length=b.length→(false ∉ List.zipWith V3 a b↔W8 a b)
 | [],[],_=>by simp[W8]
 |x::a,y::b,h=>by
  rw[List.zipWith_cons_cons,List.mem_cons,W8, ←b9j (a:=a) (b:=b) (by simpa using h)]
  unfold V3
  by_cases e1:y=0<;>by_cases e2:y=x<;>simp[e1,e2]
 | [],_::_,h=>by simp at h
 |_::_,[],h=>by simp at h
section
variable{E:j2}{w0:j9}
theorem d2X{x y:Int}:K9 Tryz.prog E w0 B7 [.int .i64 x, .int .i64 y] (.int .i64 (R6 x y)):=fun S=>by
 refine b2x ?_
 unfold a7T R6
 rw[a3s,oD,I6]
 exact⟨fun h=>by rw[if_pos h];exact d9.pure,fun h=>by rw[if_neg h];exact d9.pure⟩
theorem d3h{x y:Int}:K9 Tryz.prog E w0 C0 [.int .i64 x, .int .i64 y] (.bool (V3 x y)):=fun S=>by
 refine b1F ?_
 unfold a7D V3
 rw[Q2,oD]
 by_cases h:y=0
 ·simp only[decide_eq_true h,M4,t1,vdF,oD,M8,if_true,Bool.true_or]
  exact d9.pure
 ·simp only[decide_eq_false h,M4,t2,vdT,oD,Q2,M8,Bool.false_eq_true,if_false,Bool.false_or]
  exact d9.pure
theorem d1u{f:FuncId}(hf:a8p Tryz.prog f=true){S:b8}{args:List D}{K:D→b8→Prop}(h:j8 Tryz.prog E w0 f args S K):a0f Tryz.prog (j8 Tryz.prog E w0) S (.fn (.func f) [] []) args K:=by
 simp only[a0f,a9u,hf,List.nil_append,List.append_nil,if_true]
 exact h
theorem c7T{vs:List D}{i n:Nat}{z v:D}(hi:i<n)(hv:vs.length=i):(B4 (vs++List.replicate (n - i) z)).set i [v]=B4 ((vs++[v])++List.replicate (n - (i+1)) z):=by
 rw[b7f,List.set_append_right _ _ (by omega),hv,Nat.sub_self]
 obtain⟨m,hm⟩:∃m,n - i=m+1:=⟨n - i - 1,by omega⟩
 rw[hm,show n - (i+1)=m by omega,List.replicate_succ,List.set_cons_zero,List.append_assoc]
 rfl
theorem b7T{a b:List Int}(ha:a.length<2^40):K9 Tryz.prog E w0 H6 [iD a,iD b, .fn (.func B7) [] []] (.tup [iD (if a.length=b.length then List.zipWith R6 a b else[]), .bool (decide (a.length=b.length))]):=fun S=>by
 refine b0c ?_
 unfold a5B
 rw[Y7,oD,Y7,oD,a3s,oD,I6]
 refine⟨fun h=> ?_,fun h=> ?_⟩
 ·have h:¬a.length=b.length:=fun e=>h (by rw[e])
  rw[if_neg h,decide_eq_false h]
  exact d9.weak (d':= .tup [iD [], .bool false]) (Wk.tup ⟨Wk.nil 1,Wk.refl _,trivial⟩) d9.pure
 have h:a.length=b.length:=by omega
 rw[if_pos h,decide_eq_true h,oD]
 simp only[a6o]
 rw[if_pos ⟨by omega,by omega,by omega,by omega⟩]
 refine .inr fun k acs hk=> ?_
 simp only[oD]
 rw[Int.toNat_natCast,show List.replicate a.length [D.int .i64 0]=B4 (([]:List D)++List.replicate (a.length - 0) (.int .i64 0)) by simp[B4]]
 have hz:(List.zipWith R6 a b).length=a.length:=by rw[List.length_zipWith];omega
 refine a8x (I:=fun m x0 x1 x2 x8 x19 x20 T=>x0=iD a∧x1=iD b∧x2= .fn (.func B7) [] []∧x8= .raw k 0 a.length a.length true 1∧x19= .int .i64 (a.length:Int)∧∃(i:Nat) (acs:List AV),x20= .int .i64 (i:Int)∧i+m=a.length∧
   T=S.set k ⟨1,B4 (((List.zipWith R6 a b).take i).map (D.int .i64)++List.replicate (a.length - i) (.int .i64 0)),acs⟩) ?_ (n:=a.length) ⟨rfl,rfl,rfl,rfl,rfl,0,acs,rfl,by omega,rfl⟩
 rintro m _ _ _ _ _ _ T ⟨rfl,rfl,rfl,rfl,rfl,i,acs,rfl,hi,rfl⟩
 unfold a0H
 rw[H7,oD,I6]
 refine⟨fun hlt=> ?_,fun hge=> ?_⟩
 ·have hlt':i<a.length:=by omega
  have ea:a[i]? =some a[i]:=List.getElem?_eq_getElem hlt'
  have eb:b[i]? =some b[i]:=List.getElem?_eq_getElem (by omega)
  have ez:(List.zipWith R6 a b)[i]? =some (R6 a[i] b[i]):=by rw[List.getElem?_zipWith,ea,eb]
  generalize a[i]=x at ea ez
  generalize b[i]=y at eb ez
  rw[a7J ea,oD,lsE,List.getElem?_cons_zero,oD,a7J eb,oD,lsE,List.getElem?_cons_zero,oD]
  refine d1u (by kernel_rfl) ?_
  refine(show j8 Tryz.prog E w0 B7 [.int .i64 x, .int .i64 y] _ _ from d2X.use ?_)
  rw[c8P (by omega),oD,Nat.zero_add]
  have htl:((((List.zipWith R6 a b).take i).map (D.int .i64))).length=i:=by rw[List.length_map,List.length_take];omega
  refine stR (b8.set_same _ _ _) (rows:=B4 (((List.zipWith R6 a b).take i).map (D.int .i64)++List.replicate (a.length - i) (.int .i64 0))) (row:=[.int .i64 0]) (a6q (by rw[List.getElem?_append_right (by omega),htl,Nat.sub_self,List.getElem?_replicate,if_pos (by omega)])) (clI _ _) ⟨rfl,by decide,by simp⟩ fun acs'=> ?_
  rw[b8.set_set,show l7 [D.int .i64 0] 0 [.int .i64 (R6 x y)]=[.int .i64 (R6 x y)]from rfl,c7T hlt' htl,D7,oD,l8 (by omega) (by omega)]
  refine⟨m - 1,by omega,by trivial,by trivial,by trivial,by trivial,by trivial,i+1,acs',by simp,by omega, ?_⟩
  rw[List.take_add_one,ez,List.map_append]
  rfl
 ·have:i=a.length:=by omega
  subst this
  rw[List.take_of_length_le (by omega),Nat.sub_self,List.replicate_zero,List.append_nil]
  refine d9.freezeT (lp:=[]) (lq:=[.bool true]) (b8.set_same _ _ _) rfl (by simp;omega) (Nat.le_refl _) ?_
  rw[b8.erase_set _ _ _ hk,List.drop_zero,List.take_of_length_le (by simp;omega)]
  exact d9.here ⟨rfl,rfl⟩
def boD(l:List Bool):D:= .lst (B4 (l.map .bool)) 1
theorem b4L{a b:List Int}(ha:a.length<2^40):K9 Tryz.prog E w0 D1 [iD a,iD b, .fn (.func C0) [] []] (.tup [boD (if a.length=b.length then List.zipWith V3 a b else[]), .bool (decide (a.length=b.length))]):=fun S=>by
 refine a5P ?_
 unfold a2p
 rw[Y7,oD,Y7,oD,a3s,oD,I6]
 refine⟨fun h=> ?_,fun h=> ?_⟩
 ·have h:¬a.length=b.length:=fun e=>h (by rw[e])
  rw[if_neg h,decide_eq_false h]
  exact d9.weak (d':= .tup [boD [], .bool false]) (Wk.tup ⟨Wk.nil 1,Wk.refl _,trivial⟩) d9.pure
 have h:a.length=b.length:=by omega
 rw[if_pos h,decide_eq_true h,oD]
 simp only[a6o]
 rw[if_pos ⟨by omega,by omega,by omega,by omega⟩]
 refine .inr fun k acs hk=> ?_
 simp only[oD]
 rw[Int.toNat_natCast,show List.replicate a.length [D.bool false]=B4 (([]:List D)++List.replicate (a.length - 0) (.bool false)) by simp[B4]]
 have hz:(List.zipWith V3 a b).length=a.length:=by rw[List.length_zipWith];omega
 refine a4R (I:=fun m x0 x1 x2 x8 x19 x20 T=>x0=iD a∧x1=iD b∧x2= .fn (.func C0) [] []∧x8= .raw k 0 a.length a.length true 1∧x19= .int .i64 (a.length:Int)∧∃(i:Nat) (acs:List AV),x20= .int .i64 (i:Int)∧i+m=a.length∧
   T=S.set k ⟨1,B4 (((List.zipWith V3 a b).take i).map D.bool++List.replicate (a.length - i) (.bool false)),acs⟩) ?_ (n:=a.length) ⟨rfl,rfl,rfl,rfl,rfl,0,acs,rfl,by omega,rfl⟩
 rintro m _ _ _ _ _ _ T ⟨rfl,rfl,rfl,rfl,rfl,i,acs,rfl,hi,rfl⟩
 unfold P1
 rw[H7,oD,I6]
 refine⟨fun hlt=> ?_,fun hge=> ?_⟩
 ·have hlt':i<a.length:=by omega
  have ea:a[i]? =some a[i]:=List.getElem?_eq_getElem hlt'
  have eb:b[i]? =some b[i]:=List.getElem?_eq_getElem (by omega)
  have ez:(List.zipWith V3 a b)[i]? =some (V3 a[i] b[i]):=by rw[List.getElem?_zipWith,ea,eb]
  generalize a[i]=x at ea ez
  generalize b[i]=y at eb ez
  rw[a7J ea,oD,lsE,List.getElem?_cons_zero,oD,a7J eb,oD,lsE,List.getElem?_cons_zero,oD]
  refine d1u (by kernel_rfl) ?_
  refine(show j8 Tryz.prog E w0 C0 [.int .i64 x, .int .i64 y] _ _ from d3h.use ?_)
  rw[c8P (by omega),oD,Nat.zero_add]
  have htl:((((List.zipWith V3 a b).take i).map D.bool)).length=i:=by rw[List.length_map,List.length_take];omega
  refine stR (b8.set_same _ _ _) (rows:=B4 (((List.zipWith V3 a b).take i).map D.bool++List.replicate (a.length - i) (.bool false))) (row:=[.bool false]) (a6q (by rw[List.getElem?_append_right (by omega),htl,Nat.sub_self,List.getElem?_replicate,if_pos (by omega)])) (clB _) ⟨rfl,by decide,by simp⟩ fun acs'=> ?_
  rw[b8.set_set,show l7 [D.bool false] 0 [.bool (V3 x y)]=[.bool (V3 x y)]from rfl,c7T hlt' htl,D7,oD,l8 (by omega) (by omega)]
  refine⟨m - 1,by omega,by trivial,by trivial,by trivial,by trivial,by trivial,i+1,acs',by simp,by omega, ?_⟩
  rw[List.take_add_one,ez,List.map_append]
  rfl
 ·have:i=a.length:=by omega
  subst this
  rw[List.take_of_length_le (by omega),Nat.sub_self,List.replicate_zero,List.append_nil]
  refine d9.freezeT (lp:=[]) (lq:=[.bool true]) (b8.set_same _ _ _) rfl (by simp;omega) (Nat.le_refl _) ?_
  rw[b8.erase_set _ _ _ hk,List.drop_zero,List.take_of_length_le (by simp;omega)]
  exact d9.here ⟨rfl,rfl⟩
theorem b1K{l:List Bool}(hl:l.length<2^40):K9 Tryz.prog E w0 E3 [boD l, .bool false] (.bool (decide (false∈l))):=fun S=>by
 refine a7u ?_
 unfold a3B
 have hln:m9 (boD l)=some (.int .i64 l.length):=by simp[boD]
 refine j8.use (show j8 Tryz.prog E w0 a2b [boD l, .bool false] S fun d S'=>S'=S∧∃r:Int,d= .int .i64 r∧(0≤r↔false∈l) from ?_) ?_
 ·refine a9E ?_
  unfold a5v
  rw[hln,oD]
  refine a8u (I:=fun n x0 x1 x7 x8 T=>T=S∧x0=boD l∧x1= .bool false∧x7= .int .i64 (l.length:Int)∧∃i:Nat,x8= .int .i64 (i:Int)∧i+n=l.length∧false ∉ l.take i) ?_ (n:=l.length) ⟨rfl,rfl,rfl,rfl,0,rfl,by omega,by simp⟩
  rintro n _ _ _ _ T ⟨hT,rfl,rfl,rfl,i,rfl,hi,ht⟩
  subst hT
  unfold a0I
  rw[H7,oD,I6]
  refine⟨fun hlt=> ?_,fun hge=> ?_⟩
  ·have hlt':i<l.length:=by omega
   have ea:l[i]? =some l[i]:=List.getElem?_eq_getElem hlt'
   generalize l[i]=x at ea
   have hix:o6 1 (boD l) (.int .i64 (i:Int))=some (.elt [.bool x] 0):=b1X (a6q (by rw[List.getElem?_map,ea];rfl))
   rw[hix,oD,lsE,List.getElem?_cons_zero,oD,d8U,eqE,oD]
   cases x with
   |false=>exact d9.here ⟨rfl,(i:Int),rfl,⟨fun _=>List.mem_of_getElem? ea,fun _=>by omega⟩⟩
   |true=>
    show i6 (.bool false) _ _
    rw[cdF,D7,oD,l8 (by omega) (by omega)]
    refine⟨n - 1,by omega,rfl,rfl,rfl,rfl,i+1,by simp,by omega, ?_⟩
    rw[List.take_add_one,ea]
    simpa using ht
  ·rw[List.take_of_length_le (by omega)]at ht
   exact d9.here ⟨rfl, -1,rfl,⟨fun h=>by omega,fun h=>absurd h ht⟩⟩
 ·rintro d S' ⟨rfl,r,rfl,hr⟩
  rw[a8S,oD]
  have:decide (r≥0)=decide (false∈l):=by
   by_cases h:false∈l
   ·rw[decide_eq_true h,decide_eq_true (hr.2 h)]
   ·rw[decide_eq_false h,decide_eq_false (fun h'=>h (hr.1 h'))]
  rw[this]
  exact d9.pure
end
end
section
theorem Mo.Small.fits{m:Mo}{N:Nat}(hm:m.Ok)(h:m.Small N)(hN:N<2^30):m.Fits:=
 ⟨hm,by have:=h.types;omega,by have:=h.texts;omega,by have:=h.funcs;omega,fun t ht=>by have:=h.fields t ht;omega,fun r hr=>by have:=h.params r hr;omega⟩
end
end Go.Proofs.YtdkidgkiplcggaaGreat.d
end
section
open Go.Proofs Go Go.Am
namespace Go.Proofs.YtdkidgkiplcggaaGreat.d
def c2v:List (Nat×List Nat):=[]
def c3G:List (Nat×List Nat):=[]
def c1Q:List (Nat×O6):=[]
def b4G(E:j2)(w0:j9)(Q:D→b8→Prop)(a0 a1:D)(S:b8):Prop:=
 b7 (o3 a0) fun cs=>j6 S cs fun v0 S1=>
 b7 (o3 a1) fun cs=>j6 S1 cs fun v2 S3=>
 b7 (i5 S3 3 v0) fun v4=>
 j8 Tryz.prog E w0 b0s [v4,(.int .i64 10000)] S3 fun v5 S6=>
 b7 (i4 .gtr v5 (.int .i64 10000)) fun v7=>
 b7 (f9 (d6 v7 false) (j4 0 v2)) fun v8=>
 b7 (f9 (d6 v7 false) (c9 S6 v8)) fun v9=>
 b7 (f9 (d6 v7 false) (m9 v9)) fun v10=>
 b7 (f9 (d6 v7 false) (i4 .gtr v10 (.int .i64 2000))) fun v11=>
 b7 (q9 v7 (.bool true) v11) fun v12=>
 b7 (f9 (d6 v12 false) (j4 1 v2)) fun v13=>
 b7 (f9 (d6 v12 false) (c9 S6 v13)) fun v14=>
 b7 (f9 (d6 v12 false) (m9 v14)) fun v15=>
 b7 (f9 (d6 v12 false) (i4 .gtr v15 (.int .i64 2000))) fun v16=>
 b7 (q9 v12 (.bool true) v16) fun v17=>
 Q v17 S6
theorem b8m{E:j2}{w0:j9}{Q:D→b8→Prop}{a0 a1:D}{S:b8}(h:b4G E w0 (d9 E Q) a0 a1 S):j8 Tryz.prog E w0 a4v [a0,a1] S Q:=
 j0 c2v c3G c1Q (fn:=Tryz.f5) (c:=Tryz.f5.body.getD .skip) mixed Tryz.func5 (by kernel_rfl) (by kernel_rfl) h
def c1h:List (Nat×List Nat):=[]
def c1g:List (Nat×List Nat):=[]
def c1b:List (Nat×O6):=[]
def b2L(E:j2)(w0:j9)(Q:D→b8→Prop)(a0:D)(S:b8):Prop:=
 j6 S [.nilSlc, .nilSlc, .nilSlc] fun v0 S1=>
 r9 S1 1 (m8 1 (List.replicate 2 [(.int .i64 0)]) [(0,(.int .i64 1)),(1,(.int .i64 5))]) 2 fun v2 S3=>
 r9 S3 1 (m8 1 (List.replicate 1 [(.int .i64 0)]) [(0,(.int .i64 4))]) 1 fun v4 S5=>
 b7 (E1 (r6 [(.str []), .nilSlc, .nilSlc,(.int .i64 0),(.int .i64 0), .nilSlc] [(0,1,(.str [102])),(1,1,v2),(2,1,v4),(3,1,(.int .i64 3)),(4,1,(.int .i64 2)),(5,1,a0)])) fun v6=>
 r9 S5 6 (m8 6 (List.replicate 1 [(.str []), .nilSlc, .nilSlc,(.int .i64 0),(.int .i64 0), .nilSlc]) [(0,v6)]) 1 fun v7 S8=>
 b7 (E1 (r6 [.nilSlc, .nilSlc, .nilSlc] [(2,1,v7)])) fun v9=>
 i7 S8 3 v0 v9 fun v10 S11=>
 b7 (i5 S11 3 v0) fun v12=>Q v12 S11
theorem b7V{E:j2}{w0:j9}{Q:D→b8→Prop}{a0:D}{S:b8}(h:b2L E w0 (d9 E Q) a0 S):j8 Tryz.prog E w0 a3d [a0] S Q:=
 j0 c1h c1g c1b (fn:=Tryz.f21) (c:=Tryz.f21.body.getD .skip) mixed Tryz.func21 (by kernel_rfl) (by kernel_rfl) h
def c3e:List (Nat×List Nat):=[]
def c2w:List (Nat×List Nat):=[]
def c1M:List (Nat×O6):=[]
def b4J(E:j2)(w0:j9)(Q:D→b8→Prop)(S:b8):Prop:=
 r9 S 1 (m8 1 (List.replicate 2 [(.int .u8 0)]) [(0,(.int .u8 4)),(1,(.int .u8 51))]) 2 fun v0 S1=>
 j8 Tryz.prog E w0 a3d [v0] S1 fun v2 S3=>
 j6 S3 [.nilSlc, .nilSlc, .nilSlc] fun v4 S5=>
 i7 S5 3 v4 v2 fun v6 S7=>
 b7 (i5 S7 3 v4) fun v8=>
 j8 Tryz.prog E w0 O5 [v8,(.int .i64 0)] S7 fun v9 S10=>
 b7 (j5 v9 0) fun v11=>
 b7 (j5 v9 1) fun v12=>
 j6 S10 [.nilSlc, .nilSlc] fun v13 S14=>
 i7 S14 2 v13 v11 fun v15 S16=>
 b7 (i5 S16 3 v4) fun v17=>
 b7 (i5 S16 2 v13) fun v18=>
 j8 Tryz.prog E w0 I0 [v17,(.int .i64 0),(.int .i64 0),v18] S16 fun v19 S20=>
 b7 (j5 v19 0) fun v21=>
 b7 (j5 v19 1) fun v22=>
 b7 (i4 .eql v12 (.int .i64 0)) fun v23=>
 b7 (f9 (d6 v23 true) (some v22)) fun v24=>
 b7 (f9 (d6 v23 true) (i4 .eql v24 (.int .i64 0))) fun v25=>
 b7 (q9 v23 v25 (.bool false)) fun v26=>
 b7 (f9 (d6 v26 true) (some v21)) fun v27=>
 b7 (f9 (d6 v26 true) (m9 v27)) fun v28=>
 b7 (f9 (d6 v26 true) (i4 .eql v28 (.int .i64 1))) fun v29=>
 b7 (q9 v26 v29 (.bool false)) fun v30=>
 b7 (f9 (d6 v30 true) (some v21)) fun v31=>
 b7 (f9 (d6 v30 true) (o6 3 v31 (.int .i64 0))) fun v32=>
 b7 (f9 (d6 v30 true) (j4 0 v32)) fun v33=>
 b7 (f9 (d6 v30 true) (c9 S20 v33)) fun v34=>
 b7 (f9 (d6 v30 true) (i4 .eql v34 (.int .i64 1))) fun v35=>
 b7 (q9 v30 v35 (.bool false)) fun v36=>
 b7 (f9 (d6 v36 true) (some v21)) fun v37=>
 b7 (f9 (d6 v36 true) (o6 3 v37 (.int .i64 0))) fun v38=>
 b7 (f9 (d6 v36 true) (j4 1 v38)) fun v39=>
 b7 (f9 (d6 v36 true) (j4 0 v39)) fun v40=>
 b7 (f9 (d6 v36 true) (c9 S20 v40)) fun v41=>
 Q1 (d6 v36 true) (fun K=>r9 S20 1 (m8 1 (List.replicate 3 [(.int .i64 0)]) [(0,(.int .i64 1)),(1,(.int .i64 5)),(2,(.int .i64 0))]) 3 K) S20 fun v42 S43=>
 Q1 (d6 v36 true) (fun K=>j8 Tryz.prog E w0 Z0 [v41,v42] S43 K) S43 fun v44 S45=>
 b7 (q9 v36 v44 (.bool false)) fun v46=>
 b7 (f9 (d6 v46 true) (some v21)) fun v47=>
 b7 (f9 (d6 v46 true) (o6 3 v47 (.int .i64 0))) fun v48=>
 b7 (f9 (d6 v46 true) (j4 1 v48)) fun v49=>
 b7 (f9 (d6 v46 true) (j4 1 v49)) fun v50=>
 b7 (f9 (d6 v46 true) (c9 S45 v50)) fun v51=>
 Q1 (d6 v46 true) (fun K=>r9 S45 1 (m8 1 (List.replicate 1 [(.int .i64 0)]) [(0,(.int .i64 4))]) 1 K) S45 fun v52 S53=>
 Q1 (d6 v46 true) (fun K=>j8 Tryz.prog E w0 Z0 [v51,v52] S53 K) S53 fun v54 S55=>
 b7 (q9 v46 v54 (.bool false)) fun v56=>
 Q v56 S55
theorem b8q{E:j2}{w0:j9}{Q:D→b8→Prop}{S:b8}(h:b4J E w0 (d9 E Q) S):j8 Tryz.prog E w0 O0 [] S Q:=
 j0 c3e c2w c1M (fn:=Tryz.f6) (c:=Tryz.f6.body.getD .skip) mixed Tryz.func6 (by kernel_rfl) (by kernel_rfl) h
def a0l:List (Nat×List Nat):=[(32,[12,14,16])]
def a0n:List (Nat×List Nat):=[]
def a0a:List (Nat×O6):=[]
noncomputable def X5:Code:=(j7 [1,1,1,1,1,1,1,1,1,1,0,1,0,0] (Tryz.f4.body.getD .skip))
def Y6(E:j2)(w0:j9)(Q:D→b8→Prop):o8→List D→b8→Prop:=
 (q8 0 (H4 Tryz.prog E w0 a0l a0n a0a (j7 [1,1,1,1,1,1,1,1,1,1,1] (Tryz.f4.body.getD .skip)) (F5 Tryz.prog Tryz.f4 Q)))
def Y1(E:j2)(w0:j9)(N0:D→D→D→b8→Prop)(Q:D→b8→Prop)(x12 x14 x16:D)(S:b8):Prop:=
 b7 (m9 x12) fun v61=>
 b7 (i4 .lss x16 v61) fun v62=>
 i6 v62
 (b7 (o6 3 x14 x16) fun v63=>
 b7 (j4 0 v63) fun v64=>
 b7 (c9 S v64) fun v65=>
 b7 (o6 3 x12 x16) fun v66=>
 b7 (j4 0 v66) fun v67=>
 b7 (c9 S v67) fun v68=>
 b7 (i4 .neq v65 v68) fun v69=>
 b7 (f9 (d6 v69 false) (some x14)) fun v70=>
 b7 (f9 (d6 v69 false) (some x16)) fun v71=>
 b7 (f9 (d6 v69 false) (o6 3 v70 v71)) fun v72=>
 b7 (f9 (d6 v69 false) (j4 1 v72)) fun v73=>
 b7 (f9 (d6 v69 false) (i5 S 2 v73)) fun v74=>
 b7 (f9 (d6 v69 false) (some x12)) fun v75=>
 b7 (f9 (d6 v69 false) (some x16)) fun v76=>
 b7 (f9 (d6 v69 false) (o6 3 v75 v76)) fun v77=>
 b7 (f9 (d6 v69 false) (j4 1 v77)) fun v78=>
 b7 (f9 (d6 v69 false) (i5 S 2 v78)) fun v79=>
 Q1 (d6 v69 false) (fun K=>j8 Tryz.prog E w0 a2s [v74,v79] S K) S fun v80 S81=>
 b7 (f9 (d6 v69 false) (unD .not v80)) fun v82=>
 b7 (q9 v69 (.bool true) v82) fun v83=>
 i6 v83
 (Q (.bool false) S81)
 (b7 (i4 .add x16 (.int .i64 1)) fun v84=>
 N0 x12 x14 v84 S81))
 (j8 Tryz.prog E w0 O0 [] S fun v85 S86=>
 Q v85 S86)
theorem a6c{E:j2}{w0:j9}{N0:D→D→D→b8→Prop}{Q:D→b8→Prop}{x12 x14 x16:D}{S:b8}(h:Y1 E w0 N0 Q x12 x14 x16 S):
  j1 Tryz.prog E w0 X5 (m6 102 [12,14,16] [x12,x14,x16]) S (B0 (fun T S=>N0 (T.getD 12 b9) (T.getD 14 b9) (T.getD 16 b9) S) (Y6 E w0 Q)):=j3 a0l a0n a0a mixed (by kernel_rfl) h
theorem a6b{E:j2}{w0:j9}{Q:D→b8→Prop}(I:Nat→D→D→D→b8→Prop)
  (step:∀n x12 x14 x16 S,I n x12 x14 x16 S→Y1 E w0 (fun x12 x14 x16 S=>∃m,m<n∧I m x12 x14 x16 S) Q x12 x14 x16 S)
  {n:Nat} {x12 x14 x16:D} {S:b8} (h:I n x12 x14 x16 S):j1 Tryz.prog E w0 (.loop X5) (m6 102 [12,14,16] [x12,x14,x16]) S (Y6 E w0 Q):=
 o7 (k:=102) (n:=n) (I:=fun n T S=>I n (T.getD 12 b9) (T.getD 14 b9) (T.getD 16 b9) S) (fun n T S hl hI=>p8 [12,14,16] hl (j1.mono (a6c (step n _ _ _ S hI)) fun ex T' S' _ hq=>by cases ex<;>exact hq)) (m7 ..) (Eq.mp (by kernel_rfl) h)
def a3M(E:j2)(w0:j9)(Q:D→b8→Prop)(a0 a1 a2 a3:D)(S:b8):Prop:=
 b7 (o3 a0) fun cs=>j6 S cs fun v0 S1=>
 b7 (o3 a3) fun cs=>j6 S1 cs fun v2 S3=>
 b7 (b4S 2 2 v2 (.int .i64 0)) fun v4=>
 b7 (i5 S3 2 v4) fun v5=>
 j6 S3 [.nilSlc, .nilSlc] fun v6 S7=>
 i7 S7 2 v6 v5 fun v8 S9=>
 b7 (i5 S9 3 v0) fun v10=>
 b7 (i5 S9 2 v6) fun v11=>
 j8 Tryz.prog E w0 a4v [v10,v11] S9 fun v12 S13=>
 b7 (f9 (d6 v12 false) (i5 S13 3 v0)) fun v14=>
 b7 (f9 (d6 v12 false) (b4S 2 2 v2 (.int .i64 1))) fun v15=>
 b7 (f9 (d6 v12 false) (i5 S13 2 v15)) fun v16=>
 Q1 (d6 v12 false) (fun K=>j8 Tryz.prog E w0 a4v [v14,v16] S13 K) S13 fun v17 S18=>
 b7 (q9 v12 (.bool true) v17) fun v19=>
 i6 v19
 (j8 Tryz.prog E w0 O0 [] S18 fun v20 S21=>
 Q v20 S21)
 (b7 (i5 S18 2 v6) fun v22=>
 b7 (b4S 2 2 v2 (.int .i64 1)) fun v23=>
 b7 (i5 S18 2 v23) fun v24=>
 j8 Tryz.prog E w0 a2r [v22,v24] S18 fun v25 S26=>
 b7 (j5 v25 0) fun v27=>
 b7 (j5 v25 1) fun v28=>
 j6 S26 [.nilSlc, .nilSlc] fun v29 S30=>
 i7 S30 2 v29 v27 fun v31 S32=>
 b7 (unD .not v28) fun v33=>
 i6 v33
 (j8 Tryz.prog E w0 O0 [] S32 fun v34 S35=>
 Q v34 S35)
 (b7 (i5 S32 3 v0) fun v36=>
 b7 (i5 S32 2 v29) fun v37=>
 j8 Tryz.prog E w0 I0 [v36,a1,a2,v37] S32 fun v38 S39=>
 b7 (j5 v38 0) fun v40=>
 b7 (j5 v38 1) fun v41=>
 b7 (i5 S39 3 v0) fun v42=>
 b7 (i5 S39 2 v6) fun v43=>
 j8 Tryz.prog E w0 I0 [v42,a1,a2,v43] S39 fun v44 S45=>
 b7 (j5 v44 0) fun v46=>
 b7 (j5 v44 1) fun v47=>
 b7 (i4 .neq v41 (.int .i64 0)) fun v48=>
 i6 v48
 (j8 Tryz.prog E w0 O0 [] S45 fun v49 S50=>
 Q v49 S50)
 (b7 (i4 .eql v47 (.int .i64 2)) fun v51=>
 i6 v51
 (j8 Tryz.prog E w0 O0 [] S45 fun v52 S53=>
 Q v52 S53)
 (b7 (i4 .neq v47 (.int .i64 0)) fun v54=>
 b7 (f9 (d6 v54 false) (some v46)) fun v55=>
 b7 (f9 (d6 v54 false) (m9 v55)) fun v56=>
 b7 (f9 (d6 v54 false) (some v40)) fun v57=>
 b7 (f9 (d6 v54 false) (m9 v57)) fun v58=>
 b7 (f9 (d6 v54 false) (i4 .neq v56 v58)) fun v59=>
 b7 (q9 v54 (.bool true) v59) fun v60=>
 i6 v60
 (Q (.bool false) S45)
 (j1 Tryz.prog E w0 (.loop X5) (m6 102 [12,14,16] [v40,v46,(.int .i64 0)]) S45 (Y6 E w0 Q))))))
theorem a8f{E:j2}{w0:j9}{Q:D→b8→Prop}{a0 a1 a2 a3:D}{S:b8}(h:a3M E w0 (d9 E Q) a0 a1 a2 a3 S):j8 Tryz.prog E w0 a3V [a0,a1,a2,a3] S Q:=
 j0 a0l a0n a0a (fn:=Tryz.f4) (c:=Tryz.f4.body.getD .skip) mixed Tryz.func4 (by kernel_rfl) (by kernel_rfl) h
end Go.Proofs.YtdkidgkiplcggaaGreat.d
end
section
open Go.Proofs Go Go.Am Go.Op
namespace Go.Proofs.YtdkidgkiplcggaaGreat.d
set_option linter.unusedSectionVars false
def c9C(a:Int):List Int→List Int
 | []=>[a]
 |b::l=>if a<b then a::b::l else if a=b then b::l else b::c9C a l
theorem c3f(a:Int):∀(l:List Int) (n:Int),n∈c9C a l↔n=a∨n∈l
 | [],n=>by simp[c9C]
 |b::l,n=>by
  unfold c9C
  by_cases h1:a<b
  ·rw[if_pos h1];simp
  rw[if_neg h1]
  by_cases h2:a=b
  ·rw[if_pos h2];subst h2;simp
  rw[if_neg h2,List.mem_cons,c3f a l n,List.mem_cons]
  constructor
  ·rintro(h|h|h)
   ·exact .inr (.inl h)
   ·exact .inl h
   ·exact .inr (.inr h)
  ·rintro(h|h|h)
   ·exact .inr (.inl h)
   ·exact .inl h
   ·exact .inr (.inr h)
theorem c3j(a:Int):∀(l:List Int),l.Pairwise (· < ·)→(c9C a l).Pairwise (· < ·)
 | [],_=>List.pairwise_singleton _ _
 |b::l,h=>by
  obtain⟨h0,h3⟩:=List.pairwise_cons.1 h
  unfold c9C
  by_cases h1:a<b
  ·rw[if_pos h1]
   refine List.pairwise_cons.2 ⟨fun n hn=> ?_,h⟩
   rcases List.mem_cons.1 hn with rfl|hn
   ·exact h1
   ·have:=h0 n hn;omega
  rw[if_neg h1]
  by_cases h2:a=b
  ·rw[if_pos h2];exact h
  rw[if_neg h2]
  refine List.pairwise_cons.2 ⟨fun n hn=> ?_,c3j a l h3⟩
  rcases(c3f a l n).1 hn with rfl|hn
  ·omega
  ·exact h0 n hn
def c9b(l:List Int):List Int:=l.foldr c9C []
theorem c1C:∀l:List Int,(c9b l).Pairwise (· < ·)∧∀n,n∈c9b l↔n∈l
 | []=>⟨List.Pairwise.nil,fun n=>Iff.rfl⟩
 |a::l=>by
  obtain⟨h1,h2⟩:=c1C l
  refine⟨c3j a _ h1,fun n=> ?_⟩
  show n∈c9C a (c9b l)↔_
  rw[c3f,h2,List.mem_cons]
theorem d6A(l:List Int):c7L l=c9b l:=c5g (c1o l).1 (c1C l).1 fun n=>by rw[(c1o l).2,(c1C l).2]
def c7y(y:In)(next:Int):List Int:=
 if y.op=51∨y.op=52 then[]else if y.op=46 then[y.a]else c9b (if y.op=47∨y.op=48 then[next,y.a]else if y.op=49 then y.b::y.arms.map (·.2) else[next])
theorem d5v(y:In)(next:Int):a0N y next=c7y y next:=by unfold a0N c7y;rw[d6A]
def c1m(m:Mo)(r:Ro)(y:In)(next:Int)(f:Fr):List (Int×Fr)×Int:=
 if(doS m r y f).2≠0 then([],(doS m r y f).2)
 else if(c7y y next).all (fun t=>decide (t∈b6F r)) then((c7y y next).map fun t=>(t,(doS m r y f).1),0) else([],190)
theorem d3S(m:Mo)(r:Ro)(y:In)(next:Int)(f:Fr):a9A m r y next f=c1m m r y next f:=by unfold a9A c1m;rw[d5v]
def d6u(m:Mo)(fn at':Int)(f:Fr):List (Int×Fr)×Int:=
 if(F3 m fn).2≠0 then([],(F3 m fn).2) else match m.funcs[fn.toNat]? with
  |some r=>if b1A m r f=false then([],2) else match (b6F r).findIdx? (fun p=>decide (p=at')) with
   |none=>([],190)
   |some i=>match (c2E r)[i]? with
    |some y=>c1m m r y (b1d r i) f
    |none=>([],190)
  |none=>([],4)
theorem d7f(m:Mo)(fn at':Int)(f:Fr):W3 m fn at' f=d6u m fn at' f:=by
 unfold W3 d6u
 by_cases h:(F3 m fn).2≠0
 ·rw[if_pos h,if_pos h]
 rw[if_neg h,if_neg h]
 cases m.funcs[fn.toNat]? with
 |none=>rfl
 |some r=>
  show b7x m r at' f=_
  unfold b7x
  show _=if b1A m r f=false then _ else _
  by_cases h:b1A m r f=false
  ·rw[if_pos h,if_pos h]
  rw[if_neg h,if_neg h]
  cases (b6F r).findIdx? (fun p=>decide (p=at')) with
  |none=>rfl
  |some i=>
   show(match (c2E r)[i]? with|some y=>a9A m r y (b1d r i) f|none=>([],190))=(match (c2E r)[i]? with|some y=>c1m m r y (b1d r i) f|none=>([],190))
   cases (c2E r)[i]? with
   |none=>rfl
   |some y=>exact d3S _ _ _ _ _
def a9x(code:List Int):Ro:=⟨[102],[1,5],[4],3,2,code⟩
def a8g(code:List Int):Mo:=⟨[],[],[a9x code]⟩
theorem d2i{code:List Int}(hb:∀b∈code,a1m b)(hl:code.length<1000):(a8g code).Fits:=by
 have hro:(a9x code).Ok:=by
  constructor
  ·simp[a9x]
  ·simp[a9x]
  ·simp[a9x]
  ·simp[a9x,I64]
  ·simp[a9x,I64]
  ·simp[a9x,I64]
  ·simp only[a9x];omega
  ·exact hb
 refine⟨⟨by simp[a8g],by simp[a8g],by simp[a8g], ?_, ?_, ?_⟩,by simp[a8g],by simp[a8g],by simp[a8g], ?_, ?_⟩
 ·intro t h;cases h
 ·intro t h;cases h
 ·intro r h;rcases List.mem_singleton.1 h with rfl;exact hro
 ·intro t h;cases h
 ·intro r h
  rcases List.mem_singleton.1 h with rfl
  refine⟨by simp[a9x],by simp[a9x], ?_⟩
  show code.length<_
  omega
section
variable{E:j2}{w0:j9}
theorem c0y{code:List Int}:K9 Tryz.prog E w0 a3d [bD code] (moD (a8g code)):=fun S=>by
 refine b7V ?_
 unfold b2L
 intro k a n
 rw[show m8 1 (List.replicate 2 [D.int .i64 0]) [(0, .int .i64 1),(1, .int .i64 5)]=some (iC [1,5]) from rfl]
 refine G6 rfl ?_
 rw[show m8 1 (List.replicate 1 [D.int .i64 0]) [(0, .int .i64 4)]=some (iC [4]) from rfl]
 refine G6 rfl ?_
 rw[show r6 [.str [], .nilSlc, .nilSlc, .int .i64 0, .int .i64 0, .nilSlc] [(0,1, .str [102]),(1,1,D.lst (iC [1,5]) 1),(2,1, .lst (iC [4]) 1),(3,1, .int .i64 3),(4,1, .int .i64 2),(5,1,bD code)]=some (L8 (a9x code)) from rfl,agS,oD,
  show m8 6 (List.replicate 1 [D.str [], .nilSlc, .nilSlc, .int .i64 0, .int .i64 0, .nilSlc]) [(0, .agg (L8 (a9x code)))]=some [L8 (a9x code)]from rfl]
 refine G6 rfl ?_
 rw[show r6 [D.nilSlc, .nilSlc, .nilSlc] [(2,1, .lst [L8 (a9x code)] 6)]=some [.nilSlc, .nilSlc, .lst [L8 (a9x code)] 6]from rfl,agS,oD]
 refine(u9.new (sz:=3) (c:=[.nilSlc, .nilSlc, .nilSlc])).st (ds:=[.nilSlc, .nilSlc, .lst [L8 (a9x code)] 6]) (U9 _) ⟨rfl,by decide,by decide⟩ fun c'=> ?_
 rw[b8.set_set]
 have ck:u9 (S.set k ⟨3,[l7 [D.nilSlc, .nilSlc, .nilSlc] 0 [.nilSlc, .nilSlc, .lst [L8 (a9x code)] 6]],c'⟩) k 3 [.nilSlc, .nilSlc, .lst [L8 (a9x code)] 6]:=u9.new
 rw[ck.all (n:=3) (by decide) rfl,oD]
 refine d9.less (b8.le_new n) (d9.weak (d':=moD (a8g code)) (Wk.agg ⟨Wk.nil _,Wk.nil _,Wk.refl _,trivial⟩) (d9.here ⟨rfl,rfl⟩))
theorem b2F{m:Mo}(hm:m.Ok){f:Fr}{S:b8}:j8 Tryz.prog E w0 a4v [moD m,frD f] S fun d S'=>S'=S∧∃b:Bool,d= .bool b∧(b=false→m.Small 10000∧f.locals.length≤2000∧f.stack.length≤2000):=by
 refine b8m ?_
 unfold b4G
 refine d4u fun ka a na=> ?_
 have ca:u9 (S.set ka ⟨3,[M3 m],a⟩) ka 3 (M3 m):=u9.new
 have l1:S.le (S.set ka ⟨3,[M3 m],a⟩):=b8.le_new na
 generalize (S.set ka ⟨3,[M3 m],a⟩)=T at ca l1
 refine b4A fun kf b nb=> ?_
 have ca:=ca.set (o:=⟨2,[H9 f],b⟩) nb
 have cf:u9 (T.set kf ⟨2,[H9 f],b⟩) kf 2 (H9 f):=u9.new
 have l1:=b8.le_trans l1 (b8.le_new (o:=⟨2,[H9 f],b⟩) nb)
 generalize (T.set kf ⟨2,[H9 f],b⟩)=T at ca cf l1
 rw[ca.all (n:=3) (by decide) rfl,oD]
 refine j8.use (show j8 Tryz.prog E w0 b0s [moD m, .int .i64 10000] T _ from c9A hm (N:=10000) (by decide)) ?_
 rintro d S' ⟨rfl,bk,rfl,hbk⟩
 have f0:c9 S' (.ptr kf 0)=some (iD f.locals):=cf.ld 0
 have f1:c9 S' (.ptr kf 1)=some (iD f.stack):=cf.ld 1
 rw[a7w,oD]
 by_cases c1:bk>10000
 ·simp only[decide_eq_true c1,M4,t1,vdF,oD,M8,if_true]
  exact d9.less l1 (d9.here ⟨rfl,true,rfl,fun h=>by cases h⟩)
 simp only[decide_eq_false c1,M4,t2,vdT,oD,E2,Nat.zero_add,f0,Y7,a7w,M8,Bool.false_eq_true,if_false]
 by_cases c2:(f.locals.length:Int)>2000
 ·simp only[decide_eq_true c2,M4,t1,vdF,oD,M8,if_true]
  exact d9.less l1 (d9.here ⟨rfl,true,rfl,fun h=>by cases h⟩)
 simp only[decide_eq_false c2,M4,t2,vdT,oD,E2,Nat.zero_add,f1,Y7,a7w,M8,Bool.false_eq_true,if_false]
 refine d9.less l1 (d9.here ⟨rfl,_,rfl,fun h=>⟨hbk (by simpa using c1),by omega, ?_⟩⟩)
 have:=of_decide_eq_false h
 omega
theorem c9H:K9 Tryz.prog E w0 O0 [] (.bool true):=fun S=>by
 refine b8q ?_
 unfold b4J
 rw[show m8 1 (List.replicate 2 [D.int .u8 0]) [(0, .int .u8 4),(1, .int .u8 51)]=some (B4 ([4,51].map (D.int .u8))) from rfl]
 refine G6 rfl ?_
 refine(show j8 Tryz.prog E w0 a3d [bD [4,51]] S _ from c0y.use ?_)
 intro k a n
 refine(u9.new (sz:=3) (c:=[.nilSlc, .nilSlc, .nilSlc])).st (ds:=M3 (a8g [4,51])) (U9 _) ⟨rfl,by decide,by decide⟩ fun c'=> ?_
 rw[b8.set_set,show l7 [D.nilSlc, .nilSlc, .nilSlc] 0 (M3 (a8g [4,51]))=M3 (a8g [4,51]) from rfl]
 have ck:u9 (S.set k ⟨3,[M3 (a8g [4,51])],c'⟩) k 3 (M3 (a8g [4,51])):=u9.new
 have l1:S.le (S.set k ⟨3,[M3 (a8g [4,51])],c'⟩):=b8.le_new n
 generalize (S.set k ⟨3,[M3 (a8g [4,51])],c'⟩)=T at ck l1
 rw[ck.all (n:=3) (by decide) rfl,oD]
 have hfit:(a8g [4,51]).Fits:=d2i (by simp[a1m]) (by decide)
 refine(show j8 Tryz.prog E w0 O5 [moD (a8g [4,51]), .int .i64 0] T _ from(a7K hfit (by simp[I64])).use ?_)
 have hfst:F3 (a8g [4,51]) 0=(⟨[1,5,0],[]⟩,0):=by kernel_rfl
 have hstp:W3 (a8g [4,51]) 0 0 ⟨[1,5,0],[]⟩=([(1,⟨[1,5,0],[4]⟩)],0):=by rw[d7f];kernel_rfl
 rw[hfst]
 unfold b5o
 simp only[exD,List.getElem?_cons_zero,List.getElem?_cons_succ,oD]
 intro k2 a2 n2
 refine(u9.new (sz:=2) (c:=[.nilSlc, .nilSlc])).st (ds:=H9 ⟨[1,5,0],[]⟩) (U9 _) ⟨rfl,by decide,by decide⟩ fun c2=> ?_
 rw[b8.set_set,show l7 [D.nilSlc, .nilSlc] 0 (H9 ⟨[1,5,0],[]⟩)=H9 ⟨[1,5,0],[]⟩from rfl]
 have ck:=ck.set (o:=⟨2,[H9 ⟨[1,5,0],[]⟩],c2⟩) n2
 have cf:u9 (T.set k2 ⟨2,[H9 ⟨[1,5,0],[]⟩],c2⟩) k2 2 (H9 ⟨[1,5,0],[]⟩):=u9.new
 have l1:=b8.le_trans l1 (b8.le_new (o:=⟨2,[H9 ⟨[1,5,0],[]⟩],c2⟩) n2)
 generalize (T.set k2 ⟨2,[H9 ⟨[1,5,0],[]⟩],c2⟩)=T at ck cf l1
 rw[ck.all (n:=3) (by decide) rfl,oD,cf.all (n:=2) (by decide) rfl,oD]
 refine(show j8 Tryz.prog E w0 I0 [moD (a8g [4,51]), .int .i64 0, .int .i64 0,frD ⟨[1,5,0],[]⟩] T _ from(a4d hfit (by simp[I64]) ⟨by decide,by decide,by simp[I64]⟩).use ?_)
 rw[hstp]
 unfold b6R
 simp only[exD,List.getElem?_cons_zero,List.getElem?_cons_succ,oD,Q2,decide_true,M4,t4,vdT,M8,if_true]
 rw[show m9 (c0P [(1,⟨[1,5,0],[4]⟩)])=some (.int .i64 1) from rfl]
 simp only[oD,Q2,decide_true,M4,t4,vdT,M8,if_true]
 have ei:o6 3 (c0P [(1,⟨[1,5,0],[4]⟩)]) (.int .i64 0)=some (.elt (edR (1,⟨[1,5,0],[4]⟩)) 0):=rfl
 have e0:∀T:b8,c9 T (.elt (edR (1,⟨[1,5,0],[4]⟩)) 0)=some (.int .i64 1):=fun _=>rfl
 have e1:∀T:b8,c9 T (.elt (edR (1,⟨[1,5,0],[4]⟩)) 1)=some (iD [1,5,0]):=fun _=>rfl
 have e2:∀T:b8,c9 T (.elt (edR (1,⟨[1,5,0],[4]⟩)) 2)=some (iD [4]):=fun _=>rfl
 simp only[oD,ofE,Nat.zero_add,Nat.add_zero,ei,e0,e1,Q2,decide_true,M4,t4,vdT,M8,if_true,gdT]
 rw[show m8 1 (List.replicate 3 [D.int .i64 0]) [(0, .int .i64 1),(1, .int .i64 5),(2, .int .i64 0)]=some (iC [1,5,0]) from rfl]
 refine G6 (rows:=iC [1,5,0]) (len:=3) rfl ?_
 refine(show j8 Tryz.prog E w0 Z0 [iD [1,5,0],iD [1,5,0]] T _ from(b1e (by decide) (by decide)).use ?_)
 simp only[oD,ofE,decide_true,M4,t4,vdT,M8,if_true,gdT,Nat.zero_add,Nat.reduceAdd,ei,e2]
 rw[show m8 1 (List.replicate 1 [D.int .i64 0]) [(0, .int .i64 4)]=some (iC [4]) from rfl]
 refine G6 (rows:=iC [4]) (len:=1) rfl ?_
 refine(show j8 Tryz.prog E w0 Z0 [iD [4],iD [4]] T _ from(b1e (by decide) (by decide)).use ?_)
 simp only[oD,decide_true,M8,if_true]
 exact d9.less l1 (d9.here ⟨rfl,rfl⟩)
end
end Go.Proofs.YtdkidgkiplcggaaGreat.d
end
