/- A part of the proof of ImageWrites. -/
import Derived.Test.YtchnpgddpaonhaaGreatRows
import Derived.Test.YtchnpgddpaonhaaGreatWap
import Derived.KernelRfl
import Derived.Test.YtchnpgddpaonhaaGreatWas
set_option linter.unusedVariables false
set_option linter.unusedSimpArgs false
set_option maxRecDepth 100000
section
open Go.Proofs Go Go.Am
namespace Go.Proofs.YtchnpgddpaonhaaGreat.d
variable{E:j6}{w0:World}{x:Bool}{Q:D→b9→Prop}
def a6E:List (Nat×List Nat):=[(8,[0,1,5])]
def a6G:List (Nat×List Nat):=[]
noncomputable def a5i:Code:=(j4 [1,1,0,1,0,0] (Tryz.f59.body.getD .skip))
def a5x(E:j6)(w0:World)(x:Bool)(Q:D→b9→Prop):o6→List D→b9→Prop:=
 (o8 0 (w6 Tryz.prog E w0 x a6E a6G (j4 [1,1,1] (Tryz.f59.body.getD .skip)) (z7 Tryz.prog Tryz.f59 Q)))
def a5k(E:j6)(w0:World)(x:Bool)(N0:D→D→D→b9→Prop)(Q:D→b9→Prop)(x0 x1 x5:D)(S:b9):Prop:=
 b7 (l9 x0) fun v3=>
 b7 (i6 .lss x5 v3) fun v4=>
 j1 v4
 (b7 (p6 1 x0 x5) fun v5=>
 b7 (b8 S v5) fun v6=>(True)∧
 b7 (p6 1 x1 x5) fun v7=>
 b7 (b8 S v7) fun v8=>(True)∧
 b7 (i6 .neq v6 v8) fun v9=>
 j1 v9
 (Q (.bool false) S)
 (b7 (i6 .add x5 (.int .i64 1)) fun v10=>
 N0 x0 x1 v10 S))
 (Q (.bool true) S)
theorem b7L{N0:D→D→D→b9→Prop}{Q:D→b9→Prop}{x0 x1 x5:D}{S:b9}(h:a5k E w0 x N0 Q x0 x1 x5 S):
  j0 Tryz.prog E w0 x a5i (j9 26 [0,1,5] [x0,x1,x5]) S (q8 (fun T S=>N0 (T.getD 0 d9) (T.getD 1 d9) (T.getD 5 d9) S) (a5x E w0 x Q)):=j3 a6E a6G m7 (by kernel_rfl) h
theorem b7H(I:Nat→D→D→D→b9→Prop)
  (step:∀n x0 x1 x5 S,I n x0 x1 x5 S→a5k E w0 x (fun x0 x1 x5 S=>∃m,m<n∧I m x0 x1 x5 S) Q x0 x1 x5 S)
  {n:Nat} {x0 x1 x5:D} {S:b9} (h:I n x0 x1 x5 S):j0 Tryz.prog E w0 x (.loop a5i) (j9 26 [0,1,5] [x0,x1,x5]) S (a5x E w0 x Q):=
 o3 (k:=26) (n:=n) (I:=fun n T S=>I n (T.getD 0 d9) (T.getD 1 d9) (T.getD 5 d9) S) (fun n T S hl hI=>o5 [0,1,5] hl (j0.mono (b7L (step n _ _ _ S hI)) fun ex T' S' _ hq=>by cases ex<;>exact hq)) (l8 ..) (Eq.mp (by kernel_rfl) h)
def b6U(E:j6)(w0:World)(x:Bool)(Q:D→b9→Prop)(a0 a1:D)(S:b9):Prop:=
 b7 (l9 a0) fun v0=>
 b7 (l9 a1) fun v1=>
 b7 (i6 .neq v0 v1) fun v2=>
 j1 v2
 (Q (.bool false) S)
 (j0 Tryz.prog E w0 x (.loop a5i) (j9 26 [0,1,5] [a0,a1,(.int .i64 0)]) S (a5x E w0 x Q))
theorem c2x{a0 a1:D}{S:b9}(h:b6U E w0 x (i9 E Q) a0 a1 S):o9 Tryz.prog E w0 x a1F [a0,a1] S Q:=
 l7 a6E a6G (fn:=Tryz.f59) (c:=Tryz.f59.body.getD .skip) m7 Tryz.func59 (by kernel_rfl) (by kernel_rfl) h
def a6C:List (Nat×List Nat):=[(8,[0,3,4])]
def a6x:List (Nat×List Nat):=[]
noncomputable def a5f:Code:=(j4 [1,1,1,0,1,0,0] (Tryz.f19.body.getD .skip))
def a5t(E:j6)(w0:World)(x:Bool)(Q:D→b9→Prop):o6→List D→b9→Prop:=
 (o8 0 (w6 Tryz.prog E w0 x a6C a6x (j4 [1,1,1,1] (Tryz.f19.body.getD .skip)) (z7 Tryz.prog Tryz.f19 Q)))
def a5m(E:j6)(w0:World)(x:Bool)(N0:D→D→D→b9→Prop)(Q:D→b9→Prop)(x0 x3 x4:D)(S:b9):Prop:=
 b7 (i6 .lss x4 (.int .i64 3)) fun v2=>
 j1 v2
 (b7 (i6 .sub (.int .i64 (-771)) x4) fun v3=>
 q7 S 1 (m9 1 (List.replicate 1 [(.int .i64 0)]) [(0,v3)]) 1 fun v4 S5=>
 r6 S5 1 8 x3 v4 fun v6 S7=>
 b7 (i6 .add x4 (.int .i64 1)) fun v8=>
 N0 x0 v6 v8 S7)
 (b7 (l9 x0) fun v9=>
 b7 (J1 1 x3 none (some v9) none) fun v10=>
 Q v10 S)
theorem b7Y{N0:D→D→D→b9→Prop}{Q:D→b9→Prop}{x0 x3 x4:D}{S:b9}(h:a5m E w0 x N0 Q x0 x3 x4 S):
  j0 Tryz.prog E w0 x a5f (j9 21 [0,3,4] [x0,x3,x4]) S (q8 (fun T S=>N0 (T.getD 0 d9) (T.getD 3 d9) (T.getD 4 d9) S) (a5t E w0 x Q)):=j3 a6C a6x m7 (by kernel_rfl) h
theorem b7U(I:Nat→D→D→D→b9→Prop)
  (step:∀n x0 x3 x4 S,I n x0 x3 x4 S→a5m E w0 x (fun x0 x3 x4 S=>∃m,m<n∧I m x0 x3 x4 S) Q x0 x3 x4 S)
  {n:Nat} {x0 x3 x4:D} {S:b9} (h:I n x0 x3 x4 S):j0 Tryz.prog E w0 x (.loop a5f) (j9 21 [0,3,4] [x0,x3,x4]) S (a5t E w0 x Q):=
 o3 (k:=21) (n:=n) (I:=fun n T S=>I n (T.getD 0 d9) (T.getD 3 d9) (T.getD 4 d9) S) (fun n T S hl hI=>o5 [0,3,4] hl (j0.mono (b7Y (step n _ _ _ S hI)) fun ex T' S' _ hq=>by cases ex<;>exact hq)) (l8 ..) (Eq.mp (by kernel_rfl) h)
def b5X(E:j6)(w0:World)(x:Bool)(Q:D→b9→Prop)(a0:D)(S:b9):Prop:=
 r6 S 1 8 .nilSlc a0 fun v0 S1=>
 j0 Tryz.prog E w0 x (.loop a5f) (j9 21 [0,3,4] [a0,v0,(.int .i64 0)]) S1 (a5t E w0 x Q)
theorem c1q{a0:D}{S:b9}(h:b5X E w0 x (i9 E Q) a0 S):o9 Tryz.prog E w0 x a4q [a0] S Q:=
 l7 a6C a6x (fn:=Tryz.f19) (c:=Tryz.f19.body.getD .skip) m7 Tryz.func19 (by kernel_rfl) (by kernel_rfl) h
def a6J:List (Nat×List Nat):=[(10,[1,5,6])]
def a6D:List (Nat×List Nat):=[]
noncomputable def a4Z:Code:=(j4 [1,1,1,0,1,0,0] (Tryz.f32.body.getD .skip))
def a5h(E:j6)(w0:World)(x:Bool)(Q:D→b9→Prop):o6→List D→b9→Prop:=
 (o8 0 (w6 Tryz.prog E w0 x a6J a6D (j4 [1,1,1,1] (Tryz.f32.body.getD .skip)) (z7 Tryz.prog Tryz.f32 Q)))
def a4W(E:j6)(w0:World)(x:Bool)(N0:D→D→D→b9→Prop)(Q:D→b9→Prop)(x1 x5 x6:D)(S:b9):Prop:=
 b7 (i6 .lss x6 (.int .i64 3)) fun v6=>
 j1 v6
 (b7 (l9 x1) fun v7=>
 b7 (i6 .add v7 x6) fun v8=>
 b7 (p6 1 x5 v8) fun v9=>
 b7 (b8 S v9) fun v10=>
 b7 (i6 .sub (.int .i64 (-771)) x6) fun v11=>
 b7 (i6 .neq v10 v11) fun v12=>
 j1 v12
 (Q (.bool false) S)
 (b7 (i6 .add x6 (.int .i64 1)) fun v13=>
 N0 x1 x5 v13 S))
 (Q (.bool true) S)
theorem b8a{N0:D→D→D→b9→Prop}{Q:D→b9→Prop}{x1 x5 x6:D}{S:b9}(h:a4W E w0 x N0 Q x1 x5 x6 S):
  j0 Tryz.prog E w0 x a4Z (j9 30 [1,5,6] [x1,x5,x6]) S (q8 (fun T S=>N0 (T.getD 1 d9) (T.getD 5 d9) (T.getD 6 d9) S) (a5h E w0 x Q)):=j3 a6J a6D m7 (by kernel_rfl) h
theorem b7E(I:Nat→D→D→D→b9→Prop)
  (step:∀n x1 x5 x6 S,I n x1 x5 x6 S→a4W E w0 x (fun x1 x5 x6 S=>∃m,m<n∧I m x1 x5 x6 S) Q x1 x5 x6 S)
  {n:Nat} {x1 x5 x6:D} {S:b9} (h:I n x1 x5 x6 S):j0 Tryz.prog E w0 x (.loop a4Z) (j9 30 [1,5,6] [x1,x5,x6]) S (a5h E w0 x Q):=
 o3 (k:=30) (n:=n) (I:=fun n T S=>I n (T.getD 1 d9) (T.getD 5 d9) (T.getD 6 d9) S) (fun n T S hl hI=>o5 [1,5,6] hl (j0.mono (b8a (step n _ _ _ S hI)) fun ex T' S' _ hq=>by cases ex<;>exact hq)) (l8 ..) (Eq.mp (by kernel_rfl) h)
def b5W(E:j6)(w0:World)(x:Bool)(Q:D→b9→Prop)(a0 a1:D)(S:b9):Prop:=
 o9 Tryz.prog E w0 x a1F [a0,a1] S fun v0 S1=>
 b7 (unD .not v0) fun v2=>
 j1 v2
 (Q (.bool false) S1)
 (b7 (l9 a1) fun v3=>
 b7 (i6 .add v3 (.int .i64 3)) fun v4=>
 b7 (J1 1 a0 none (some v4) none) fun v5=>
 j0 Tryz.prog E w0 x (.loop a4Z) (j9 30 [1,5,6] [a1,v5,(.int .i64 0)]) S1 (a5h E w0 x Q))
theorem c1V{a0 a1:D}{S:b9}(h:b5W E w0 x (i9 E Q) a0 a1 S):o9 Tryz.prog E w0 x a4v [a0,a1] S Q:=
 l7 a6J a6D (fn:=Tryz.f32) (c:=Tryz.f32.body.getD .skip) m7 Tryz.func32 (by kernel_rfl) (by kernel_rfl) h
def c6k:List (Nat×List Nat):=[]
def c5E:List (Nat×List Nat):=[]
def b7c(E:j6)(w0:World)(x:Bool)(Q:D→b9→Prop)(a0:D)(S:b9):Prop:=
 r6 S 1 1 .nilSlc a0 fun v0 S1=>
 q7 S1 1 (m9 1 (List.replicate 1 [(.int .u8 0)]) [(0,(.int .u8 77))]) 1 fun v2 S3=>
 r6 S3 1 1 v0 v2 fun v4 S5=>
 b7 (l9 a0) fun v6=>
 b7 (J1 1 v4 none (some v6) none) fun v7=>
 Q v7 S5
theorem c1n{a0:D}{S:b9}(h:b7c E w0 x (i9 E Q) a0 S):o9 Tryz.prog E w0 x a9h [a0] S Q:=
 l7 c6k c5E (fn:=Tryz.f13) (c:=Tryz.f13.body.getD .skip) m7 Tryz.func13 (by kernel_rfl) (by kernel_rfl) h
def c5R:List (Nat×List Nat):=[]
def c6B:List (Nat×List Nat):=[]
def b7h(E:j6)(w0:World)(x:Bool)(Q:D→b9→Prop)(a0 a1:D)(S:b9):Prop:=
 b7 (P6 S a0) fun v0=>
 b7 (P6 S a1) fun v1=>
 b7 (a3I .eql v0 v1) fun v2=>
 b7 (i4 (i0 v2 true) (some a0)) fun v3=>
 b7 (i4 (i0 v2 true) (some a1)) fun v4=>
 b7 (i4 (i0 v2 true) (l9 v4)) fun v5=>
 b7 (i4 (i0 v2 true) (i6 .add v5 (.int .i64 1))) fun v6=>
 b7 (i4 (i0 v2 true) (J1 1 v3 none (some v6) none)) fun v7=>
 b7 (i4 (i0 v2 true) (some a1)) fun v8=>
 b7 (i4 (i0 v2 true) (l9 v8)) fun v9=>
 b7 (i4 (i0 v2 true) (p6 1 v7 v9)) fun v10=>
 b7 (i4 (i0 v2 true) (b8 S v10)) fun v11=>
 b7 (i4 (i0 v2 true) (i6 .eql v11 (.int .u8 77))) fun v12=>
 b7 (o7 v2 v12 (.bool false)) fun v13=>
 Q v13 S
theorem c0C{a0 a1:D}{S:b9}(h:b7h E w0 x (i9 E Q) a0 a1 S):o9 Tryz.prog E w0 x a8r [a0,a1] S Q:=
 l7 c5R c6B (fn:=Tryz.f17) (c:=Tryz.f17.body.getD .skip) m7 Tryz.func17 (by kernel_rfl) (by kernel_rfl) h
def a4f:List (Nat×List Nat):=[(8,[0,1,5])]
def a4p:List (Nat×List Nat):=[]
noncomputable def a2T:Code:=(j4 [1,1,0,1,0,0] (Tryz.f75.body.getD .skip))
def a3m(E:j6)(w0:World)(x:Bool)(Q:D→b9→Prop):o6→List D→b9→Prop:=
 (o8 0 (w6 Tryz.prog E w0 x a4f a4p (j4 [1,1,1] (Tryz.f75.body.getD .skip)) (z7 Tryz.prog Tryz.f75 Q)))
def a3j(E:j6)(w0:World)(x:Bool)(N0:D→D→D→b9→Prop)(Q:D→b9→Prop)(x0 x1 x5:D)(S:b9):Prop:=
 b7 (l9 x0) fun v3=>
 b7 (i6 .lss x5 v3) fun v4=>
 j1 v4
 (b7 (p6 2 x0 x5) fun v5=>
 b7 (j2 S 2 v5) fun v6=>(True)∧
 b7 (p6 2 x1 x5) fun v7=>
 b7 (j2 S 2 v7) fun v8=>(True)∧
 b7 (c2O .neq (d8w Tryz.prog b6a v6 v8)) fun v9=>
 j1 v9
 (Q (.bool false) S)
 (b7 (i6 .add x5 (.int .i64 1)) fun v10=>
 N0 x0 x1 v10 S))
 (Q (.bool true) S)
theorem b5g{N0:D→D→D→b9→Prop}{Q:D→b9→Prop}{x0 x1 x5:D}{S:b9}(h:a3j E w0 x N0 Q x0 x1 x5 S):
  j0 Tryz.prog E w0 x a2T (j9 26 [0,1,5] [x0,x1,x5]) S (q8 (fun T S=>N0 (T.getD 0 d9) (T.getD 1 d9) (T.getD 5 d9) S) (a3m E w0 x Q)):=j3 a4f a4p m7 (by kernel_rfl) h
theorem b4U(I:Nat→D→D→D→b9→Prop)
  (step:∀n x0 x1 x5 S,I n x0 x1 x5 S→a3j E w0 x (fun x0 x1 x5 S=>∃m,m<n∧I m x0 x1 x5 S) Q x0 x1 x5 S)
  {n:Nat} {x0 x1 x5:D} {S:b9} (h:I n x0 x1 x5 S):j0 Tryz.prog E w0 x (.loop a2T) (j9 26 [0,1,5] [x0,x1,x5]) S (a3m E w0 x Q):=
 o3 (k:=26) (n:=n) (I:=fun n T S=>I n (T.getD 0 d9) (T.getD 1 d9) (T.getD 5 d9) S) (fun n T S hl hI=>o5 [0,1,5] hl (j0.mono (b5g (step n _ _ _ S hI)) fun ex T' S' _ hq=>by cases ex<;>exact hq)) (l8 ..) (Eq.mp (by kernel_rfl) h)
def b2n(E:j6)(w0:World)(x:Bool)(Q:D→b9→Prop)(a0 a1:D)(S:b9):Prop:=
 b7 (l9 a0) fun v0=>
 b7 (l9 a1) fun v1=>
 b7 (i6 .neq v0 v1) fun v2=>
 j1 v2
 (Q (.bool false) S)
 (j0 Tryz.prog E w0 x (.loop a2T) (j9 26 [0,1,5] [a0,a1,(.int .i64 0)]) S (a3m E w0 x Q))
theorem b7R{a0 a1:D}{S:b9}(h:b2n E w0 x (i9 E Q) a0 a1 S):o9 Tryz.prog E w0 x a5c [a0,a1] S Q:=
 l7 a4f a4p (fn:=Tryz.f75) (c:=Tryz.f75.body.getD .skip) m7 Tryz.func75 (by kernel_rfl) (by kernel_rfl) h
def c5s:List (Nat×List Nat):=[]
def c6s:List (Nat×List Nat):=[]
def b6l(E:j6)(w0:World)(x:Bool)(Q:D→b9→Prop)(a0 a1:D)(S:b9):Prop:=
 b7 (q6 a0) fun cs=>m8 S cs fun v0 S1=>
 b7 (q6 a1) fun cs=>m8 S1 cs fun v2 S3=>
 b7 (i5 0 v0) fun v4=>
 b7 (b8 S3 v4) fun v5=>
 b7 (i5 0 v2) fun v6=>
 b7 (b8 S3 v6) fun v7=>
 b7 (i6 .eql v5 v7) fun v8=>
 b7 (i4 (i0 v8 true) (i5 1 v0)) fun v9=>
 b7 (i4 (i0 v8 true) (b8 S3 v9)) fun v10=>
 b7 (i4 (i0 v8 true) (i5 1 v2)) fun v11=>
 b7 (i4 (i0 v8 true) (b8 S3 v11)) fun v12=>
 b7 (i4 (i0 v8 true) (a3I .eql v10 v12)) fun v13=>
 b7 (o7 v8 v13 (.bool false)) fun v14=>
 b7 (i4 (i0 v14 true) (i5 3 v0)) fun v15=>
 b7 (i4 (i0 v14 true) (b8 S3 v15)) fun v16=>
 b7 (i4 (i0 v14 true) (i5 3 v2)) fun v17=>
 b7 (i4 (i0 v14 true) (b8 S3 v17)) fun v18=>
 b7 (i4 (i0 v14 true) (i6 .eql v16 v18)) fun v19=>
 b7 (o7 v14 v19 (.bool false)) fun v20=>
 b7 (i4 (i0 v20 true) (i5 4 v0)) fun v21=>
 b7 (i4 (i0 v20 true) (b8 S3 v21)) fun v22=>
 b7 (i4 (i0 v20 true) (i5 4 v2)) fun v23=>
 b7 (i4 (i0 v20 true) (b8 S3 v23)) fun v24=>
 b7 (i4 (i0 v20 true) (i6 .eql v22 v24)) fun v25=>
 b7 (o7 v20 v25 (.bool false)) fun v26=>
 b7 (i4 (i0 v26 true) (i5 2 v0)) fun v27=>
 b7 (i4 (i0 v26 true) (b8 S3 v27)) fun v28=>
 b7 (i4 (i0 v26 true) (i5 2 v2)) fun v29=>
 b7 (i4 (i0 v26 true) (b8 S3 v29)) fun v30=>
 F7 (i0 v26 true) (fun K=>o9 Tryz.prog E w0 x a5c [v28,v30] S3 K) S3 fun v31 S32=>
 b7 (o7 v26 v31 (.bool false)) fun v33=>
 Q v33 S32
theorem c2t{a0 a1:D}{S:b9}(h:b6l E w0 x (i9 E Q) a0 a1 S):o9 Tryz.prog E w0 x a8i [a0,a1] S Q:=
 l7 c5s c6s (fn:=Tryz.f38) (c:=Tryz.f38.body.getD .skip) m7 Tryz.func38 (by kernel_rfl) (by kernel_rfl) h
def b8X:List (Nat×List Nat):=[]
def b9r:List (Nat×List Nat):=[]
def b0J(E:j6)(w0:World)(x:Bool)(Q:D→b9→Prop)(a0 a1:D)(S:b9):Prop:=
 b7 (q6 a0) fun cs=>m8 S cs fun v0 S1=>
 b7 (q6 a1) fun cs=>m8 S1 cs fun v2 S3=>
 b7 (i5 0 v0) fun v4=>
 b7 (b8 S3 v4) fun v5=>
 b7 (i5 0 v2) fun v6=>
 b7 (b8 S3 v6) fun v7=>
 b7 (a3I .eql v5 v7) fun v8=>
 b7 (i4 (i0 v8 true) (i5 3 v0)) fun v9=>
 b7 (i4 (i0 v8 true) (b8 S3 v9)) fun v10=>
 b7 (i4 (i0 v8 true) (i5 3 v2)) fun v11=>
 b7 (i4 (i0 v8 true) (b8 S3 v11)) fun v12=>
 b7 (i4 (i0 v8 true) (i6 .eql v10 v12)) fun v13=>
 b7 (o7 v8 v13 (.bool false)) fun v14=>
 b7 (i4 (i0 v14 true) (i5 4 v0)) fun v15=>
 b7 (i4 (i0 v14 true) (b8 S3 v15)) fun v16=>
 b7 (i4 (i0 v14 true) (i5 4 v2)) fun v17=>
 b7 (i4 (i0 v14 true) (b8 S3 v17)) fun v18=>
 b7 (i4 (i0 v14 true) (i6 .eql v16 v18)) fun v19=>
 b7 (o7 v14 v19 (.bool false)) fun v20=>
 b7 (i4 (i0 v20 true) (i5 1 v0)) fun v21=>
 b7 (i4 (i0 v20 true) (b8 S3 v21)) fun v22=>
 b7 (i4 (i0 v20 true) (i5 1 v2)) fun v23=>
 b7 (i4 (i0 v20 true) (b8 S3 v23)) fun v24=>
 F7 (i0 v20 true) (fun K=>o9 Tryz.prog E w0 x a1F [v22,v24] S3 K) S3 fun v25 S26=>
 b7 (o7 v20 v25 (.bool false)) fun v27=>
 b7 (i4 (i0 v27 true) (i5 2 v0)) fun v28=>
 b7 (i4 (i0 v27 true) (b8 S26 v28)) fun v29=>
 b7 (i4 (i0 v27 true) (i5 2 v2)) fun v30=>
 b7 (i4 (i0 v27 true) (b8 S26 v30)) fun v31=>
 F7 (i0 v27 true) (fun K=>o9 Tryz.prog E w0 x a1F [v29,v31] S26 K) S26 fun v32 S33=>
 b7 (o7 v27 v32 (.bool false)) fun v34=>
 b7 (i4 (i0 v34 true) (i5 5 v0)) fun v35=>
 b7 (i4 (i0 v34 true) (b8 S33 v35)) fun v36=>
 b7 (i4 (i0 v34 true) (P6 S33 v36)) fun v37=>
 b7 (i4 (i0 v34 true) (i5 5 v2)) fun v38=>
 b7 (i4 (i0 v34 true) (b8 S33 v38)) fun v39=>
 b7 (i4 (i0 v34 true) (P6 S33 v39)) fun v40=>
 b7 (i4 (i0 v34 true) (a3I .eql v37 v40)) fun v41=>
 b7 (o7 v34 v41 (.bool false)) fun v42=>
 Q v42 S33
theorem b6L{a0 a1:D}{S:b9}(h:b0J E w0 x (i9 E Q) a0 a1 S):o9 Tryz.prog E w0 x a3Q [a0,a1] S Q:=
 l7 b8X b9r (fn:=Tryz.f39) (c:=Tryz.f39.body.getD .skip) m7 Tryz.func39 (by kernel_rfl) (by kernel_rfl) h
def J8:List (Nat×List Nat):=[(8,[2,3,5]),(18,[2,3,6]),(28,[2,3,7])]
def K0:List (Nat×List Nat):=[]
noncomputable def a3r:Code:=(j4 [1,1,1,1,0,1,0,0] (Tryz.f16.body.getD .skip))
def a3a(E:j6)(w0:World)(x:Bool)(Q:D→b9→Prop):o6→List D→b9→Prop:=
 (o8 4 (w6 Tryz.prog E w0 x J8 K0 (j4 [1,1,1,1,1] (Tryz.f16.body.getD .skip)) (z7 Tryz.prog Tryz.f16 Q)))
def a3t(E:j6)(w0:World)(x:Bool)(N2:D→D→D→b9→Prop)(Q:D→b9→Prop)(x2 x3 x7:D)(S:b9):Prop:=
 b7 (i5 2 x2) fun v57=>
 b7 (b8 S v57) fun v58=>
 b7 (l9 v58) fun v59=>
 b7 (i6 .lss x7 v59) fun v60=>
 j1 v60
 (b7 (i5 2 x2) fun v61=>
 b7 (b8 S v61) fun v62=>(True)∧
 b7 (p6 6 v62 x7) fun v63=>
 b7 (j2 S 6 v63) fun v64=>(True)∧
 b7 (i5 2 x3) fun v65=>
 b7 (b8 S v65) fun v66=>(True)∧
 b7 (p6 6 v66 x7) fun v67=>
 b7 (j2 S 6 v67) fun v68=>(True)∧
 DF E (J6 Tryz.prog E w0) a3Q [v64,v68] S fun v69 S70=>(True)∧
 b7 (unD .not v69) fun v71=>
 j1 v71
 (Q (.bool false) S70)
 (b7 (i6 .add x7 (.int .i64 1)) fun v72=>
 N2 x2 x3 v72 S70))
 (Q (.bool true) S)
theorem b5c{N2:D→D→D→b9→Prop}{Q:D→b9→Prop}{x2 x3 x7:D}{S:b9}(h:a3t E w0 x N2 Q x2 x3 x7 S):
  j0 Tryz.prog E w0 x a3r (j9 89 [2,3,7] [x2,x3,x7]) S (q8 (fun T S=>N2 (T.getD 2 d9) (T.getD 3 d9) (T.getD 7 d9) S) (a3a E w0 x Q)):=j3 J8 K0 m7 (by kernel_rfl) h
theorem b5f(I:Nat→D→D→D→b9→Prop)
  (step:∀n x2 x3 x7 S,I n x2 x3 x7 S→a3t E w0 x (fun x2 x3 x7 S=>∃m,m<n∧I m x2 x3 x7 S) Q x2 x3 x7 S)
  {n:Nat} {x2 x3 x7:D} {S:b9} (h:I n x2 x3 x7 S):j0 Tryz.prog E w0 x (.loop a3r) (j9 89 [2,3,7] [x2,x3,x7]) S (a3a E w0 x Q):=
 o3 (k:=89) (n:=n) (I:=fun n T S=>I n (T.getD 2 d9) (T.getD 3 d9) (T.getD 7 d9) S) (fun n T S hl hI=>o5 [2,3,7] hl (j0.mono (b5c (step n _ _ _ S hI)) fun ex T' S' _ hq=>by cases ex<;>exact hq)) (l8 ..) (Eq.mp (by kernel_rfl) h)
noncomputable def a2Y:Code:=(j4 [1,1,1,0,1,0,0] (Tryz.f16.body.getD .skip))
def a3n(E:j6)(w0:World)(x:Bool)(Q:D→b9→Prop):o6→List D→b9→Prop:=
 (o8 2 (w6 Tryz.prog E w0 x J8 K0 (j4 [1,1,1,1] (Tryz.f16.body.getD .skip)) (z7 Tryz.prog Tryz.f16 Q)))
def a2W(E:j6)(w0:World)(x:Bool)(N1:D→D→D→b9→Prop)(Q:D→b9→Prop)(x2 x3 x6:D)(S:b9):Prop:=
 b7 (i5 1 x2) fun v43=>
 b7 (b8 S v43) fun v44=>
 b7 (l9 v44) fun v45=>
 b7 (i6 .lss x6 v45) fun v46=>
 j1 v46
 (b7 (i5 1 x2) fun v47=>
 b7 (b8 S v47) fun v48=>(True)∧
 b7 (p6 1 v48 x6) fun v49=>
 b7 (b8 S v49) fun v50=>(True)∧
 b7 (i5 1 x3) fun v51=>
 b7 (b8 S v51) fun v52=>(True)∧
 b7 (p6 1 v52 x6) fun v53=>
 b7 (b8 S v53) fun v54=>(True)∧
 b7 (a3I .neq v50 v54) fun v55=>
 j1 v55
 (Q (.bool false) S)
 (b7 (i6 .add x6 (.int .i64 1)) fun v56=>
 N1 x2 x3 v56 S))
 (j0 Tryz.prog E w0 x (.loop a3r) (j9 89 [2,3,7] [x2,x3,(.int .i64 0)]) S (a3a E w0 x Q))
theorem b4L{N1:D→D→D→b9→Prop}{Q:D→b9→Prop}{x2 x3 x6:D}{S:b9}(h:a2W E w0 x N1 Q x2 x3 x6 S):
  j0 Tryz.prog E w0 x a2Y (j9 89 [2,3,6] [x2,x3,x6]) S (q8 (fun T S=>N1 (T.getD 2 d9) (T.getD 3 d9) (T.getD 6 d9) S) (a3n E w0 x Q)):=j3 J8 K0 m7 (by kernel_rfl) h
theorem b4N(I:Nat→D→D→D→b9→Prop)
  (step:∀n x2 x3 x6 S,I n x2 x3 x6 S→a2W E w0 x (fun x2 x3 x6 S=>∃m,m<n∧I m x2 x3 x6 S) Q x2 x3 x6 S)
  {n:Nat} {x2 x3 x6:D} {S:b9} (h:I n x2 x3 x6 S):j0 Tryz.prog E w0 x (.loop a2Y) (j9 89 [2,3,6] [x2,x3,x6]) S (a3n E w0 x Q):=
 o3 (k:=89) (n:=n) (I:=fun n T S=>I n (T.getD 2 d9) (T.getD 3 d9) (T.getD 6 d9) S) (fun n T S hl hI=>o5 [2,3,6] hl (j0.mono (b4L (step n _ _ _ S hI)) fun ex T' S' _ hq=>by cases ex<;>exact hq)) (l8 ..) (Eq.mp (by kernel_rfl) h)
noncomputable def a2O:Code:=(j4 [1,1,0,1,0,0] (Tryz.f16.body.getD .skip))
def a2Q(E:j6)(w0:World)(x:Bool)(Q:D→b9→Prop):o6→List D→b9→Prop:=
 (o8 0 (w6 Tryz.prog E w0 x J8 K0 (j4 [1,1,1] (Tryz.f16.body.getD .skip)) (z7 Tryz.prog Tryz.f16 Q)))
def a2S(E:j6)(w0:World)(x:Bool)(N0:D→D→D→b9→Prop)(Q:D→b9→Prop)(x2 x3 x5:D)(S:b9):Prop:=
 b7 (i5 0 x2) fun v27=>
 b7 (b8 S v27) fun v28=>
 b7 (l9 v28) fun v29=>
 b7 (i6 .lss x5 v29) fun v30=>
 j1 v30
 (b7 (i5 0 x2) fun v31=>
 b7 (b8 S v31) fun v32=>(True)∧
 b7 (p6 5 v32 x5) fun v33=>
 b7 (j2 S 5 v33) fun v34=>(True)∧
 b7 (i5 0 x3) fun v35=>
 b7 (b8 S v35) fun v36=>(True)∧
 b7 (p6 5 v36 x5) fun v37=>
 b7 (j2 S 5 v37) fun v38=>(True)∧
 DF E (J6 Tryz.prog E w0) a8i [v34,v38] S fun v39 S40=>(True)∧
 b7 (unD .not v39) fun v41=>
 j1 v41
 (Q (.bool false) S40)
 (b7 (i6 .add x5 (.int .i64 1)) fun v42=>
 N0 x2 x3 v42 S40))
 (j0 Tryz.prog E w0 x (.loop a2Y) (j9 89 [2,3,6] [x2,x3,(.int .i64 0)]) S (a3n E w0 x Q))
theorem b4R{N0:D→D→D→b9→Prop}{Q:D→b9→Prop}{x2 x3 x5:D}{S:b9}(h:a2S E w0 x N0 Q x2 x3 x5 S):
  j0 Tryz.prog E w0 x a2O (j9 89 [2,3,5] [x2,x3,x5]) S (q8 (fun T S=>N0 (T.getD 2 d9) (T.getD 3 d9) (T.getD 5 d9) S) (a2Q E w0 x Q)):=j3 J8 K0 m7 (by kernel_rfl) h
theorem b5h(I:Nat→D→D→D→b9→Prop)
  (step:∀n x2 x3 x5 S,I n x2 x3 x5 S→a2S E w0 x (fun x2 x3 x5 S=>∃m,m<n∧I m x2 x3 x5 S) Q x2 x3 x5 S)
  {n:Nat} {x2 x3 x5:D} {S:b9} (h:I n x2 x3 x5 S):j0 Tryz.prog E w0 x (.loop a2O) (j9 89 [2,3,5] [x2,x3,x5]) S (a2Q E w0 x Q):=
 o3 (k:=89) (n:=n) (I:=fun n T S=>I n (T.getD 2 d9) (T.getD 3 d9) (T.getD 5 d9) S) (fun n T S hl hI=>o5 [2,3,5] hl (j0.mono (b4R (step n _ _ _ S hI)) fun ex T' S' _ hq=>by cases ex<;>exact hq)) (l8 ..) (Eq.mp (by kernel_rfl) h)
def b1V(E:j6)(w0:World)(x:Bool)(Q:D→b9→Prop)(a0 a1:D)(S:b9):Prop:=
 b7 (q6 a0) fun cs=>m8 S cs fun v0 S1=>
 b7 (q6 a1) fun cs=>m8 S1 cs fun v2 S3=>
 b7 (i5 0 v0) fun v4=>
 b7 (b8 S3 v4) fun v5=>
 b7 (l9 v5) fun v6=>
 b7 (i5 0 v2) fun v7=>
 b7 (b8 S3 v7) fun v8=>
 b7 (l9 v8) fun v9=>
 b7 (i6 .neq v6 v9) fun v10=>
 b7 (i4 (i0 v10 false) (i5 1 v0)) fun v11=>
 b7 (i4 (i0 v10 false) (b8 S3 v11)) fun v12=>
 b7 (i4 (i0 v10 false) (l9 v12)) fun v13=>
 b7 (i4 (i0 v10 false) (i5 1 v2)) fun v14=>
 b7 (i4 (i0 v10 false) (b8 S3 v14)) fun v15=>
 b7 (i4 (i0 v10 false) (l9 v15)) fun v16=>
 b7 (i4 (i0 v10 false) (i6 .neq v13 v16)) fun v17=>
 b7 (o7 v10 (.bool true) v17) fun v18=>
 b7 (i4 (i0 v18 false) (i5 2 v0)) fun v19=>
 b7 (i4 (i0 v18 false) (b8 S3 v19)) fun v20=>
 b7 (i4 (i0 v18 false) (l9 v20)) fun v21=>
 b7 (i4 (i0 v18 false) (i5 2 v2)) fun v22=>
 b7 (i4 (i0 v18 false) (b8 S3 v22)) fun v23=>
 b7 (i4 (i0 v18 false) (l9 v23)) fun v24=>
 b7 (i4 (i0 v18 false) (i6 .neq v21 v24)) fun v25=>
 b7 (o7 v18 (.bool true) v25) fun v26=>
 j1 v26
 (Q (.bool false) S3)
 (j0 Tryz.prog E w0 x (.loop a2O) (j9 89 [2,3,5] [v0,v2,(.int .i64 0)]) S3 (a2Q E w0 x Q))
theorem b7J{a0 a1:D}{S:b9}(h:b1V E w0 x (i9 E Q) a0 a1 S):o9 Tryz.prog E w0 x a5r [a0,a1] S Q:=
 l7 J8 K0 (fn:=Tryz.f16) (c:=Tryz.f16.body.getD .skip) m7 Tryz.func16 (by kernel_rfl) (by kernel_rfl) h
def W7:List (Nat×List Nat):=[(6,[1,2,3,4]),(34,[1,2,3,7])]
def X1:List (Nat×List Nat):=[]
noncomputable def a3d:Code:=(j4 [1,1,1,1,1,1,1,1,0,1,0,0] (Tryz.f7.body.getD .skip))
def a3k(E:j6)(w0:World)(x:Bool)(Q:D→b9→Prop):o6→List D→b9→Prop:=
 (o8 2 (w6 Tryz.prog E w0 x W7 X1 (j4 [1,1,1,1,1,1,1,1,1] (Tryz.f7.body.getD .skip)) (z7 Tryz.prog Tryz.f7 Q)))
def a2R(E:j6)(w0:World)(x:Bool)(N1:D→D→D→D→b9→Prop)(Q:D→b9→Prop)(x1 x2 x3 x7:D)(S:b9):Prop:=
 b7 (i5 2 x1) fun v91=>
 b7 (b8 S v91) fun v92=>
 b7 (l9 v92) fun v93=>
 b7 (i6 .lss x7 v93) fun v94=>
 j1 v94
 (b7 (i5 2 x1) fun v95=>
 b7 (b8 S v95) fun v96=>
 b7 (p6 6 v96 x7) fun v97=>
 b7 (j2 S 6 v97) fun v98=>
 m8 S [(.str []), .nilSlc, .nilSlc,(.int .i64 0),(.int .i64 0), .nilSlc] fun v99 S100=>
 j7 S100 6 v99 v98 fun v101 S102=>
 b7 (i5 1 v99) fun v103=>
 b7 (b8 S102 v103) fun v104=>
 o9 Tryz.prog E w0 x a4q [v104] S102 fun v105 S106=>
 b7 (i5 1 v99) fun v107=>
 j7 S106 1 v107 v105 fun v108 S109=>
 b7 (i5 2 v99) fun v110=>
 b7 (b8 S109 v110) fun v111=>
 o9 Tryz.prog E w0 x a4q [v111] S109 fun v112 S113=>
 b7 (i5 2 v99) fun v114=>
 j7 S113 1 v114 v112 fun v115 S116=>
 b7 (i5 5 v99) fun v117=>
 b7 (b8 S116 v117) fun v118=>
 o9 Tryz.prog E w0 x a9h [v118] S116 fun v119 S120=>
 b7 (i5 5 v99) fun v121=>
 j7 S120 1 v121 v119 fun v122 S123=>
 b7 (i5 2 x3) fun v124=>
 b7 (b8 S123 v124) fun v125=>
 b7 (j2 S123 6 v99) fun v126=>
 q7 S123 6 (m9 6 (List.replicate 1 [(.str []), .nilSlc, .nilSlc,(.int .i64 0),(.int .i64 0), .nilSlc]) [(0,v126)]) 1 fun v127 S128=>
 r6 S128 6 104 v125 v127 fun v129 S130=>
 b7 (i5 2 x3) fun v131=>
 j7 S130 1 v131 v129 fun v132 S133=>
 b7 (i6 .add x7 (.int .i64 1)) fun v134=>
 N1 x1 x2 x3 v134 S133)
 (b7 (i5 2 x3) fun v135=>
 b7 (b8 S v135) fun v136=>
 b7 (B8 (s5 [(.str []), .nilSlc, .nilSlc,(.int .i64 0),(.int .i64 0), .nilSlc] [(0,1,(.str [109,97,114,107]))])) fun v137=>
 q7 S 6 (m9 6 (List.replicate 1 [(.str []), .nilSlc, .nilSlc,(.int .i64 0),(.int .i64 0), .nilSlc]) [(0,v137)]) 1 fun v138 S139=>
 r6 S139 6 104 v136 v138 fun v140 S141=>
 b7 (i5 2 x3) fun v142=>
 j7 S141 1 v142 v140 fun v143 S144=>
 b7 (i5 2 x3) fun v145=>
 b7 (b8 S144 v145) fun v146=>
 b7 (i5 2 x1) fun v147=>
 b7 (b8 S144 v147) fun v148=>
 b7 (l9 v148) fun v149=>
 b7 (J1 6 v146 none (some v149) none) fun v150=>
 b7 (i5 2 x3) fun v151=>
 j7 S144 1 v151 v150 fun v152 S153=>
 b7 (j2 S153 3 x3) fun v154=>
 j7 S153 3 x2 v154 fun v155 S156=>
 b7 (j2 S156 3 x2) fun v157=>Q v157 S156)
theorem b4K{N1:D→D→D→D→b9→Prop}{Q:D→b9→Prop}{x1 x2 x3 x7:D}{S:b9}(h:a2R E w0 x N1 Q x1 x2 x3 x7 S):
  j0 Tryz.prog E w0 x a3d (j9 116 [1,2,3,7] [x1,x2,x3,x7]) S (q8 (fun T S=>N1 (T.getD 1 d9) (T.getD 2 d9) (T.getD 3 d9) (T.getD 7 d9) S) (a3k E w0 x Q)):=j3 W7 X1 m7 (by kernel_rfl) h
theorem b4J(I:Nat→D→D→D→D→b9→Prop)
  (step:∀n x1 x2 x3 x7 S,I n x1 x2 x3 x7 S→a2R E w0 x (fun x1 x2 x3 x7 S=>∃m,m<n∧I m x1 x2 x3 x7 S) Q x1 x2 x3 x7 S)
  {n:Nat} {x1 x2 x3 x7:D} {S:b9} (h:I n x1 x2 x3 x7 S):j0 Tryz.prog E w0 x (.loop a3d) (j9 116 [1,2,3,7] [x1,x2,x3,x7]) S (a3k E w0 x Q):=
 o3 (k:=116) (n:=n) (I:=fun n T S=>I n (T.getD 1 d9) (T.getD 2 d9) (T.getD 3 d9) (T.getD 7 d9) S) (fun n T S hl hI=>o5 [1,2,3,7] hl (j0.mono (b4K (step n _ _ _ _ S hI)) fun ex T' S' _ hq=>by cases ex<;>exact hq)) (l8 ..) (Eq.mp (by kernel_rfl) h)
noncomputable def a3q:Code:=(j4 [1,1,0,1,0,0] (Tryz.f7.body.getD .skip))
def a2U(E:j6)(w0:World)(x:Bool)(Q:D→b9→Prop):o6→List D→b9→Prop:=
 (o8 0 (w6 Tryz.prog E w0 x W7 X1 (j4 [1,1,1] (Tryz.f7.body.getD .skip)) (z7 Tryz.prog Tryz.f7 Q)))
def a2M(E:j6)(w0:World)(x:Bool)(N0:D→D→D→D→b9→Prop)(Q:D→b9→Prop)(x1 x2 x3 x4:D)(S:b9):Prop:=
 b7 (i5 0 x1) fun v6=>
 b7 (b8 S v6) fun v7=>
 b7 (l9 v7) fun v8=>
 b7 (i6 .lss x4 v8) fun v9=>
 j1 v9
 (b7 (i5 0 x1) fun v10=>
 b7 (b8 S v10) fun v11=>
 b7 (p6 5 v11 x4) fun v12=>
 b7 (j2 S 5 v12) fun v13=>
 m8 S [(.int .u8 0),(.str []), .nilSlc,(.int .i64 0),(.int .i64 0)] fun v14 S15=>
 j7 S15 5 v14 v13 fun v16 S17=>
 b7 (i5 2 v14) fun v18=>
 b7 (b8 S17 v18) fun v19=>
 r6 S17 2 24 .nilSlc v19 fun v20 S21=>
 b7 (B8 (s5 [(.str []),(.int .i64 0)] [(0,1,(.str [109,97,114,107]))])) fun v22=>
 q7 S21 2 (m9 2 (List.replicate 1 [(.str []),(.int .i64 0)]) [(0,v22)]) 1 fun v23 S24=>
 r6 S24 2 24 v20 v23 fun v25 S26=>
 b7 (i5 2 v14) fun v27=>
 b7 (b8 S26 v27) fun v28=>
 b7 (l9 v28) fun v29=>
 b7 (J1 2 v25 none (some v29) none) fun v30=>
 b7 (i5 2 v14) fun v31=>
 j7 S26 1 v31 v30 fun v32 S33=>
 b7 (i5 0 x3) fun v34=>
 b7 (b8 S33 v34) fun v35=>
 b7 (j2 S33 5 v14) fun v36=>
 q7 S33 5 (m9 5 (List.replicate 1 [(.int .u8 0),(.str []), .nilSlc,(.int .i64 0),(.int .i64 0)]) [(0,v36)]) 1 fun v37 S38=>
 r6 S38 5 64 v35 v37 fun v39 S40=>
 b7 (i5 0 x3) fun v41=>
 j7 S40 1 v41 v39 fun v42 S43=>
 b7 (i6 .add x4 (.int .i64 1)) fun v44=>
 N0 x1 x2 x3 v44 S43)
 (b7 (i5 0 x3) fun v45=>
 b7 (b8 S v45) fun v46=>
 b7 (B8 (s5 [(.int .u8 0),(.str []), .nilSlc,(.int .i64 0),(.int .i64 0)] [(1,1,(.str [109,97,114,107]))])) fun v47=>
 q7 S 5 (m9 5 (List.replicate 1 [(.int .u8 0),(.str []), .nilSlc,(.int .i64 0),(.int .i64 0)]) [(0,v47)]) 1 fun v48 S49=>
 r6 S49 5 64 v46 v48 fun v50 S51=>
 b7 (i5 0 x3) fun v52=>
 j7 S51 1 v52 v50 fun v53 S54=>
 b7 (i5 0 x3) fun v55=>
 b7 (b8 S54 v55) fun v56=>
 b7 (i5 0 x1) fun v57=>
 b7 (b8 S54 v57) fun v58=>
 b7 (l9 v58) fun v59=>
 b7 (J1 5 v56 none (some v59) none) fun v60=>
 b7 (i5 0 x3) fun v61=>
 j7 S54 1 v61 v60 fun v62 S63=>
 b7 (i5 1 x3) fun v64=>
 b7 (b8 S63 v64) fun v65=>
 b7 (i5 1 x1) fun v66=>
 b7 (b8 S63 v66) fun v67=>
 r6 S63 1 16 v65 v67 fun v68 S69=>
 b7 (i5 1 x3) fun v70=>
 j7 S69 1 v70 v68 fun v71 S72=>
 b7 (i5 1 x3) fun v73=>
 b7 (b8 S72 v73) fun v74=>
 q7 S72 1 (m9 1 (List.replicate 1 [(.str [])]) [(0,(.str [109,97,114,107]))]) 1 fun v75 S76=>
 r6 S76 1 16 v74 v75 fun v77 S78=>
 b7 (i5 1 x3) fun v79=>
 j7 S78 1 v79 v77 fun v80 S81=>
 b7 (i5 1 x3) fun v82=>
 b7 (b8 S81 v82) fun v83=>
 b7 (i5 1 x1) fun v84=>
 b7 (b8 S81 v84) fun v85=>
 b7 (l9 v85) fun v86=>
 b7 (J1 1 v83 none (some v86) none) fun v87=>
 b7 (i5 1 x3) fun v88=>
 j7 S81 1 v88 v87 fun v89 S90=>
 j0 Tryz.prog E w0 x (.loop a3d) (j9 116 [1,2,3,7] [x1,x2,x3,(.int .i64 0)]) S90 (a3k E w0 x Q))
theorem b4W{N0:D→D→D→D→b9→Prop}{Q:D→b9→Prop}{x1 x2 x3 x4:D}{S:b9}(h:a2M E w0 x N0 Q x1 x2 x3 x4 S):
  j0 Tryz.prog E w0 x a3q (j9 116 [1,2,3,4] [x1,x2,x3,x4]) S (q8 (fun T S=>N0 (T.getD 1 d9) (T.getD 2 d9) (T.getD 3 d9) (T.getD 4 d9) S) (a2U E w0 x Q)):=j3 W7 X1 m7 (by kernel_rfl) h
theorem b4O(I:Nat→D→D→D→D→b9→Prop)
  (step:∀n x1 x2 x3 x4 S,I n x1 x2 x3 x4 S→a2M E w0 x (fun x1 x2 x3 x4 S=>∃m,m<n∧I m x1 x2 x3 x4 S) Q x1 x2 x3 x4 S)
  {n:Nat} {x1 x2 x3 x4:D} {S:b9} (h:I n x1 x2 x3 x4 S):j0 Tryz.prog E w0 x (.loop a3q) (j9 116 [1,2,3,4] [x1,x2,x3,x4]) S (a2U E w0 x Q):=
 o3 (k:=116) (n:=n) (I:=fun n T S=>I n (T.getD 1 d9) (T.getD 2 d9) (T.getD 3 d9) (T.getD 4 d9) S) (fun n T S hl hI=>o5 [1,2,3,4] hl (j0.mono (b4W (step n _ _ _ _ S hI)) fun ex T' S' _ hq=>by cases ex<;>exact hq)) (l8 ..) (Eq.mp (by kernel_rfl) h)
def b1H(E:j6)(w0:World)(x:Bool)(Q:D→b9→Prop)(a0:D)(S:b9):Prop:=
 b7 (q6 a0) fun cs=>m8 S cs fun v0 S1=>
 m8 S1 [.nilSlc, .nilSlc, .nilSlc] fun v2 S3=>
 m8 S3 [.nilSlc, .nilSlc, .nilSlc] fun v4 S5=>
 j0 Tryz.prog E w0 x (.loop a3q) (j9 116 [1,2,3,4] [v0,v2,v4,(.int .i64 0)]) S5 (a2U E w0 x Q)
theorem b7G{a0:D}{S:b9}(h:b1H E w0 x (i9 E Q) a0 S):o9 Tryz.prog E w0 x a5s [a0] S Q:=
 l7 W7 X1 (fn:=Tryz.f7) (c:=Tryz.f7.body.getD .skip) m7 Tryz.func7 (by kernel_rfl) (by kernel_rfl) h
def H6:List (Nat×List Nat):=[(10,[2,3,5,7,8]),(22,[2,3,7,10])]
def H8:List (Nat×List Nat):=[(28,[2,3,7,10,11,12])]
noncomputable def b7O:Code:=(j4 [1,1,1,1,0,1,0,0,1,0,0,1] (Tryz.f12.body.getD .skip))
def b6h(E:j6)(w0:World)(x:Bool)(N1:D→D→D→D→b9→Prop)(Q:D→b9→Prop):o6→List D→b9→Prop:=
 (o8 3 (w6 Tryz.prog E w0 x H6 H8 (j4 [1,1,1,1,0,1,0,0,1,1] (Tryz.f12.body.getD .skip)) (q8 (fun T S=>N1 (T.getD 2 d9) (T.getD 3 d9) (T.getD 7 d9) (T.getD 10 d9) S) (o8 2 (w6 Tryz.prog E w0 x H6 H8 (j4 [1,1,1,1,1] (Tryz.f12.body.getD .skip)) (z7 Tryz.prog Tryz.f12 Q))))))
def a6S(E:j6)(w0:World)(x:Bool)(N1:D→D→D→D→b9→Prop)(Q:D→b9→Prop)(x2 x3 x7 x10 x11 x12:D)(S:b9):Prop:=
 b7 (i5 1 x11) fun v70=>
 b7 (b8 S v70) fun v71=>
 b7 (i5 1 x12) fun v72=>
 b7 (b8 S v72) fun v73=>
 o9 Tryz.prog E w0 x a4v [v71,v73] S fun v74 S75=>
 b7 (unD .not v74) fun v76=>
 b7 (i4 (i0 v76 false) (i5 2 x11)) fun v77=>
 b7 (i4 (i0 v76 false) (b8 S75 v77)) fun v78=>
 b7 (i4 (i0 v76 false) (i5 2 x12)) fun v79=>
 b7 (i4 (i0 v76 false) (b8 S75 v79)) fun v80=>
 F7 (i0 v76 false) (fun K=>o9 Tryz.prog E w0 x a4v [v78,v80] S75 K) S75 fun v81 S82=>
 b7 (i4 (i0 v76 false) (unD .not v81)) fun v83=>
 b7 (o7 v76 (.bool true) v83) fun v84=>
 b7 (i4 (i0 v84 false) (i5 5 x11)) fun v85=>
 b7 (i4 (i0 v84 false) (b8 S82 v85)) fun v86=>
 b7 (i4 (i0 v84 false) (i5 5 x12)) fun v87=>
 b7 (i4 (i0 v84 false) (b8 S82 v87)) fun v88=>
 F7 (i0 v84 false) (fun K=>o9 Tryz.prog E w0 x a8r [v86,v88] S82 K) S82 fun v89 S90=>
 b7 (i4 (i0 v84 false) (unD .not v89)) fun v91=>
 b7 (o7 v84 (.bool true) v91) fun v92=>
 j1 v92
 (Q (.bool false) S90)
 (b7 (i6 .add x10 (.int .i64 1)) fun v93=>
 N1 x2 x3 x7 v93 S90)
def Z1(E:j6)(w0:World)(x:Bool)(N1:D→D→D→D→b9→Prop)(Q:D→b9→Prop)(x2 x3 x7 x10 x11 x12:D)(S:b9):Prop:=j0 Tryz.prog E w0 x b7O (j9 124 [2,3,7,10,11,12] [x2,x3,x7,x10,x11,x12]) S (b6h E w0 x N1 Q)
theorem b2J{N1:D→D→D→D→b9→Prop}{Q:D→b9→Prop}{x2 x3 x7 x10 x11 x12:D}{S:b9}(h:a6S E w0 x N1 Q x2 x3 x7 x10 x11 x12 S):Z1 E w0 x N1 Q x2 x3 x7 x10 x11 x12 S:=j3 H6 H8 m7 (by kernel_rfl) h
noncomputable def a3f:Code:=(j4 [1,1,1,1,0,1,0,0] (Tryz.f12.body.getD .skip))
def a3e(E:j6)(w0:World)(x:Bool)(Q:D→b9→Prop):o6→List D→b9→Prop:=
 (o8 2 (w6 Tryz.prog E w0 x H6 H8 (j4 [1,1,1,1,1] (Tryz.f12.body.getD .skip)) (z7 Tryz.prog Tryz.f12 Q)))
def a2Z(E:j6)(w0:World)(x:Bool)(N1:D→D→D→D→b9→Prop)(Q:D→b9→Prop)(x2 x3 x7 x10:D)(S:b9):Prop:=
 b7 (i6 .lss x10 x7) fun v69=>
 j1 v69
 (x=false∧(b7 (i5 2 x2) fun v94=>
 b7 (b8 S v94) fun v95=>(True)∧
 b7 (p6 6 v95 x10) fun v96=>
 b7 (j2 S 6 v96) fun v97=>(True)∧
 b7 (i5 2 x3) fun v98=>
 b7 (b8 S v98) fun v99=>(True)∧
 b7 (p6 6 v99 x10) fun v100=>
 b7 (j2 S 6 v100) fun v101=>(True)∧
 m8 S [(.str []), .nilSlc, .nilSlc,(.int .i64 0),(.int .i64 0), .nilSlc] fun v102 S103=>(p7 v94 S S103∧p7 v96 S S103∧p7 v98 S S103∧p7 v100 S S103∧True)∧
 m8 S103 [(.str []), .nilSlc, .nilSlc,(.int .i64 0),(.int .i64 0), .nilSlc] fun v104 S105=>(p7 v94 S S105∧p7 v96 S S105∧p7 v98 S S105∧p7 v100 S S105∧True)∧
 j7 S105 6 v102 v97 fun v106 S107=>(p7 v98 S S107∧p7 v100 S S107∧True)∧
 j7 S107 6 v104 v101 fun v108 S109=>(True)∧
 Z1 E w0 x N1 Q x2 x3 x7 x10 v102 v104 S109)∧
 (b7 (i5 2 x2) fun v110=>
 b7 (b8 S v110) fun v111=>(True)∧
 b7 (p6 6 v111 x10) fun v112=>
 b7 (j2 S 6 v112) fun v113=>(True)∧
 b7 (i5 2 x3) fun v114=>
 b7 (b8 S v114) fun v115=>(True)∧
 b7 (p6 6 v115 x10) fun v116=>
 b7 (j2 S 6 v116) fun v117=>(True)∧
 m8 S [(.str []), .nilSlc, .nilSlc,(.int .i64 0),(.int .i64 0), .nilSlc] fun v118 S119=>(p7 v110 S S119∧p7 v112 S S119∧p7 v114 S S119∧p7 v116 S S119∧True)∧
 m8 S119 [(.str []), .nilSlc, .nilSlc,(.int .i64 0),(.int .i64 0), .nilSlc] fun v120 S121=>(p7 v110 S S121∧p7 v112 S S121∧p7 v114 S S121∧p7 v116 S S121∧True)∧
 j7 S121 6 v120 v113 fun v122 S123=>(p7 v114 S S123∧p7 v116 S S123∧True)∧
 j7 S123 6 v118 v117 fun v124 S125=>(True)∧
 Z1 E w0 x N1 Q x2 x3 x7 x10 v120 v118 S125)∧
 True)
 (Q (.bool true) S)
theorem b5j{N1:D→D→D→D→b9→Prop}{Q:D→b9→Prop}{x2 x3 x7 x10:D}{S:b9}(h:a2Z E w0 x N1 Q x2 x3 x7 x10 S):
  j0 Tryz.prog E w0 x a3f (j9 124 [2,3,7,10] [x2,x3,x7,x10]) S (q8 (fun T S=>N1 (T.getD 2 d9) (T.getD 3 d9) (T.getD 7 d9) (T.getD 10 d9) S) (a3e E w0 x Q)):=j3 H6 H8 m7 (by kernel_rfl) h
theorem b4Q(I:Nat→D→D→D→D→b9→Prop)
  (step:∀n x2 x3 x7 x10 S,I n x2 x3 x7 x10 S→a2Z E w0 x (fun x2 x3 x7 x10 S=>∃m,m<n∧I m x2 x3 x7 x10 S) Q x2 x3 x7 x10 S)
  {n:Nat} {x2 x3 x7 x10:D} {S:b9} (h:I n x2 x3 x7 x10 S):j0 Tryz.prog E w0 x (.loop a3f) (j9 124 [2,3,7,10] [x2,x3,x7,x10]) S (a3e E w0 x Q):=
 o3 (k:=124) (n:=n) (I:=fun n T S=>I n (T.getD 2 d9) (T.getD 3 d9) (T.getD 7 d9) (T.getD 10 d9) S) (fun n T S hl hI=>o5 [2,3,7,10] hl (j0.mono (b5j (step n _ _ _ _ S hI)) fun ex T' S' _ hq=>by cases ex<;>exact hq)) (l8 ..) (Eq.mp (by kernel_rfl) h)
noncomputable def a2P:Code:=(j4 [1,1,1,0,1,0,0] (Tryz.f12.body.getD .skip))
def a3o(E:j6)(w0:World)(x:Bool)(Q:D→b9→Prop):o6→List D→b9→Prop:=
 (o8 0 (w6 Tryz.prog E w0 x H6 H8 (j4 [1,1,1,1] (Tryz.f12.body.getD .skip)) (z7 Tryz.prog Tryz.f12 Q)))
def a3p(E:j6)(w0:World)(x:Bool)(N0:D→D→D→D→D→b9→Prop)(Q:D→b9→Prop)(x2 x3 x5 x7 x8:D)(S:b9):Prop:=
 b7 (i6 .lss x8 x5) fun v50=>
 j1 v50
 (b7 (i5 0 x3) fun v51=>
 b7 (b8 S v51) fun v52=>
 b7 (p6 5 v52 x8) fun v53=>
 b7 (i5 2 v53) fun v54=>
 b7 (b8 S v54) fun v55=>
 b7 (l9 v55) fun v56=>
 b7 (i5 0 x2) fun v57=>
 b7 (b8 S v57) fun v58=>
 b7 (p6 5 v58 x8) fun v59=>
 b7 (i5 2 v59) fun v60=>
 b7 (b8 S v60) fun v61=>
 b7 (i6 .add v56 (.int .i64 1)) fun v62=>
 b7 (J1 2 v61 none (some v62) none) fun v63=>
 b7 (p6 2 v63 v56) fun v64=>
 b7 (i5 0 v64) fun v65=>
 b7 (b8 S v65) fun v66=>
 b7 (a3I .neq v66 (.str [109,97,114,107])) fun v67=>
 j1 v67
 (Q (.bool false) S)
 (b7 (i6 .add x8 (.int .i64 1)) fun v68=>
 N0 x2 x3 x5 x7 v68 S))
 (j0 Tryz.prog E w0 x (.loop a3f) (j9 124 [2,3,7,10] [x2,x3,x7,(.int .i64 0)]) S (a3e E w0 x Q))
theorem b5d{N0:D→D→D→D→D→b9→Prop}{Q:D→b9→Prop}{x2 x3 x5 x7 x8:D}{S:b9}(h:a3p E w0 x N0 Q x2 x3 x5 x7 x8 S):
  j0 Tryz.prog E w0 x a2P (j9 124 [2,3,5,7,8] [x2,x3,x5,x7,x8]) S (q8 (fun T S=>N0 (T.getD 2 d9) (T.getD 3 d9) (T.getD 5 d9) (T.getD 7 d9) (T.getD 8 d9) S) (a3o E w0 x Q)):=j3 H6 H8 m7 (by kernel_rfl) h
theorem b4I(I:Nat→D→D→D→D→D→b9→Prop)
  (step:∀n x2 x3 x5 x7 x8 S,I n x2 x3 x5 x7 x8 S→a3p E w0 x (fun x2 x3 x5 x7 x8 S=>∃m,m<n∧I m x2 x3 x5 x7 x8 S) Q x2 x3 x5 x7 x8 S)
  {n:Nat} {x2 x3 x5 x7 x8:D} {S:b9} (h:I n x2 x3 x5 x7 x8 S):j0 Tryz.prog E w0 x (.loop a2P) (j9 124 [2,3,5,7,8] [x2,x3,x5,x7,x8]) S (a3o E w0 x Q):=
 o3 (k:=124) (n:=n) (I:=fun n T S=>I n (T.getD 2 d9) (T.getD 3 d9) (T.getD 5 d9) (T.getD 7 d9) (T.getD 8 d9) S) (fun n T S hl hI=>o5 [2,3,5,7,8] hl (j0.mono (b5d (step n _ _ _ _ _ S hI)) fun ex T' S' _ hq=>by cases ex<;>exact hq)) (l8 ..) (Eq.mp (by kernel_rfl) h)
def b2v(E:j6)(w0:World)(x:Bool)(Q:D→b9→Prop)(a0 a1:D)(S:b9):Prop:=
 b7 (q6 a0) fun cs=>m8 S cs fun v0 S1=>
 b7 (q6 a1) fun cs=>m8 S1 cs fun v2 S3=>
 b7 (i5 0 v2) fun v4=>
 b7 (b8 S3 v4) fun v5=>(True)∧
 b7 (l9 v5) fun v6=>(True)∧
 b7 (i5 1 v2) fun v7=>
 b7 (b8 S3 v7) fun v8=>(True)∧
 b7 (l9 v8) fun v9=>(True)∧
 b7 (i5 2 v2) fun v10=>
 b7 (b8 S3 v10) fun v11=>(True)∧
 b7 (l9 v11) fun v12=>(True)∧
 b7 (j2 S3 3 v0) fun v13=>
 b7 (j2 S3 3 v2) fun v14=>
 o9 Tryz.prog E w0 x a5r [v13,v14] S3 fun v15 S16=>
 b7 (unD .not v15) fun v17=>
 b7 (i4 (i0 v17 false) (i5 0 v0)) fun v18=>
 b7 (i4 (i0 v17 false) (b8 S16 v18)) fun v19=>
 b7 (i4 (i0 v17 false) (some v6)) fun v20=>
 b7 (i4 (i0 v17 false) (i6 .add v20 (.int .i64 1))) fun v21=>
 b7 (i4 (i0 v17 false) (J1 5 v19 none (some v21) none)) fun v22=>
 b7 (i4 (i0 v17 false) (some v6)) fun v23=>
 b7 (i4 (i0 v17 false) (p6 5 v22 v23)) fun v24=>
 b7 (i4 (i0 v17 false) (i5 1 v24)) fun v25=>
 b7 (i4 (i0 v17 false) (b8 S16 v25)) fun v26=>
 b7 (i4 (i0 v17 false) (a3I .neq v26 (.str [109,97,114,107]))) fun v27=>
 b7 (o7 v17 (.bool true) v27) fun v28=>
 b7 (i4 (i0 v28 false) (i5 1 v0)) fun v29=>
 b7 (i4 (i0 v28 false) (b8 S16 v29)) fun v30=>
 b7 (i4 (i0 v28 false) (some v9)) fun v31=>
 b7 (i4 (i0 v28 false) (i6 .add v31 (.int .i64 1))) fun v32=>
 b7 (i4 (i0 v28 false) (J1 1 v30 none (some v32) none)) fun v33=>
 b7 (i4 (i0 v28 false) (some v9)) fun v34=>
 b7 (i4 (i0 v28 false) (p6 1 v33 v34)) fun v35=>
 b7 (i4 (i0 v28 false) (b8 S16 v35)) fun v36=>
 b7 (i4 (i0 v28 false) (a3I .neq v36 (.str [109,97,114,107]))) fun v37=>
 b7 (o7 v28 (.bool true) v37) fun v38=>
 b7 (i4 (i0 v38 false) (i5 2 v0)) fun v39=>
 b7 (i4 (i0 v38 false) (b8 S16 v39)) fun v40=>
 b7 (i4 (i0 v38 false) (some v12)) fun v41=>
 b7 (i4 (i0 v38 false) (i6 .add v41 (.int .i64 1))) fun v42=>
 b7 (i4 (i0 v38 false) (J1 6 v40 none (some v42) none)) fun v43=>
 b7 (i4 (i0 v38 false) (some v12)) fun v44=>
 b7 (i4 (i0 v38 false) (p6 6 v43 v44)) fun v45=>
 b7 (i4 (i0 v38 false) (i5 0 v45)) fun v46=>
 b7 (i4 (i0 v38 false) (b8 S16 v46)) fun v47=>
 b7 (i4 (i0 v38 false) (a3I .neq v47 (.str [109,97,114,107]))) fun v48=>
 b7 (o7 v38 (.bool true) v48) fun v49=>
 j1 v49
 (Q (.bool false) S16)
 (j0 Tryz.prog E w0 x (.loop a2P) (j9 124 [2,3,5,7,8] [v0,v2,v6,v12,(.int .i64 0)]) S16 (a3o E w0 x Q))
theorem b7N{a0 a1:D}{S:b9}(h:b2v E w0 x (i9 E Q) a0 a1 S):o9 Tryz.prog E w0 x Z7 [a0,a1] S Q:=
 l7 H6 H8 (fn:=Tryz.f12) (c:=Tryz.f12.body.getD .skip) m7 Tryz.func12 (by kernel_rfl) (by kernel_rfl) h
def R8:List (Nat×List Nat):=[(6,[1,2,5,6]),(14,[1,2,5,6,7]),(22,[1,2,5,8]),(30,[1,2,5,9])]
def R7:List (Nat×List Nat):=[]
noncomputable def b3L:Code:=(j4 [1,1,0,1,0,0,1,0,0,1,1,0,0] (Tryz.f5.body.getD .skip))
def b3y(E:j6)(w0:World)(x:Bool)(N0:D→D→D→D→b9→Prop)(Q:D→b9→Prop):o6→List D→b9→Prop:=
 (o8 2 (o8 1 (w6 Tryz.prog E w0 x R8 R7 (j4 [1,1,0,1,0,0,1,1] (Tryz.f5.body.getD .skip)) (q8 (fun T S=>N0 (T.getD 1 d9) (T.getD 2 d9) (T.getD 5 d9) (T.getD 6 d9) S) (o8 0 (w6 Tryz.prog E w0 x R8 R7 (j4 [1,1,1] (Tryz.f5.body.getD .skip)) (z7 Tryz.prog Tryz.f5 Q)))))))
def b3d(E:j6)(w0:World)(x:Bool)(N0:D→D→D→D→b9→Prop)(N1:D→D→D→D→D→b9→Prop)(Q:D→b9→Prop)(x1 x2 x5 x6 x7:D)(S:b9):Prop:=
 b7 (i5 0 x2) fun v35=>
 b7 (b8 S v35) fun v36=>
 b7 (p6 5 v36 x6) fun v37=>
 b7 (i5 2 v37) fun v38=>
 b7 (b8 S v38) fun v39=>
 b7 (l9 v39) fun v40=>
 b7 (i6 .lss x7 v40) fun v41=>
 b7 (i4 (i0 v41 true) (some x5)) fun v42=>
 b7 (i4 (i0 v41 true) (some x1)) fun v43=>
 b7 (i4 (i0 v41 true) (i6 .leq v42 v43)) fun v44=>
 b7 (o7 v41 v44 (.bool false)) fun v45=>
 j1 v45
 (b7 (i5 0 x2) fun v46=>
 b7 (b8 S v46) fun v47=>
 b7 (p6 5 v47 x6) fun v48=>
 b7 (i5 2 v48) fun v49=>
 b7 (b8 S v49) fun v50=>
 b7 (p6 2 v50 x7) fun v51=>
 b7 (i5 0 v51) fun v52=>
 b7 (b8 S v52) fun v53=>
 b7 (J3 v53) fun v54=>
 b7 (i6 .add x5 v54) fun v55=>
 b7 (i6 .add x7 (.int .i64 1)) fun v56=>
 N1 x1 x2 v55 x6 v56 S)
 (b7 (i6 .add x6 (.int .i64 1)) fun v57=>
 N0 x1 x2 x5 v57 S)
theorem c6H{N0:D→D→D→D→b9→Prop}{N1:D→D→D→D→D→b9→Prop}{Q:D→b9→Prop}{x1 x2 x5 x6 x7:D}{S:b9}(h:b3d E w0 x N0 N1 Q x1 x2 x5 x6 x7 S):
  j0 Tryz.prog E w0 x b3L (j9 135 [1,2,5,6,7] [x1,x2,x5,x6,x7]) S (q8 (fun T S=>N1 (T.getD 1 d9) (T.getD 2 d9) (T.getD 5 d9) (T.getD 6 d9) (T.getD 7 d9) S) (b3y E w0 x N0 Q)):=j3 R8 R7 m7 (by kernel_rfl) h
theorem c5d{N0:D→D→D→D→b9→Prop}{Q:D→b9→Prop}(I:Nat→D→D→D→D→D→b9→Prop)
  (step:∀n x1 x2 x5 x6 x7 S,I n x1 x2 x5 x6 x7 S→b3d E w0 x N0 (fun x1 x2 x5 x6 x7 S=>∃m,m<n∧I m x1 x2 x5 x6 x7 S) Q x1 x2 x5 x6 x7 S)
  {n:Nat} {x1 x2 x5 x6 x7:D} {S:b9} (h:I n x1 x2 x5 x6 x7 S):j0 Tryz.prog E w0 x (.loop b3L) (j9 135 [1,2,5,6,7] [x1,x2,x5,x6,x7]) S (b3y E w0 x N0 Q):=
 o3 (k:=135) (n:=n) (I:=fun n T S=>I n (T.getD 1 d9) (T.getD 2 d9) (T.getD 5 d9) (T.getD 6 d9) (T.getD 7 d9) S) (fun n T S hl hI=>o5 [1,2,5,6,7] hl (j0.mono (c6H (step n _ _ _ _ _ S hI)) fun ex T' S' _ hq=>by cases ex<;>exact hq)) (l8 ..) (Eq.mp (by kernel_rfl) h)
noncomputable def b3X:Code:=(j4 [1,1,1,1,0,1,0,0] (Tryz.f5.body.getD .skip))
def b2R(E:j6)(w0:World)(x:Bool)(Q:D→b9→Prop):o6→List D→b9→Prop:=
 (o8 6 (w6 Tryz.prog E w0 x R8 R7 (j4 [1,1,1,1,1] (Tryz.f5.body.getD .skip)) (z7 Tryz.prog Tryz.f5 Q)))
def b4e(E:j6)(w0:World)(x:Bool)(N3:D→D→D→D→b9→Prop)(Q:D→b9→Prop)(x1 x2 x5 x9:D)(S:b9):Prop:=
 b7 (i5 2 x2) fun v73=>
 b7 (b8 S v73) fun v74=>
 b7 (l9 v74) fun v75=>
 b7 (i6 .lss x9 v75) fun v76=>
 b7 (i4 (i0 v76 true) (some x5)) fun v77=>
 b7 (i4 (i0 v76 true) (some x1)) fun v78=>
 b7 (i4 (i0 v76 true) (i6 .leq v77 v78)) fun v79=>
 b7 (o7 v76 v79 (.bool false)) fun v80=>
 j1 v80
 (b7 (i5 2 x2) fun v81=>
 b7 (b8 S v81) fun v82=>
 b7 (p6 6 v82 x9) fun v83=>
 b7 (j2 S 6 v83) fun v84=>
 m8 S [(.str []), .nilSlc, .nilSlc,(.int .i64 0),(.int .i64 0), .nilSlc] fun v85 S86=>
 j7 S86 6 v85 v84 fun v87 S88=>
 b7 (i5 0 v85) fun v89=>
 b7 (b8 S88 v89) fun v90=>
 b7 (J3 v90) fun v91=>
 b7 (i6 .add x5 v91) fun v92=>
 b7 (i5 1 v85) fun v93=>
 b7 (b8 S88 v93) fun v94=>
 b7 (l9 v94) fun v95=>
 b7 (i6 .add v92 v95) fun v96=>
 b7 (i5 2 v85) fun v97=>
 b7 (b8 S88 v97) fun v98=>
 b7 (l9 v98) fun v99=>
 b7 (i6 .add v96 v99) fun v100=>
 b7 (i5 5 v85) fun v101=>
 b7 (b8 S88 v101) fun v102=>
 b7 (l9 v102) fun v103=>
 b7 (i6 .add v100 v103) fun v104=>
 b7 (i6 .add x9 (.int .i64 1)) fun v105=>
 N3 x1 x2 v104 v105 S88)
 (Q x5 S)
theorem c6c{N3:D→D→D→D→b9→Prop}{Q:D→b9→Prop}{x1 x2 x5 x9:D}{S:b9}(h:b4e E w0 x N3 Q x1 x2 x5 x9 S):
  j0 Tryz.prog E w0 x b3X (j9 135 [1,2,5,9] [x1,x2,x5,x9]) S (q8 (fun T S=>N3 (T.getD 1 d9) (T.getD 2 d9) (T.getD 5 d9) (T.getD 9 d9) S) (b2R E w0 x Q)):=j3 R8 R7 m7 (by kernel_rfl) h
theorem c6g(I:Nat→D→D→D→D→b9→Prop)
  (step:∀n x1 x2 x5 x9 S,I n x1 x2 x5 x9 S→b4e E w0 x (fun x1 x2 x5 x9 S=>∃m,m<n∧I m x1 x2 x5 x9 S) Q x1 x2 x5 x9 S)
  {n:Nat} {x1 x2 x5 x9:D} {S:b9} (h:I n x1 x2 x5 x9 S):j0 Tryz.prog E w0 x (.loop b3X) (j9 135 [1,2,5,9] [x1,x2,x5,x9]) S (b2R E w0 x Q):=
 o3 (k:=135) (n:=n) (I:=fun n T S=>I n (T.getD 1 d9) (T.getD 2 d9) (T.getD 5 d9) (T.getD 9 d9) S) (fun n T S hl hI=>o5 [1,2,5,9] hl (j0.mono (c6c (step n _ _ _ _ S hI)) fun ex T' S' _ hq=>by cases ex<;>exact hq)) (l8 ..) (Eq.mp (by kernel_rfl) h)
noncomputable def b2P:Code:=(j4 [1,1,1,0,1,0,0] (Tryz.f5.body.getD .skip))
def b2F(E:j6)(w0:World)(x:Bool)(Q:D→b9→Prop):o6→List D→b9→Prop:=
 (o8 4 (w6 Tryz.prog E w0 x R8 R7 (j4 [1,1,1,1] (Tryz.f5.body.getD .skip)) (z7 Tryz.prog Tryz.f5 Q)))
def b3H(E:j6)(w0:World)(x:Bool)(N2:D→D→D→D→b9→Prop)(Q:D→b9→Prop)(x1 x2 x5 x8:D)(S:b9):Prop:=
 b7 (i5 1 x2) fun v58=>
 b7 (b8 S v58) fun v59=>
 b7 (l9 v59) fun v60=>
 b7 (i6 .lss x8 v60) fun v61=>
 b7 (i4 (i0 v61 true) (some x5)) fun v62=>
 b7 (i4 (i0 v61 true) (some x1)) fun v63=>
 b7 (i4 (i0 v61 true) (i6 .leq v62 v63)) fun v64=>
 b7 (o7 v61 v64 (.bool false)) fun v65=>
 j1 v65
 (b7 (i5 1 x2) fun v66=>
 b7 (b8 S v66) fun v67=>
 b7 (p6 1 v67 x8) fun v68=>
 b7 (b8 S v68) fun v69=>
 b7 (J3 v69) fun v70=>
 b7 (i6 .add x5 v70) fun v71=>
 b7 (i6 .add x8 (.int .i64 1)) fun v72=>
 N2 x1 x2 v71 v72 S)
 (j0 Tryz.prog E w0 x (.loop b3X) (j9 135 [1,2,5,9] [x1,x2,x5,(.int .i64 0)]) S (b2R E w0 x Q))
theorem c5T{N2:D→D→D→D→b9→Prop}{Q:D→b9→Prop}{x1 x2 x5 x8:D}{S:b9}(h:b3H E w0 x N2 Q x1 x2 x5 x8 S):
  j0 Tryz.prog E w0 x b2P (j9 135 [1,2,5,8] [x1,x2,x5,x8]) S (q8 (fun T S=>N2 (T.getD 1 d9) (T.getD 2 d9) (T.getD 5 d9) (T.getD 8 d9) S) (b2F E w0 x Q)):=j3 R8 R7 m7 (by kernel_rfl) h
theorem c6C(I:Nat→D→D→D→D→b9→Prop)
  (step:∀n x1 x2 x5 x8 S,I n x1 x2 x5 x8 S→b3H E w0 x (fun x1 x2 x5 x8 S=>∃m,m<n∧I m x1 x2 x5 x8 S) Q x1 x2 x5 x8 S)
  {n:Nat} {x1 x2 x5 x8:D} {S:b9} (h:I n x1 x2 x5 x8 S):j0 Tryz.prog E w0 x (.loop b2P) (j9 135 [1,2,5,8] [x1,x2,x5,x8]) S (b2F E w0 x Q):=
 o3 (k:=135) (n:=n) (I:=fun n T S=>I n (T.getD 1 d9) (T.getD 2 d9) (T.getD 5 d9) (T.getD 8 d9) S) (fun n T S hl hI=>o5 [1,2,5,8] hl (j0.mono (c5T (step n _ _ _ _ S hI)) fun ex T' S' _ hq=>by cases ex<;>exact hq)) (l8 ..) (Eq.mp (by kernel_rfl) h)
noncomputable def b2Q:Code:=(j4 [1,1,0,1,0,0] (Tryz.f5.body.getD .skip))
def b3J(E:j6)(w0:World)(x:Bool)(Q:D→b9→Prop):o6→List D→b9→Prop:=
 (o8 0 (w6 Tryz.prog E w0 x R8 R7 (j4 [1,1,1] (Tryz.f5.body.getD .skip)) (z7 Tryz.prog Tryz.f5 Q)))
def b3e(E:j6)(w0:World)(x:Bool)(N0:D→D→D→D→b9→Prop)(Q:D→b9→Prop)(x1 x2 x5 x6:D)(S:b9):Prop:=
 b7 (i5 0 x2) fun v13=>
 b7 (b8 S v13) fun v14=>
 b7 (l9 v14) fun v15=>
 b7 (i6 .lss x6 v15) fun v16=>
 b7 (i4 (i0 v16 true) (some x5)) fun v17=>
 b7 (i4 (i0 v16 true) (some x1)) fun v18=>
 b7 (i4 (i0 v16 true) (i6 .leq v17 v18)) fun v19=>
 b7 (o7 v16 v19 (.bool false)) fun v20=>
 j1 v20
 (b7 (i5 0 x2) fun v21=>
 b7 (b8 S v21) fun v22=>(True)∧
 b7 (p6 5 v22 x6) fun v23=>
 b7 (i5 1 v23) fun v24=>
 b7 (b8 S v24) fun v25=>(True)∧
 b7 (J3 v25) fun v26=>(True)∧
 b7 (i6 .add x5 v26) fun v27=>
 b7 (i5 0 x2) fun v28=>
 b7 (b8 S v28) fun v29=>(True)∧
 b7 (p6 5 v29 x6) fun v30=>
 b7 (i5 2 v30) fun v31=>
 b7 (b8 S v31) fun v32=>(True)∧
 b7 (l9 v32) fun v33=>(True)∧
 b7 (i6 .add v27 v33) fun v34=>
 j0 Tryz.prog E w0 x (.loop b3L) (j9 135 [1,2,5,6,7] [x1,x2,v34,x6,(.int .i64 0)]) S (b3y E w0 x N0 Q))
 (j0 Tryz.prog E w0 x (.loop b2P) (j9 135 [1,2,5,8] [x1,x2,x5,(.int .i64 0)]) S (b2F E w0 x Q))
theorem c6t{N0:D→D→D→D→b9→Prop}{Q:D→b9→Prop}{x1 x2 x5 x6:D}{S:b9}(h:b3e E w0 x N0 Q x1 x2 x5 x6 S):
  j0 Tryz.prog E w0 x b2Q (j9 135 [1,2,5,6] [x1,x2,x5,x6]) S (q8 (fun T S=>N0 (T.getD 1 d9) (T.getD 2 d9) (T.getD 5 d9) (T.getD 6 d9) S) (b3J E w0 x Q)):=j3 R8 R7 m7 (by kernel_rfl) h
theorem c6q(I:Nat→D→D→D→D→b9→Prop)
  (step:∀n x1 x2 x5 x6 S,I n x1 x2 x5 x6 S→b3e E w0 x (fun x1 x2 x5 x6 S=>∃m,m<n∧I m x1 x2 x5 x6 S) Q x1 x2 x5 x6 S)
  {n:Nat} {x1 x2 x5 x6:D} {S:b9} (h:I n x1 x2 x5 x6 S):j0 Tryz.prog E w0 x (.loop b2Q) (j9 135 [1,2,5,6] [x1,x2,x5,x6]) S (b3J E w0 x Q):=
 o3 (k:=135) (n:=n) (I:=fun n T S=>I n (T.getD 1 d9) (T.getD 2 d9) (T.getD 5 d9) (T.getD 6 d9) S) (fun n T S hl hI=>o5 [1,2,5,6] hl (j0.mono (c6t (step n _ _ _ _ S hI)) fun ex T' S' _ hq=>by cases ex<;>exact hq)) (l8 ..) (Eq.mp (by kernel_rfl) h)
def c7b(E:j6)(w0:World)(x:Bool)(Q:D→b9→Prop)(a0 a1:D)(S:b9):Prop:=
 b7 (q6 a0) fun cs=>m8 S cs fun v0 S1=>
 b7 (i5 0 v0) fun v2=>
 b7 (b8 S1 v2) fun v3=>
 b7 (l9 v3) fun v4=>
 b7 (i5 1 v0) fun v5=>
 b7 (b8 S1 v5) fun v6=>
 b7 (l9 v6) fun v7=>
 b7 (i6 .add v4 v7) fun v8=>
 b7 (i5 2 v0) fun v9=>
 b7 (b8 S1 v9) fun v10=>
 b7 (l9 v10) fun v11=>
 b7 (i6 .add v8 v11) fun v12=>
 j0 Tryz.prog E w0 x (.loop b2Q) (j9 135 [1,2,5,6] [a1,v0,v12,(.int .i64 0)]) S1 (b3J E w0 x Q)
theorem d0t{a0 a1:D}{S:b9}(h:c7b E w0 x (i9 E Q) a0 a1 S):o9 Tryz.prog E w0 x b9u [a0,a1] S Q:=
 l7 R8 R7 (fn:=Tryz.f5) (c:=Tryz.f5.body.getD .skip) m7 Tryz.func5 (by kernel_rfl) (by kernel_rfl) h
end Go.Proofs.YtchnpgddpaonhaaGreat.d
end
section
open Go.Proofs Go Go.Am Go.Op
namespace Go.Proofs.YtchnpgddpaonhaaGreat.d
section
def iC(l:List Int):List (List D):=y9 (l.map (D.int .i64))
def iD(l:List Int):D:= .lst (iC l) 1
@[simp] theorem e1Q(l:List Int):(iC l).length=l.length:=by simp[iC]
theorem e0B{l:List Int}{i:Nat}{n:Int}(h:l[i]? =some n):(iC l)[i]? =some [.int .i64 n]:=b5s (by rw[List.getElem?_map,h];rfl)
theorem c0L{l:List Int}{i:Nat}{n:Int}(h:l[i]? =some n):p6 1 (iD l) (.int .i64 (i:Int))=some (.elt [.int .i64 n] 0):=b9k (e0B h)
@[simp] theorem M5(l:List Int):l9 (iD l)=some (.int .i64 l.length):=by simp[iD]
@[simp] theorem c1Q(S:b9)(l:List Int):rowsS S 1 (iD l)=some (iC l):=by simp[iD,rowsS,L2]
theorem a3y(a b:List Int):iC (a++b)=iC a++iC b:=by simp[iC,y9]
def iX(l:List Int):D:= .ext (iC l) (iC [-771, -772, -773]) 1
theorem d8B(l:List Int):Wk (iX l) (iD l):=Wk.ext _ _ _
section
variable{E:j6}{w0:World}
theorem a6v{a b:List Int}(hl:a.length<2^60)(hb:b.length<2^60):L1 Tryz.prog E w0 a1F [iD a,iD b] (.bool (decide (a=b))):=fun x S=>by
 refine c2x ?_
 unfold b6U
 simp only[M5,oD,b7I]
 have e:((a.length:Int) != b.length)=decide (a.length≠b.length):=by
  by_cases h:a.length=b.length<;>simp[h,bne]
  intro h';exact h (by omega)
 rw[e,B3]
 refine⟨fun h=> ?_,fun h=> ?_⟩
 ·rw[decide_eq_false (fun e=>h (by rw[e]))]
  exact i9.pure
 have h:a.length=b.length:=by omega
 refine b7H (I:=fun n x0 x1 x5 S'=>S'=S∧x0=iD a∧x1=iD b∧∃i:Nat,x5= .int .i64 (i:Int)∧i+n=a.length∧a.take i=b.take i) ?_ (n:=a.length) ⟨rfl,rfl,rfl,0,rfl,by omega,rfl⟩
 rintro n _ _ _ _ ⟨rfl,rfl,rfl,i,rfl,hi,ht⟩
 unfold a5k
 simp only[M5,oD,A5]
 rw[B3]
 refine⟨fun hlt=> ?_,fun hge=> ?_⟩
 ·have hlt:i<a.length:=by omega
  have ea:a[i]? =some a[i]:=List.getElem?_eq_getElem hlt
  have eb:b[i]? =some b[i]:=List.getElem?_eq_getElem (by omega)
  simp only[c0L ea,c0L eb,oD,lsE,List.getElem?_cons_zero,b7I]
  refine⟨by trivial,by trivial, ?_⟩
  have e:(a[i] != b[i])=decide (a[i]≠b[i]):=by by_cases h:a[i]=b[i]<;>simp[h,bne]
  rw[e,B3]
  refine⟨fun hne=> ?_,fun he=> ?_⟩
  ·rw[decide_eq_false (fun e=>hne (by simp only[e]))]
   exact i9.pure
  ·rw[s8,oD,j8 (by omega) (by omega)]
   refine⟨n - 1,by omega,by trivial,by trivial,by trivial,i+1,rfl,by omega, ?_⟩
   rw[List.take_add_one,List.take_add_one,ht,ea,eb,Classical.not_not.1 he]
 ·rw[List.take_of_length_le (by omega),List.take_of_length_le (by omega)]at ht
  rw[decide_eq_true ht]
  exact i9.pure
theorem b4u{l:List Int}(hl:l.length<2^30):L1 Tryz.prog E w0 a4q [iD l] (iX l):=fun x S=>by
 refine c1q ?_
 unfold b5X
 refine(Grw.nil S 1).push (c1Q _ _) (by simp;omega) fun t S1 g=> ?_
 refine b7U (I:=fun n x0 x3 x4 S'=>x0=iD l∧∃j:Nat,x4= .int .i64 (j:Int)∧j+n=3∧((j<3∧Grw S x3 (iC (l++[-771, -772, -773].take j)) 1 S')∨(j=3∧x3=iD (l++[-771, -772, -773])∧S'=S))) ?_ (n:=3) ⟨rfl,0,rfl,by omega, .inl ⟨by omega,by simpa using g⟩⟩
 rintro n _ x3 _ S2 ⟨rfl,j,rfl,hj,hc⟩
 unfold a5m
 rw[A5,oD,B3]
 refine⟨fun hlt=> ?_,fun hge=> ?_⟩
 ·obtain⟨_,g⟩:=hc.resolve_right fun h=>by omega
  rw[a4S,oD,j8 (by omega) (by omega)]
  have hr:m9 1 (List.replicate 1 [D.int .i64 0]) [(0, .int .i64 (-771 - (j:Int)))]=some (iC [-771 - (j:Int)]):=rfl
  rw[hr]
  refine F5 rfl ?_
  have hm:l++List.take j [-771, -772, -773]++[-771 - (j:Int)]=l++List.take (j+1) [-771, -772, -773]:=by
   rcases j with _|_|_|j
   ·simp
   ·simp
   ·simp
   ·omega
  by_cases h2:j=2
  ·subst h2
   refine g.last (news:=iC [-771 - ((2:Nat):Int)]) rfl (by simp[iC,y9]) (by simp;omega) ?_
   rw[s8,oD,j8 (by omega) (by omega), ←a3y,hm]
   exact⟨0,by omega,rfl,3,rfl,rfl, .inr ⟨rfl,rfl,rfl⟩⟩
  ·refine g.push (news:=iC [-771 - (j:Int)]) rfl (by simp;omega) fun t' S' g'=> ?_
   rw[s8,oD,j8 (by omega) (by omega)]
   rw[←a3y,hm]at g'
   exact⟨n - 1,by omega,rfl,j+1,rfl,by omega, .inl ⟨by omega,g'⟩⟩
 ·obtain⟨h3,rfl,rfl⟩:=hc.resolve_left fun h=>by omega
  rw[M5,oD,iD,d7z (by simp),oD]
  rw[a3y,List.take_left' (by simp),List.drop_left' (by simp)]
  exact i9.pure
theorem b4A{l:List Int}(hl:l.length<2^60):L1 Tryz.prog E w0 a4v [iX l,iD l] (.bool true):=fun x S=>by
 refine c1V ?_
 unfold b5W
 refine DF.weak (es:=[iD l,iD l]) ⟨d8B l,Wk.refl _,trivial⟩ ((a6v hl hl).use ?_)
 rw[unN,oD,decide_eq_true rfl,Bool.not_true,cdF,M5,oD,s8,oD,j8 (by omega) (by omega)]
 have e:((l.length:Int)+3)=((l.length+3:Nat):Int):=by omega
 rw[e,iX,e1G (by simp),oD]
 have e2:c9F ((iC l++iC [-771, -772, -773]).take (l.length+3)) ((iC l++iC [-771, -772, -773]).drop (l.length+3)) 1=iD (l++[-771, -772, -773]):=by
  rw[←a3y,List.take_of_length_le (by simp),List.drop_of_length_le (by simp)];rfl
 rw[e2]
 refine b7E (I:=fun n x1 x5 x6 S'=>S'=S∧x1=iD l∧x5=iD (l++[-771, -772, -773])∧∃j:Nat,x6= .int .i64 (j:Int)∧j+n=3) ?_ (n:=3) ⟨rfl,rfl,rfl,0,rfl,rfl⟩
 rintro n _ _ _ _ ⟨rfl,rfl,rfl,j,rfl,hj⟩
 unfold a4W
 rw[A5,oD,B3]
 refine⟨fun hlt=> ?_,fun hge=> ?_⟩
 ·have ej:(l++[-771, -772, -773]:List Int)[l.length+j]? =some (-771 - (j:Int)):=by
   rw[List.getElem?_append_right (by omega),Nat.add_sub_cancel_left]
   rcases j with _|_|_|j
   ·rfl
   ·rfl
   ·rfl
   ·omega
  rw[M5,oD,s8,oD,j8 (by omega) (by omega),show(l.length:Int)+(j:Int)=((l.length+j:Nat):Int) by omega,c0L ej,oD,lsE,List.getElem?_cons_zero,oD,a4S,oD,j8 (by omega) (by omega),b7I,oD]
  rw[bne_self_eq_false,cdF,s8,oD,j8 (by omega) (by omega)]
  exact⟨n - 1,by omega,rfl,rfl,rfl,j+1,rfl,by omega⟩
 ·exact i9.pure
end
end
section
def bX(bs:List Int):D:= .ext (y9 (bs.map (D.int .u8))) (y9 [.int .u8 77]) 1
theorem e2c(l:List Int):Wk (bX l) (bD l):=Wk.ext _ _ _
def b8e(bs:List Int):List UInt8:=bs.map fun b=>UInt8.ofNat b.toNat
theorem c7j(l:List Int):(y9 (l.map (D.int .u8))).mapM c7G=some (b8e l):=by
 induction l with
 |nil=>rfl
 |cons b l ih=>
  have:(y9 ((b::l).map (D.int .u8)))=[D.int .u8 b]::y9 (l.map (D.int .u8)):=rfl
  rw[this,List.mapM_cons,ih]
  rfl
theorem c4N(S:b9)(l:List Int):P6 S (bD l)=some (.str (b8e l)):=by
 have:L2 S 1 (bD l)=some (y9 (l.map (D.int .u8))):=by simp[bD,L2]
 simp only[P6,this,c7j,Option.map_some]
theorem e2d(S:b9)(l:List Int):P6 S (bX l)=some (.str (b8e l)):=by
 have:L2 S 1 (bX l)=some (y9 (l.map (D.int .u8))):=by simp[bX,L2]
 simp only[P6,this,c7j,Option.map_some]
@[simp] theorem e1P(S:b9)(arms:List (Int×Int)):rowsS S 2 (a7v arms)=some (arms.map a0g):=by simp[a7v,rowsS,L2]
def e1i(r k:Option Bool):Option Bool:=match r with
 |some true=>k
 |r=>r
theorem d9C(a b:Bool):e1i (some a) (some b)=some (a&&b):=by cases a<;>rfl
theorem c8a(a b:Int):(a != b)=decide (a≠b):=by by_cases h:a=b<;>simp[h,bne]
section
variable{E:j6}{w0:World}
theorem c5A{l:List Int}(hl:l.length<2^30):L1 Tryz.prog E w0 a9h [bD l] (bX l):=fun x S=>by
 refine c1n ?_
 unfold b7c
 refine(Grw.nil S 1).push (a7h _ _) (by simp;omega) fun t S1 g=> ?_
 refine F5 (rows:=y9 [.int .u8 77]) rfl ?_
 refine g.last (news:=y9 [.int .u8 77]) rfl (by simp[y9]) (by simp;omega) ?_
 rw[I8,oD,List.nil_append,d7z (by simp),oD,List.take_left' (by simp),List.drop_left' (by simp)]
 exact i9.pure
theorem c6z{l:List Int}(hl:l.length<2^60):L1 Tryz.prog E w0 a8r [bX l,bD l] (.bool true):=fun x S=>by
 refine c0C ?_
 unfold b7h
 rw[e2d,oD,c4N,oD,d5q,beq_self_eq_true]
 simp only[oD,C5,beq_self_eq_true,P7,I8,s8]
 rw[j8 (by omega) (by omega),show((l.length:Int)+1)=((l.length+1:Nat):Int) by omega,bX,e1G (by simp),oD]
 have e2:c9F ((y9 (l.map (D.int .u8))++y9 [.int .u8 77]).take (l.length+1)) ((y9 (l.map (D.int .u8))++y9 [.int .u8 77]).drop (l.length+1)) 1=bD (l++[77]):=by
  rw[List.take_of_length_le (by simp),List.drop_of_length_le (by simp)]
  simp[c9F,bD,y9]
 rw[e2,c4I (i:=l.length) (b:=77) (by simp),oD,lsE,List.getElem?_cons_zero,oD,Y4,oD,C3,oD]
 exact i9.pure
end
end
section
abbrev Tx:=List UInt8
structure Ty where
 kind:Int
 name:Tx
 fields:List (Tx×Int)
 elem:Int
 len:Int
 deriving DecidableEq
structure Ro where
 name:Tx
 params:List Int
 results:List Int
 locals:Int
 stack:Int
 code:List Int
 deriving DecidableEq
structure Mo where
 types:List Ty
 texts:List Tx
 funcs:List Ro
 deriving DecidableEq
structure Ty.Ok (t:Ty):Prop where
 kind:0≤t.kind∧t.kind≤255
 name:t.name.length<2^47
 fields:t.fields.length<2^47
 names:∀f∈t.fields,f.1.length<2^47∧I64 f.2
 elem:I64 t.elem
 len:I64 t.len
structure Ro.Ok (r:Ro):Prop where
 name:r.name.length<2^47
 params:r.params.length<2^47
 results:r.results.length<2^47
 ints:∀n∈r.params++r.results,I64 n
 locals:I64 r.locals
 stack:I64 r.stack
 code:r.code.length<2^47
 bytes:∀b∈r.code,Y9 b
structure Mo.Ok (m:Mo):Prop where
 types:m.types.length<2^47
 texts:m.texts.length<2^47
 funcs:m.funcs.length<2^47
 ty:∀t∈m.types,t.Ok
 tx:∀t∈m.texts,t.length<2^47
 ro:∀r∈m.funcs,r.Ok
def O1(f:Tx×Int):List D:=[.str f.1, .int .i64 f.2]
def O9(fs:List (Tx×Int)):D:= .lst (fs.map O1) 2
def B9(t:Ty):List D:=[.int .u8 t.kind, .str t.name,O9 t.fields, .int .i64 t.elem, .int .i64 t.len]
def b1E(l:List Ty):D:= .lst (l.map B9) 5
def a6A(l:List Tx):D:= .lst (y9 (l.map D.str)) 1
def F9(r:Ro):List D:=[.str r.name,iD r.params,iD r.results, .int .i64 r.locals, .int .i64 r.stack,bD r.code]
def b1r(l:List Ro):D:= .lst (l.map F9) 6
def F8(m:Mo):List D:=[b1E m.types,a6A m.texts,b1r m.funcs]
def Z0(m:Mo):D:= .agg (F8 m)
theorem V2{l:List (Tx×Int)}{i:Nat}{y:Tx×Int}(h:l[i]? =some y):p6 2 (O9 l) (.int .i64 (i:Int))=some (.elt (O1 y) 0):=b9k (by rw[List.getElem?_map,h];rfl)
theorem a0l{l:List Ty}{i:Nat}{y:Ty}(h:l[i]? =some y):p6 5 (b1E l) (.int .i64 (i:Int))=some (.elt (B9 y) 0):=b9k (by rw[List.getElem?_map,h];rfl)
theorem a7t{l:List Tx}{i:Nat}{y:Tx}(h:l[i]? =some y):p6 1 (a6A l) (.int .i64 (i:Int))=some (.elt [.str y] 0):=b9k (b5s (by rw[List.getElem?_map,h];rfl))
theorem a1k{l:List Ro}{i:Nat}{y:Ro}(h:l[i]? =some y):p6 6 (b1r l) (.int .i64 (i:Int))=some (.elt (F9 y) 0):=b9k (by rw[List.getElem?_map,h];rfl)
@[simp] theorem B0(l:List (Tx×Int)):l9 (O9 l)=some (.int .i64 l.length):=by simp[O9]
@[simp] theorem G6(l:List Ty):l9 (b1E l)=some (.int .i64 l.length):=by simp[b1E]
@[simp] theorem J9(l:List Tx):l9 (a6A l)=some (.int .i64 l.length):=by simp[a6A]
@[simp] theorem I9(l:List Ro):l9 (b1r l)=some (.int .i64 l.length):=by simp[b1r]
@[simp] theorem d6V(S:b9)(p:Tx×Int):j2 S 2 (.elt (O1 p) 0)=some (.agg (O1 p)):=(rfl)
@[simp] theorem d0l(S:b9)(p:Ty):j2 S 5 (.elt (B9 p) 0)=some (.agg (B9 p)):=(rfl)
@[simp] theorem d0n(S:b9)(p:Ro):j2 S 6 (.elt (F9 p) 0)=some (.agg (F9 p)):=(rfl)
theorem d3F(a b:Tx):(a==b)=decide (a=b):=by by_cases h:a=b<;>simp[h]
theorem e3d(a b:Tx):(!(a==b))=decide (a≠b):=by by_cases h:a=b<;>simp[h]
theorem e2q(a b:Tx):a3I .neq (.str a) (.str b)=some (.bool (decide (a≠b))):=by rw[d7s,e3d]
theorem e2n(a b:Tx):a3I .eql (.str a) (.str b)=some (.bool (decide (a=b))):=by rw[d5q,d3F]
theorem c7c(k:IntKind)(a b:Int):i6 .neq (.int k a) (.int k b)=some (.bool (decide (a≠b))):=by rw[b7I,c8a]
theorem a0i(k:IntKind)(a b:Int):i6 .eql (.int k a) (.int k b)=some (.bool (decide (a=b))):=by rw[Y4,a7l]
theorem e1E(p q:Tx×Int):d8w Tryz.prog b6a (.agg (O1 p)) (.agg (O1 q))=some (decide (p=q)):=by
 have h:d8w Tryz.prog b6a (.agg (O1 p)) (.agg (O1 q))=e1i (some (p.1==q.1)) (e1i (some (p.2==q.2)) (some true)):=by kernel_rfl
 rw[h,d9C,d9C,Bool.and_true]
 congr 1
 rw[a7l,d3F, ←Bool.decide_and]
 congr 1
 rw[Prod.ext_iff]
theorem d3X:∀ {a b:List Int},(∀x∈a,Y9 x)→(∀x∈b,Y9 x)→b8e a=b8e b→a=b
 | [],[],_,_,_=>rfl
 | [],_::_,_,_,h=>by simp[b8e]at h
 |_::_,[],_,_,h=>by simp[b8e]at h
 |x::a,y::b,ha,hb,h=>by
  simp only[b8e,List.map_cons,List.cons.injEq]at h
  obtain⟨h1,h2⟩:=h
  have hx:=ha x List.mem_cons_self
  have hy:=hb y List.mem_cons_self
  have e:=congrArg UInt8.toNat h1
  obtain⟨x0,x1⟩:=hx
  obtain⟨y0,y1⟩:=hy
  simp only[UInt8.toNat_ofNat']at e
  have hxy:x=y:=by omega
  rw[hxy,d3X (fun z hz=>ha z (List.mem_cons_of_mem _ hz)) (fun z hz=>hb z (List.mem_cons_of_mem _ hz)) h2]
section
variable{E:j6}{w0:World}
theorem t1:(true==false)=false:=rfl
theorem t2:(false==false)=true:=rfl
theorem t3:(false==true)=false:=rfl
theorem t4:(true==true)=true:=rfl
theorem c2y{a b:List (Tx×Int)}(hl:a.length<2^60)(hb:b.length<2^60):L1 Tryz.prog E w0 a5c [O9 a,O9 b] (.bool (decide (a=b))):=fun x S=>by
 refine b7R ?_
 unfold b2n
 simp only[B0,oD,b7I]
 rw[c8a,B3]
 refine⟨fun h=> ?_,fun h=> ?_⟩
 ·rw[decide_eq_false (fun e=>h (by rw[e]))]
  exact i9.pure
 have h:a.length=b.length:=by omega
 refine b4U (I:=fun n x0 x1 x5 S'=>S'=S∧x0=O9 a∧x1=O9 b∧∃i:Nat,x5= .int .i64 (i:Int)∧i+n=a.length∧a.take i=b.take i) ?_ (n:=a.length) ⟨rfl,rfl,rfl,0,rfl,by omega,rfl⟩
 rintro n _ _ _ _ ⟨rfl,rfl,rfl,i,rfl,hi,ht⟩
 unfold a3j
 simp only[B0,oD,A5]
 rw[B3]
 refine⟨fun hlt=> ?_,fun hge=> ?_⟩
 ·have hlt:i<a.length:=by omega
  have ea:a[i]? =some a[i]:=List.getElem?_eq_getElem hlt
  have eb:b[i]? =some b[i]:=List.getElem?_eq_getElem (by omega)
  simp only[V2 ea,V2 eb,oD,d6V,e1E,eqN]
  refine⟨by trivial,by trivial, ?_⟩
  rw[←decide_not,B3]
  refine⟨fun hne=> ?_,fun he=> ?_⟩
  ·rw[decide_eq_false (fun e=>hne (by simp only[e]))]
   exact i9.pure
  ·rw[s8,oD,j8 (by omega) (by omega)]
   refine⟨n - 1,by omega,by trivial,by trivial,by trivial,i+1,rfl,by omega, ?_⟩
   rw[List.take_add_one,List.take_add_one,ht,ea,eb,Classical.not_not.1 he]
 ·rw[List.take_of_length_le (by omega),List.take_of_length_le (by omega)]at ht
  rw[decide_eq_true ht]
  exact i9.pure
theorem c5U{y z:Ty}(hy:y.Ok)(hz:z.Ok):L1 Tryz.prog E w0 a8i [.agg (B9 y), .agg (B9 z)] (.bool (decide (y=z))):=fun x S=>by
 refine c2t ?_
 unfold b6l
 rw[J5,oD]
 intro k a n
 rw[J5,oD]
 intro k2 a2 n2
 obtain⟨ne2,n2'⟩:=b9.fresh n2
 generalize hS3:(S.set k _).set k2 _=S3
 have h2:S3 k2=some ⟨5,[B9 z],a2⟩:=by rw[←hS3];exact b9.set_same _ _ _
 have h0:S3 k=some ⟨5,[B9 y],a⟩:=by rw[←hS3,b9.set_ne _ _ _ (Ne.symm ne2)];exact b9.set_same _ _ _
 have hle:S.le S3:=by rw[←hS3];exact b9.le_set (b9.le_new n) n2'
 have hx:∀y:Ty,(B9 y)[0]? =some (.int .u8 y.kind)∧(B9 y)[1]? =some (.str y.name)∧(B9 y)[2]? =some (O9 y.fields)∧(B9 y)[3]? =some (.int .i64 y.elem)∧(B9 y)[4]? =some (.int .i64 y.len):=fun _=>⟨rfl,rfl,rfl,rfl,rfl⟩
 have fin:∀b:Bool,decide (y=z)=b→i9 E (fun d' S'=>d'=D.bool (decide (y=z))∧S'=S) (.bool b) S3:=fun b h=>by rw[h];exact i9.less hle i9.pure
 simp only[u5,oD,D5 h2,D5 h0,Nat.zero_add,(hx y).1,(hx z).1,Y4]
 rw[a7l]
 by_cases c1:y.kind=z.kind
 ·rw[decide_eq_true c1]
  simp only[C5,t4,P7,oD,D5 h2,D5 h0,(hx y).2.1,(hx z).2.1,d5q,C3,if_true]
  rw[d3F]
  by_cases c2:y.name=z.name
  ·rw[decide_eq_true c2]
   simp only[C5,t4,P7,oD,D5 h2,D5 h0,(hx y).2.2.2.1,(hx z).2.2.2.1,Y4,C3,if_true]
   rw[a7l]
   by_cases c3:y.elem=z.elem
   ·rw[decide_eq_true c3]
    simp only[C5,t4,P7,oD,D5 h2,D5 h0,(hx y).2.2.2.2,(hx z).2.2.2.2,Y4,C3,if_true]
    rw[a7l]
    by_cases c4:y.len=z.len
    ·rw[decide_eq_true c4]
     simp only[C5,t4,P7,oD,D5 h2,D5 h0,(hx y).2.2.1,(hx z).2.2.1,gdT]
     have:=hy.fields;have:=hz.fields
     refine(c2y (by omega) (by omega)).use ?_
     rw[if_pos trivial]
     refine fin _ ?_
     congr 1
     refine propext ⟨fun e=>by rw[e],fun e=> ?_⟩
     obtain⟨y1,y2,y3,y4,y5⟩:=y
     obtain⟨z1,z2,z3,z4,z5⟩:=z
     simp only at c1 c2 c3 c4 e
     simp only[c1,c2,c3,c4,e]
    ·rw[decide_eq_false c4]
     simp only[C5,t3,vdF,gdF,oD,C3,Bool.false_eq_true,if_false]
     exact fin false (decide_eq_false fun e=>c4 (by rw[e]))
   ·rw[decide_eq_false c3]
    simp only[C5,t3,vdF,gdF,oD,C3,Bool.false_eq_true,if_false]
    exact fin false (decide_eq_false fun e=>c3 (by rw[e]))
  ·rw[decide_eq_false c2]
   simp only[C5,t3,vdF,gdF,oD,C3,Bool.false_eq_true,if_false]
   exact fin false (decide_eq_false fun e=>c2 (by rw[e]))
 ·rw[decide_eq_false c1]
  simp only[C5,t3,vdF,gdF,oD,C3,Bool.false_eq_true,if_false]
  exact fin false (decide_eq_false fun e=>c1 (by rw[e]))
theorem c0a{y z:Ro}(hy:y.Ok)(hz:z.Ok):L1 Tryz.prog E w0 a3Q [.agg (F9 y), .agg (F9 z)] (.bool (decide (y=z))):=fun x S=>by
 refine b6L ?_
 unfold b0J
 rw[J5,oD]
 intro k a n
 rw[J5,oD]
 intro k2 a2 n2
 obtain⟨ne2,n2'⟩:=b9.fresh n2
 generalize hS3:(S.set k _).set k2 _=S3
 have h2:S3 k2=some ⟨6,[F9 z],a2⟩:=by rw[←hS3];exact b9.set_same _ _ _
 have h0:S3 k=some ⟨6,[F9 y],a⟩:=by rw[←hS3,b9.set_ne _ _ _ (Ne.symm ne2)];exact b9.set_same _ _ _
 have hle:S.le S3:=by rw[←hS3];exact b9.le_set (b9.le_new n) n2'
 have hx:∀y:Ro,(F9 y)[0]? =some (.str y.name)∧(F9 y)[1]? =some (iD y.params)∧(F9 y)[2]? =some (iD y.results)∧(F9 y)[3]? =some (.int .i64 y.locals)∧(F9 y)[4]? =some (.int .i64 y.stack)∧(F9 y)[5]? =some (bD y.code):=fun _=>⟨rfl,rfl,rfl,rfl,rfl,rfl⟩
 have fin:∀b:Bool,decide (y=z)=b→i9 E (fun d' S'=>d'=D.bool (decide (y=z))∧S'=S) (.bool b) S3:=fun b h=>by rw[h];exact i9.less hle i9.pure
 have hp1:=hy.params;have hp2:=hz.params;have hr1:=hy.results;have hr2:=hz.results
 simp only[u5,oD,D5 h2,D5 h0,Nat.zero_add,(hx y).1,(hx z).1,d5q]
 rw[d3F]
 by_cases c1:y.name=z.name
 ·rw[decide_eq_true c1]
  simp only[C5,t4,P7,oD,D5 h2,D5 h0,(hx y).2.2.2.1,(hx z).2.2.2.1,Y4,C3,if_true]
  rw[a7l]
  by_cases c2:y.locals=z.locals
  ·rw[decide_eq_true c2]
   simp only[C5,t4,P7,oD,D5 h2,D5 h0,(hx y).2.2.2.2.1,(hx z).2.2.2.2.1,Y4,C3,if_true]
   rw[a7l]
   by_cases c3:y.stack=z.stack
   ·rw[decide_eq_true c3]
    simp only[C5,t4,P7,oD,D5 h2,D5 h0,(hx y).2.1,(hx z).2.1,gdT,C3,if_true]
    refine(a6v (by omega) (by omega)).use ?_
    by_cases c4:y.params=z.params
    ·rw[decide_eq_true c4]
     simp only[C5,t4,P7,oD,D5 h2,D5 h0,(hx y).2.2.1,(hx z).2.2.1,gdT,C3,if_true]
     refine(a6v (by omega) (by omega)).use ?_
     by_cases c5:y.results=z.results
     ·rw[decide_eq_true c5]
      simp only[C5,t4,P7,oD,D5 h2,D5 h0,(hx y).2.2.2.2.2,(hx z).2.2.2.2.2,c4N,d5q,C3,if_true]
      rw[d3F]
      refine fin _ ?_
      congr 1
      refine propext ⟨fun e=>by rw[e],fun e=> ?_⟩
      have e:=d3X hy.bytes hz.bytes e
      obtain⟨y1,y2,y3,y4,y5,y6⟩:=y
      obtain⟨z1,z2,z3,z4,z5,z6⟩:=z
      simp only at c1 c2 c3 c4 c5 e
      simp only[c1,c2,c3,c4,c5,e]
     ·rw[decide_eq_false c5]
      simp only[C5,t3,vdF,gdF,oD,C3,Bool.false_eq_true,if_false]
      exact fin false (decide_eq_false fun e=>c5 (by rw[e]))
    ·rw[decide_eq_false c4]
     simp only[C5,t3,vdF,gdF,oD,C3,Bool.false_eq_true,if_false]
     exact fin false (decide_eq_false fun e=>c4 (by rw[e]))
   ·rw[decide_eq_false c3]
    simp only[C5,t3,vdF,gdF,oD,C3,Bool.false_eq_true,if_false]
    exact fin false (decide_eq_false fun e=>c3 (by rw[e]))
  ·rw[decide_eq_false c2]
   simp only[C5,t3,vdF,gdF,oD,C3,Bool.false_eq_true,if_false]
   exact fin false (decide_eq_false fun e=>c2 (by rw[e]))
 ·rw[decide_eq_false c1]
  simp only[C5,t3,vdF,gdF,oD,C3,Bool.false_eq_true,if_false]
  exact fin false (decide_eq_false fun e=>c1 (by rw[e]))
end
end
end Go.Proofs.YtchnpgddpaonhaaGreat.d
end
