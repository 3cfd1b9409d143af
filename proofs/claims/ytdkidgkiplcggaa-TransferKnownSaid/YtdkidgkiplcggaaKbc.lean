/-
  TransferKnownSaid: part Kbc of its proof.
-/
import Derived.Test.YtdkidgkiplcggaaRows
import Derived.Test.YtdkidgkiplcggaaKar
import Derived.KernelRfl
import Derived.Test.YtdkidgkiplcggaaKat
import Derived.Test.YtdkidgkiplcggaaKav
import Derived.Test.YtdkidgkiplcggaaKax
set_option linter.unusedVariables false
set_option linter.unusedSimpArgs false
set_option maxRecDepth 100000
section
open Go.Proofs Go Go.Am
namespace Go.Proofs.Ytdkidgkiplcggaa.d
def b0Q:List (Nat×List Nat):=[(4,[0,3])]
def b0P:List (Nat×List Nat):=[]
def b0I:List (Nat×V5):=[]
noncomputable def a8O:Code:=(j9 [1,1,0,0,0] (Try.f140.body.getD .skip))
def a9j(E:i9)(w0:j7)(Q:D→b8→Prop):o7→List D→b8→Prop:=
 (r8 0 (L3 Try.prog E w0 b0Q b0P b0I (j9 [1,1,1] (Try.f140.body.getD .skip)) (F3 Try.prog Try.f140 Q)))
def a8U(E:i9)(w0:j7)(N0:D→D→b8→Prop)(Q:D→b8→Prop)(x0 x3:D)(S:b8):Prop:=
 b7 (f9 .geq x0 (.int .u64 128)) fun v2=>
 i5 v2
 (b7 (K1 .u8 x0) fun v3=>
 b7 (f9 .or v3 (.int .u8 128)) fun v4=>
 m8 S 1 (j1 1 (List.replicate 1 [(.int .u8 0)]) [(0,v4)]) 1 fun v5 S6=>
 s8 S6 1 1 x3 v5 fun v7 S8=>
 b7 (f9 .shr x0 (.int .u64 7)) fun v9=>
 N0 v9 v7 S8)
 (b7 (K1 .u8 x0) fun v10=>
 m8 S 1 (j1 1 (List.replicate 1 [(.int .u8 0)]) [(0,v10)]) 1 fun v11 S12=>
 s8 S12 1 1 x3 v11 fun v13 S14=>
 Q v13 S14)
theorem b8O{E:i9}{w0:j7}{N0:D→D→b8→Prop}{Q:D→b8→Prop}{x0 x3:D}{S:b8}(h:a8U E w0 N0 Q x0 x3 S):
  j3 Try.prog E w0 a8O (l9 20 [0,3] [x0,x3]) S (D8 (fun T S=>N0 (T.getD 0 c9) (T.getD 3 c9) S) (a9j E w0 Q)):=j0 b0Q b0P b0I mixed (by kernel_rfl) h
theorem b8H{E:i9}{w0:j7}{Q:D→b8→Prop}(I:Nat→D→D→b8→Prop)
  (step:∀n x0 x3 S,I n x0 x3 S→a8U E w0 (fun x0 x3 S=>∃m,m<n∧I m x0 x3 S) Q x0 x3 S)
  {n:Nat} {x0 x3:D} {S:b8} (h:I n x0 x3 S):j3 Try.prog E w0 (.loop a8O) (l9 20 [0,3] [x0,x3]) S (a9j E w0 Q):=
 q9 (k:=20) (n:=n) (I:=fun n T S=>I n (T.getD 0 c9) (T.getD 3 c9) S) (fun n T S hl hI=>s4 [0,3] hl (j3.mono (b8O (step n _ _ S hI)) fun ex T' S' _ hq=>by cases ex<;>exact hq)) (o5 ..) (Eq.mp (by kernel_rfl) h)
def c0Q(E:i9)(w0:j7)(Q:D→b8→Prop)(a0:D)(S:b8):Prop:=
 b1T S 1 1 [(.int .u8 0)] (.int .i64 0) (.int .i64 10) fun v0 S1=>
 j3 Try.prog E w0 (.loop a8O) (l9 20 [0,3] [a0,v0]) S1 (a9j E w0 Q)
theorem c2D{E:i9}{w0:j7}{Q:D→b8→Prop}{a0:D}{S:b8}(h:c0Q E w0 (d9 E Q) a0 S):j6 Try.prog E w0 b3C [a0] S Q:=
 j4 b0Q b0P b0I (fn:=Try.f140) (c:=Try.f140.body.getD .skip) mixed Try.func140 (by kernel_rfl) (by kernel_rfl) h
def a2f:List (Nat×List Nat):=[(6,[3,6,7,8]),(14,[3,6,7,8,16])]
def a2d:List (Nat×List Nat):=[]
def a2n:List (Nat×V5):=[]
noncomputable def a9N:Code:=(j9 [1,1,0,1,0,0,1,1,0,0,1,1,1,0,0] (Try.f103.body.getD .skip))
def a9F(E:i9)(w0:j7)(N0:D→D→D→D→b8→Prop)(Q:D→b8→Prop):o7→List D→b8→Prop:=
 (r8 2 (r8 1 (L3 Try.prog E w0 a2f a2d a2n (j9 [1,1,0,1,0,0,1,1,1] (Try.f103.body.getD .skip)) (D8 (fun T S=>N0 (T.getD 3 c9) (T.getD 6 c9) (T.getD 7 c9) (T.getD 8 c9) S) (r8 0 (L3 Try.prog E w0 a2f a2d a2n (j9 [1,1,1] (Try.f103.body.getD .skip)) (F3 Try.prog Try.f103 Q)))))))
def a9t(E:i9)(w0:j7)(N0:D→D→D→D→b8→Prop)(N1:D→D→D→D→D→b8→Prop)(Q:D→b8→Prop)(x3 x6 x7 x8 x16:D)(S:b8):Prop:=
 b7 (f9 .lss x16 (.int .i64 8)) fun v6=>
 i5 v6
 (b7 (f9 .shr x3 (.int .u64 1)) fun v7=>
 b7 (f9 .and x3 (.int .u32 1)) fun v8=>
 b7 (unD .neg v8) fun v9=>
 b7 (f9 .and (.int .u32 3988292384) v9) fun v10=>
 b7 (f9 .xor v7 v10) fun v11=>
 b7 (f9 .add x16 (.int .i64 1)) fun v12=>
 N1 v11 x6 x7 x8 v12 S)
 (b7 (f9 .add x8 (.int .i64 1)) fun v13=>
 N0 x3 x6 x7 v13 S)
theorem b8v{E:i9}{w0:j7}{N0:D→D→D→D→b8→Prop}{N1:D→D→D→D→D→b8→Prop}{Q:D→b8→Prop}{x3 x6 x7 x8 x16:D}{S:b8}(h:a9t E w0 N0 N1 Q x3 x6 x7 x8 x16 S):
  j3 Try.prog E w0 a9N (l9 29 [3,6,7,8,16] [x3,x6,x7,x8,x16]) S (D8 (fun T S=>N1 (T.getD 3 c9) (T.getD 6 c9) (T.getD 7 c9) (T.getD 8 c9) (T.getD 16 c9) S) (a9F E w0 N0 Q)):=j0 a2f a2d a2n mixed (by kernel_rfl) h
theorem b8w{E:i9}{w0:j7}{N0:D→D→D→D→b8→Prop}{Q:D→b8→Prop}(I:Nat→D→D→D→D→D→b8→Prop)
  (step:∀n x3 x6 x7 x8 x16 S,I n x3 x6 x7 x8 x16 S→a9t E w0 N0 (fun x3 x6 x7 x8 x16 S=>∃m,m<n∧I m x3 x6 x7 x8 x16 S) Q x3 x6 x7 x8 x16 S)
  {n:Nat} {x3 x6 x7 x8 x16:D} {S:b8} (h:I n x3 x6 x7 x8 x16 S):j3 Try.prog E w0 (.loop a9N) (l9 29 [3,6,7,8,16] [x3,x6,x7,x8,x16]) S (a9F E w0 N0 Q):=
 q9 (k:=29) (n:=n) (I:=fun n T S=>I n (T.getD 3 c9) (T.getD 6 c9) (T.getD 7 c9) (T.getD 8 c9) (T.getD 16 c9) S) (fun n T S hl hI=>s4 [3,6,7,8,16] hl (j3.mono (b8v (step n _ _ _ _ _ S hI)) fun ex T' S' _ hq=>by cases ex<;>exact hq)) (o5 ..) (Eq.mp (by kernel_rfl) h)
noncomputable def a8N:Code:=(j9 [1,1,0,1,0,0] (Try.f103.body.getD .skip))
def a8Q(E:i9)(w0:j7)(Q:D→b8→Prop):o7→List D→b8→Prop:=
 (r8 0 (L3 Try.prog E w0 a2f a2d a2n (j9 [1,1,1] (Try.f103.body.getD .skip)) (F3 Try.prog Try.f103 Q)))
def a8R(E:i9)(w0:j7)(N0:D→D→D→D→b8→Prop)(Q:D→b8→Prop)(x3 x6 x7 x8:D)(S:b8):Prop:=
 b7 (f9 .lss x8 x7) fun v1=>
 i5 v1
 (b7 (p9 1 x6 x8) fun v2=>
 b7 (d0 S v2) fun v3=>
 b7 (K1 .u32 v3) fun v4=>
 b7 (f9 .xor x3 v4) fun v5=>
 j3 Try.prog E w0 (.loop a9N) (l9 29 [3,6,7,8,16] [v5,x6,x7,x8,(.int .i64 0)]) S (a9F E w0 N0 Q))
 (b7 (unD .xor x3) fun v14=>
 Q v14 S)
theorem b8B{E:i9}{w0:j7}{N0:D→D→D→D→b8→Prop}{Q:D→b8→Prop}{x3 x6 x7 x8:D}{S:b8}(h:a8R E w0 N0 Q x3 x6 x7 x8 S):
  j3 Try.prog E w0 a8N (l9 29 [3,6,7,8] [x3,x6,x7,x8]) S (D8 (fun T S=>N0 (T.getD 3 c9) (T.getD 6 c9) (T.getD 7 c9) (T.getD 8 c9) S) (a8Q E w0 Q)):=j0 a2f a2d a2n mixed (by kernel_rfl) h
theorem b8D{E:i9}{w0:j7}{Q:D→b8→Prop}(I:Nat→D→D→D→D→b8→Prop)
  (step:∀n x3 x6 x7 x8 S,I n x3 x6 x7 x8 S→a8R E w0 (fun x3 x6 x7 x8 S=>∃m,m<n∧I m x3 x6 x7 x8 S) Q x3 x6 x7 x8 S)
  {n:Nat} {x3 x6 x7 x8:D} {S:b8} (h:I n x3 x6 x7 x8 S):j3 Try.prog E w0 (.loop a8N) (l9 29 [3,6,7,8] [x3,x6,x7,x8]) S (a8Q E w0 Q):=
 q9 (k:=29) (n:=n) (I:=fun n T S=>I n (T.getD 3 c9) (T.getD 6 c9) (T.getD 7 c9) (T.getD 8 c9) S) (fun n T S hl hI=>s4 [3,6,7,8] hl (j3.mono (b8B (step n _ _ _ _ S hI)) fun ex T' S' _ hq=>by cases ex<;>exact hq)) (o5 ..) (Eq.mp (by kernel_rfl) h)
def c0u(E:i9)(w0:j7)(Q:D→b8→Prop)(a0:D)(S:b8):Prop:=
 b7 (m9 a0) fun v0=>
 j3 Try.prog E w0 (.loop a8N) (l9 29 [3,6,7,8] [(.int .u32 4294967295),a0,v0,(.int .i64 0)]) S (a8Q E w0 Q)
theorem c2P{E:i9}{w0:j7}{Q:D→b8→Prop}{a0:D}{S:b8}(h:c0u E w0 (d9 E Q) a0 S):j6 Try.prog E w0 b4i [a0] S Q:=
 j4 a2f a2d a2n (fn:=Try.f103) (c:=Try.f103.body.getD .skip) mixed Try.func103 (by kernel_rfl) (by kernel_rfl) h
def b2U:List (Nat×List Nat):=[]
def b2H:List (Nat×List Nat):=[]
def b2C:List (Nat×V5):=[]
def a6s(E:i9)(w0:j7)(Q:D→b8→Prop)(a0 a1:D)(S:b8):Prop:=
 b7 (f9 .lss a1 (.int .i64 0)) fun v0=>
 i5 v0
 (b7 (some (D.ifc 9 (.str [99,97,110,110,111,116,32,98,101,32,110,101,103,97,116,105,118,101]))) fun v1=>
 b1D E w0 v1 S)
 (b7 (c6S a0) fun v2=>
 b7 (m9 a0) fun v3=>
 b7 (f9 .sub v2 v3) fun v4=>
 b7 (f9 .sub a1 v4) fun v5=>
 b7 (f9 .gtr v5 (.int .i64 0)) fun v6=>
 i5 v6
 (b7 (c6S a0) fun v7=>
 b7 (a0E 1 a0 none (some v7) none) fun v8=>
 b0U S 1 1 [(.int .u8 0)] v8 v5 fun v9 S10=>
 b7 (m9 a0) fun v11=>
 b7 (a0E 1 v9 none (some v11) none) fun v12=>
 Q v12 S10)
 (Q a0 S))
theorem b0q{E:i9}{w0:j7}{Q:D→b8→Prop}{a0 a1:D}{S:b8}(h:a6s E w0 (d9 E Q) a0 a1 S):j6 Try.prog E w0 a1W [a0,a1] S Q:=
 j4 b2U b2H b2C (fn:=Try.f127) (c:=Try.f127.body.getD .skip) mixed Try.func127 (by kernel_rfl) (by kernel_rfl) h
def H9:List (Nat×List Nat):=[(6,[0,3,9,10,11]),(22,[6,25,26,27])]
def H6:List (Nat×List Nat):=[]
def H5:List (Nat×V5):=[]
noncomputable def Z0:Code:=(j9 [1,1,1,1,0,1,0,0] (Try.f101.body.getD .skip))
def Y8(E:i9)(w0:j7)(Q:D→b8→Prop):o7→List D→b8→Prop:=
 (r8 2 (L3 Try.prog E w0 H9 H6 H5 (j9 [1,1,1,1,1] (Try.f101.body.getD .skip)) (F3 Try.prog Try.f101 Q)))
def X8(E:i9)(w0:j7)(N1:D→D→D→D→b8→Prop)(Q:D→b8→Prop)(x6 x25 x26 x27:D)(S:b8):Prop:=
 b7 (f9 .lss x27 x26) fun v12=>
 i5 v12
 (b7 (p9 1 x25 x27) fun v13=>
 b7 (d0 S v13) fun v14=>
 s8 S 1 1 x6 v14 fun v15 S16=>
 b7 (f9 .add x27 (.int .i64 1)) fun v17=>
 N1 v15 x25 x26 v17 S16)
 (Q x6 S)
theorem a6N{E:i9}{w0:j7}{N1:D→D→D→D→b8→Prop}{Q:D→b8→Prop}{x6 x25 x26 x27:D}{S:b8}(h:X8 E w0 N1 Q x6 x25 x26 x27 S):
  j3 Try.prog E w0 Z0 (l9 36 [6,25,26,27] [x6,x25,x26,x27]) S (D8 (fun T S=>N1 (T.getD 6 c9) (T.getD 25 c9) (T.getD 26 c9) (T.getD 27 c9) S) (Y8 E w0 Q)):=j0 H9 H6 H5 mixed (by kernel_rfl) h
theorem a6R{E:i9}{w0:j7}{Q:D→b8→Prop}(I:Nat→D→D→D→D→b8→Prop)
  (step:∀n x6 x25 x26 x27 S,I n x6 x25 x26 x27 S→X8 E w0 (fun x6 x25 x26 x27 S=>∃m,m<n∧I m x6 x25 x26 x27 S) Q x6 x25 x26 x27 S)
  {n:Nat} {x6 x25 x26 x27:D} {S:b8} (h:I n x6 x25 x26 x27 S):j3 Try.prog E w0 (.loop Z0) (l9 36 [6,25,26,27] [x6,x25,x26,x27]) S (Y8 E w0 Q):=
 q9 (k:=36) (n:=n) (I:=fun n T S=>I n (T.getD 6 c9) (T.getD 25 c9) (T.getD 26 c9) (T.getD 27 c9) S) (fun n T S hl hI=>s4 [6,25,26,27] hl (j3.mono (a6N (step n _ _ _ _ S hI)) fun ex T' S' _ hq=>by cases ex<;>exact hq)) (o5 ..) (Eq.mp (by kernel_rfl) h)
noncomputable def Z1:Code:=(j9 [1,1,0,1,0,0] (Try.f101.body.getD .skip))
def Z3(E:i9)(w0:j7)(Q:D→b8→Prop):o7→List D→b8→Prop:=
 (r8 0 (L3 Try.prog E w0 H9 H6 H5 (j9 [1,1,1] (Try.f101.body.getD .skip)) (F3 Try.prog Try.f101 Q)))
def Z6(E:i9)(w0:j7)(N0:D→D→D→D→D→b8→Prop)(Q:D→b8→Prop)(x0 x3 x9 x10 x11:D)(S:b8):Prop:=
 b7 (f9 .lss x11 x10) fun v1=>
 i5 v1
 (b7 (p9 1 x9 x11) fun v2=>
 b7 (d0 S v2) fun v3=>
 b7 (m9 v3) fun v4=>
 b7 (f9 .add x3 v4) fun v5=>
 b7 (f9 .lss v5 (.int .i64 0)) fun v6=>
 i5 v6
 (b7 (some (D.ifc 9 (.str [108,101,110,32,111,117,116,32,111,102,32,114,97,110,103,101]))) fun v7=>
 b1D E w0 v7 S)
 (b7 (f9 .add x11 (.int .i64 1)) fun v8=>
 N0 x0 v5 x9 x10 v8 S))
 (j6 Try.prog E w0 a1W [.nilSlc,x3] S fun v9 S10=>
 b7 (m9 x0) fun v11=>
 j3 Try.prog E w0 (.loop Z0) (l9 36 [6,25,26,27] [v9,x0,v11,(.int .i64 0)]) S10 (Y8 E w0 Q))
theorem a6U{E:i9}{w0:j7}{N0:D→D→D→D→D→b8→Prop}{Q:D→b8→Prop}{x0 x3 x9 x10 x11:D}{S:b8}(h:Z6 E w0 N0 Q x0 x3 x9 x10 x11 S):
  j3 Try.prog E w0 Z1 (l9 36 [0,3,9,10,11] [x0,x3,x9,x10,x11]) S (D8 (fun T S=>N0 (T.getD 0 c9) (T.getD 3 c9) (T.getD 9 c9) (T.getD 10 c9) (T.getD 11 c9) S) (Z3 E w0 Q)):=j0 H9 H6 H5 mixed (by kernel_rfl) h
theorem a6G{E:i9}{w0:j7}{Q:D→b8→Prop}(I:Nat→D→D→D→D→D→b8→Prop)
  (step:∀n x0 x3 x9 x10 x11 S,I n x0 x3 x9 x10 x11 S→Z6 E w0 (fun x0 x3 x9 x10 x11 S=>∃m,m<n∧I m x0 x3 x9 x10 x11 S) Q x0 x3 x9 x10 x11 S)
  {n:Nat} {x0 x3 x9 x10 x11:D} {S:b8} (h:I n x0 x3 x9 x10 x11 S):j3 Try.prog E w0 (.loop Z1) (l9 36 [0,3,9,10,11] [x0,x3,x9,x10,x11]) S (Z3 E w0 Q):=
 q9 (k:=36) (n:=n) (I:=fun n T S=>I n (T.getD 0 c9) (T.getD 3 c9) (T.getD 9 c9) (T.getD 10 c9) (T.getD 11 c9) S) (fun n T S hl hI=>s4 [0,3,9,10,11] hl (j3.mono (a6U (step n _ _ _ _ _ S hI)) fun ex T' S' _ hq=>by cases ex<;>exact hq)) (o5 ..) (Eq.mp (by kernel_rfl) h)
def a4s(E:i9)(w0:j7)(Q:D→b8→Prop)(a0:D)(S:b8):Prop:=
 b7 (m9 a0) fun v0=>
 j3 Try.prog E w0 (.loop Z1) (l9 36 [0,3,9,10,11] [a0,(.int .i64 0),a0,v0,(.int .i64 0)]) S (Z3 E w0 Q)
theorem a8l{E:i9}{w0:j7}{Q:D→b8→Prop}{a0:D}{S:b8}(h:a4s E w0 (d9 E Q) a0 S):j6 Try.prog E w0 K0 [a0] S Q:=
 j4 H9 H6 H5 (fn:=Try.f101) (c:=Try.f101.body.getD .skip) mixed Try.func101 (by kernel_rfl) (by kernel_rfl) h
def a4N:List (Nat×List Nat):=[]
def a4O:List (Nat×List Nat):=[(4,[0,1])]
def a4X:List (Nat×V5):=[]
noncomputable def b1R:Code:=(j9 [1] (Try.f124.body.getD .skip))
def b0m(E:i9)(w0:j7)(Q:D→b8→Prop):o7→List D→b8→Prop:=
 (F3 Try.prog Try.f124 Q)
def a4g(E:i9)(w0:j7)(Q:D→b8→Prop)(x0 x1:D)(S:b8):Prop:=
 b7 (a0H x0) fun v0=>
 b7 (j5 0 v0) fun v1=>
 b7 (d0 S v1) fun v2=>
 s8 S 1 1 v2 x1 fun v3 S4=>
 b7 (a0H x0) fun v5=>
 b7 (j5 0 v5) fun v6=>
 i7 S4 1 v6 v3 fun v7 S8=>
 Q c9 S8
def Q4(E:i9)(w0:j7)(Q:D→b8→Prop)(x0 x1:D)(S:b8):Prop:=j3 Try.prog E w0 b1R (l9 29 [0,1] [x0,x1]) S (b0m E w0 Q)
theorem a8b{E:i9}{w0:j7}{Q:D→b8→Prop}{x0 x1:D}{S:b8}(h:a4g E w0 Q x0 x1 S):Q4 E w0 Q x0 x1 S:=j0 a4N a4O a4X mixed (by kernel_rfl) h
def a5v(E:i9)(w0:j7)(Q:D→b8→Prop)(a0 a1:D)(S:b8):Prop:=
 b7 (m9 a1) fun v9=>
 b7 (a0H a0) fun v10=>
 b7 (j5 0 v10) fun v11=>
 b7 (d0 S v11) fun v12=>
 b7 (m9 v12) fun v13=>
 b7 (f9 .sub (.int .i64 2097153) v13) fun v14=>
 b7 (f9 .gtr v9 v14) fun v15=>
 i5 v15
 (b7 (a0H a0) fun v16=>
 b7 (j5 0 v16) fun v17=>
 b7 (d0 S v17) fun v18=>
 b7 (m9 v18) fun v19=>
 b7 (f9 .sub (.int .i64 2097153) v19) fun v20=>
 b1T S 1 1 [(.int .u8 0)] v20 v20 fun v21 S22=>
 Q4 E w0 Q a0 v21 S22)
 (Q4 E w0 Q a0 a1 S)
theorem b0s{E:i9}{w0:j7}{Q:D→b8→Prop}{a0 a1:D}{S:b8}(h:a5v E w0 (d9 E Q) a0 a1 S):j6 Try.prog E w0 I3 [a0,a1] S Q:=
 j4 a4N a4O a4X (fn:=Try.f124) (c:=Try.f124.body.getD .skip) mixed Try.func124 (by kernel_rfl) (by kernel_rfl) h
def a9I:List (Nat×List Nat):=[]
def a9O:List (Nat×List Nat):=[]
def a9D:List (Nat×V5):=[]
def a3m(E:i9)(w0:j7)(Q:D→b8→Prop)(a0 a1:D)(S:b8):Prop:=
 b7 (K1 .u64 a1) fun v0=>
 j6 Try.prog E w0 b3C [v0] S fun v1 S2=>
 j6 Try.prog E w0 I3 [a0,v1] S2 fun v3 S4=>
 Q c9 S4
theorem a7v{E:i9}{w0:j7}{Q:D→b8→Prop}{a0 a1:D}{S:b8}(h:a3m E w0 (d9 E Q) a0 a1 S):j6 Try.prog E w0 p6 [a0,a1] S Q:=
 j4 a9I a9O a9D (fn:=Try.f123) (c:=Try.f123.body.getD .skip) mixed Try.func123 (by kernel_rfl) (by kernel_rfl) h
def a4y:List (Nat×List Nat):=[]
def a4w:List (Nat×List Nat):=[(6,[0,1])]
def a4l:List (Nat×V5):=[]
noncomputable def b0w:Code:=(j9 [1,1] (Try.f125.body.getD .skip))
def a9q(E:i9)(w0:j7)(Q:D→b8→Prop):o7→List D→b8→Prop:=
 (F3 Try.prog Try.f125 Q)
def a3i(E:i9)(w0:j7)(Q:D→b8→Prop)(x0 x1:D)(S:b8):Prop:=
 b9J S x1 fun v3 S4=>
 j6 Try.prog E w0 I3 [x0,v3] S4 fun v5 S6=>
 Q c9 S6
def a0v(E:i9)(w0:j7)(Q:D→b8→Prop)(x0 x1:D)(S:b8):Prop:=j3 Try.prog E w0 b0w (l9 17 [0,1] [x0,x1]) S (a9q E w0 Q)
theorem a7O{E:i9}{w0:j7}{Q:D→b8→Prop}{x0 x1:D}{S:b8}(h:a3i E w0 Q x0 x1 S):a0v E w0 Q x0 x1 S:=j0 a4y a4w a4l mixed (by kernel_rfl) h
def a4S(E:i9)(w0:j7)(Q:D→b8→Prop)(a0 a1:D)(S:b8):Prop:=
 b7 (a9l a1) fun v0=>
 j6 Try.prog E w0 p6 [a0,v0] S fun v1 S2=>
 b7 (a9l a1) fun v7=>
 b7 (f9 .gtr v7 (.int .i64 2097152)) fun v8=>
 i5 v8
 (b7 (c1f a1 none (some (.int .i64 2097152))) fun v9=>
 a0v E w0 Q a0 v9 S2)
 (a0v E w0 Q a0 a1 S2)
theorem a8T{E:i9}{w0:j7}{Q:D→b8→Prop}{a0 a1:D}{S:b8}(h:a4S E w0 (d9 E Q) a0 a1 S):j6 Try.prog E w0 E1 [a0,a1] S Q:=
 j4 a4y a4w a4l (fn:=Try.f125) (c:=Try.f125.body.getD .skip) mixed Try.func125 (by kernel_rfl) (by kernel_rfl) h
def a2m:List (Nat×List Nat):=[(4,[0,10,11,12])]
def a2l:List (Nat×List Nat):=[]
def a2j:List (Nat×V5):=[]
noncomputable def U6:Code:=(j9 [1,1,0,0] (Try.f126.body.getD .skip))
def U3(E:i9)(w0:j7)(Q:D→b8→Prop):o7→List D→b8→Prop:=
 (r8 0 (F3 Try.prog Try.f126 Q))
def R3(E:i9)(w0:j7)(N0:D→D→D→D→b8→Prop)(Q:D→b8→Prop)(x0 x10 x11 x12:D)(S:b8):Prop:=
 b7 (f9 .lss x12 x11) fun v4=>
 i5 v4
 (b7 (p9 1 x10 x12) fun v5=>
 b7 (d0 S v5) fun v6=>
 j6 Try.prog E w0 p6 [x0,v6] S fun v7 S8=>
 b7 (f9 .add x12 (.int .i64 1)) fun v9=>
 N0 x0 x10 x11 v9 S8)
 (Q c9 S)
theorem a5o{E:i9}{w0:j7}{N0:D→D→D→D→b8→Prop}{Q:D→b8→Prop}{x0 x10 x11 x12:D}{S:b8}(h:R3 E w0 N0 Q x0 x10 x11 x12 S):
  j3 Try.prog E w0 U6 (l9 20 [0,10,11,12] [x0,x10,x11,x12]) S (D8 (fun T S=>N0 (T.getD 0 c9) (T.getD 10 c9) (T.getD 11 c9) (T.getD 12 c9) S) (U3 E w0 Q)):=j0 a2m a2l a2j mixed (by kernel_rfl) h
theorem a5h{E:i9}{w0:j7}{Q:D→b8→Prop}(I:Nat→D→D→D→D→b8→Prop)
  (step:∀n x0 x10 x11 x12 S,I n x0 x10 x11 x12 S→R3 E w0 (fun x0 x10 x11 x12 S=>∃m,m<n∧I m x0 x10 x11 x12 S) Q x0 x10 x11 x12 S)
  {n:Nat} {x0 x10 x11 x12:D} {S:b8} (h:I n x0 x10 x11 x12 S):j3 Try.prog E w0 (.loop U6) (l9 20 [0,10,11,12] [x0,x10,x11,x12]) S (U3 E w0 Q):=
 q9 (k:=20) (n:=n) (I:=fun n T S=>I n (T.getD 0 c9) (T.getD 10 c9) (T.getD 11 c9) (T.getD 12 c9) S) (fun n T S hl hI=>s4 [0,10,11,12] hl (j3.mono (a5o (step n _ _ _ _ S hI)) fun ex T' S' _ hq=>by cases ex<;>exact hq)) (o5 ..) (Eq.mp (by kernel_rfl) h)
def a2G(E:i9)(w0:j7)(Q:D→b8→Prop)(a0 a1:D)(S:b8):Prop:=
 b7 (m9 a1) fun v0=>
 j6 Try.prog E w0 p6 [a0,v0] S fun v1 S2=>
 b7 (m9 a1) fun v3=>
 j3 Try.prog E w0 (.loop U6) (l9 20 [0,10,11,12] [a0,a1,v3,(.int .i64 0)]) S2 (U3 E w0 Q)
theorem a6T{E:i9}{w0:j7}{Q:D→b8→Prop}{a0 a1:D}{S:b8}(h:a2G E w0 (d9 E Q) a0 a1 S):j6 Try.prog E w0 M5 [a0,a1] S Q:=
 j4 a2m a2l a2j (fn:=Try.f126) (c:=Try.f126.body.getD .skip) mixed Try.func126 (by kernel_rfl) (by kernel_rfl) h
def D3:List (Nat×List Nat):=[(8,[1,3,19,20,21]),(22,[1,3,19,20,21,43,44,45]),(44,[1,3,76,77,78]),(56,[3,92,93,94])]
def D4:List (Nat×List Nat):=[]
def D5:List (Nat×V5):=[]
noncomputable def a5U:Code:=(j9 [1,1,1,0,1,0,0,1,1,0,0,1,1,0,1,0,1,1,0,1,0,0] (Try.f100.body.getD .skip))
def a5X(E:i9)(w0:j7)(N0:D→D→D→D→D→b8→Prop)(Q:D→b8→Prop):o7→List D→b8→Prop:=
 (r8 2 (L3 Try.prog E w0 D3 D4 D5 (j9 [1,1,1,0,1,0,0,1,1,0,0,1,1,0,1,0,1,1,1] (Try.f100.body.getD .skip)) (L3 Try.prog E w0 D3 D4 D5 (j9 [1,1,1,0,1,0,0,1,1,0,0,1,1,1] (Try.f100.body.getD .skip)) (r8 1 (L3 Try.prog E w0 D3 D4 D5 (j9 [1,1,1,0,1,0,0,1,1,1] (Try.f100.body.getD .skip)) (D8 (fun T S=>N0 (T.getD 1 c9) (T.getD 3 c9) (T.getD 19 c9) (T.getD 20 c9) (T.getD 21 c9) S) (r8 0 (L3 Try.prog E w0 D3 D4 D5 (j9 [1,1,1,1] (Try.f100.body.getD .skip)) (F3 Try.prog Try.f100 Q)))))))))
def a5V(E:i9)(w0:j7)(N0:D→D→D→D→D→b8→Prop)(N1:D→D→D→D→D→D→D→D→b8→Prop)(Q:D→b8→Prop)(x1 x3 x19 x20 x21 x43 x44 x45:D)(S:b8):Prop:=
 b7 (f9 .lss x45 x44) fun v40=>
 i5 v40
 (b7 (p9 2 x43 x45) fun v41=>
 b7 (i4 S 2 v41) fun v42=>
 j8 S [(.str []),(.int .i64 0)] fun v43 S44=>
 i7 S44 2 v43 v42 fun v45 S46=>
 b7 (j5 0 v43) fun v47=>
 b7 (d0 S46 v47) fun v48=>
 j6 Try.prog E w0 E1 [x3,v48] S46 fun v49 S50=>
 b7 (j5 1 v43) fun v51=>
 b7 (d0 S50 v51) fun v52=>
 j6 Try.prog E w0 p6 [x3,v52] S50 fun v53 S54=>
 b7 (f9 .add x45 (.int .i64 1)) fun v55=>
 N1 x1 x3 x19 x20 x21 x43 x44 v55 S54)
 (b7 (f9 .add x21 (.int .i64 1)) fun v56=>
 N0 x1 x3 x19 x20 v56 S)
theorem b5n{E:i9}{w0:j7}{N0:D→D→D→D→D→b8→Prop}{N1:D→D→D→D→D→D→D→D→b8→Prop}{Q:D→b8→Prop}{x1 x3 x19 x20 x21 x43 x44 x45:D}{S:b8}(h:a5V E w0 N0 N1 Q x1 x3 x19 x20 x21 x43 x44 x45 S):
  j3 Try.prog E w0 a5U (l9 128 [1,3,19,20,21,43,44,45] [x1,x3,x19,x20,x21,x43,x44,x45]) S (D8 (fun T S=>N1 (T.getD 1 c9) (T.getD 3 c9) (T.getD 19 c9) (T.getD 20 c9) (T.getD 21 c9) (T.getD 43 c9) (T.getD 44 c9) (T.getD 45 c9) S) (a5X E w0 N0 Q)):=j0 D3 D4 D5 mixed (by kernel_rfl) h
theorem b5c{E:i9}{w0:j7}{N0:D→D→D→D→D→b8→Prop}{Q:D→b8→Prop}(I:Nat→D→D→D→D→D→D→D→D→b8→Prop)
  (step:∀n x1 x3 x19 x20 x21 x43 x44 x45 S,I n x1 x3 x19 x20 x21 x43 x44 x45 S→a5V E w0 N0 (fun x1 x3 x19 x20 x21 x43 x44 x45 S=>∃m,m<n∧I m x1 x3 x19 x20 x21 x43 x44 x45 S) Q x1 x3 x19 x20 x21 x43 x44 x45 S)
  {n:Nat} {x1 x3 x19 x20 x21 x43 x44 x45:D} {S:b8} (h:I n x1 x3 x19 x20 x21 x43 x44 x45 S):j3 Try.prog E w0 (.loop a5U) (l9 128 [1,3,19,20,21,43,44,45] [x1,x3,x19,x20,x21,x43,x44,x45]) S (a5X E w0 N0 Q):=
 q9 (k:=128) (n:=n) (I:=fun n T S=>I n (T.getD 1 c9) (T.getD 3 c9) (T.getD 19 c9) (T.getD 20 c9) (T.getD 21 c9) (T.getD 43 c9) (T.getD 44 c9) (T.getD 45 c9) S) (fun n T S hl hI=>s4 [1,3,19,20,21,43,44,45] hl (j3.mono (b5n (step n _ _ _ _ _ _ _ _ S hI)) fun ex T' S' _ hq=>by cases ex<;>exact hq)) (o5 ..) (Eq.mp (by kernel_rfl) h)
noncomputable def a6v:Code:=(j9 [1,1,1,1,1,1,1,0,1,0,0] (Try.f100.body.getD .skip))
def a5Z(E:i9)(w0:j7)(Q:D→b8→Prop):o7→List D→b8→Prop:=
 (r8 6 (L3 Try.prog E w0 D3 D4 D5 (j9 [1,1,1,1,1,1,1,1] (Try.f100.body.getD .skip)) (F3 Try.prog Try.f100 Q)))
def a5T(E:i9)(w0:j7)(N3:D→D→D→D→b8→Prop)(Q:D→b8→Prop)(x3 x92 x93 x94:D)(S:b8):Prop:=
 b7 (f9 .lss x94 x93) fun v92=>
 i5 v92
 (b7 (p9 6 x92 x94) fun v93=>
 b7 (i4 S 6 v93) fun v94=>
 j8 S [(.str []), .nilSlc, .nilSlc,(.int .i64 0),(.int .i64 0), .nilSlc] fun v95 S96=>
 i7 S96 6 v95 v94 fun v97 S98=>
 b7 (j5 0 v95) fun v99=>
 b7 (d0 S98 v99) fun v100=>
 j6 Try.prog E w0 E1 [x3,v100] S98 fun v101 S102=>
 b7 (j5 1 v95) fun v103=>
 b7 (d0 S102 v103) fun v104=>
 j6 Try.prog E w0 M5 [x3,v104] S102 fun v105 S106=>
 b7 (j5 2 v95) fun v107=>
 b7 (d0 S106 v107) fun v108=>
 j6 Try.prog E w0 M5 [x3,v108] S106 fun v109 S110=>
 b7 (j5 3 v95) fun v111=>
 b7 (d0 S110 v111) fun v112=>
 j6 Try.prog E w0 p6 [x3,v112] S110 fun v113 S114=>
 b7 (j5 4 v95) fun v115=>
 b7 (d0 S114 v115) fun v116=>
 j6 Try.prog E w0 p6 [x3,v116] S114 fun v117 S118=>
 b7 (j5 5 v95) fun v119=>
 b7 (d0 S118 v119) fun v120=>
 b7 (c1n S118 v120) fun v121=>
 j6 Try.prog E w0 E1 [x3,v121] S118 fun v122 S123=>
 b7 (f9 .add x94 (.int .i64 1)) fun v124=>
 N3 x3 x92 x93 v124 S123)
 (b7 (a0H x3) fun v125=>
 b7 (j5 0 v125) fun v126=>
 b7 (d0 S v126) fun v127=>
 Q v127 S)
theorem b5r{E:i9}{w0:j7}{N3:D→D→D→D→b8→Prop}{Q:D→b8→Prop}{x3 x92 x93 x94:D}{S:b8}(h:a5T E w0 N3 Q x3 x92 x93 x94 S):
  j3 Try.prog E w0 a6v (l9 128 [3,92,93,94] [x3,x92,x93,x94]) S (D8 (fun T S=>N3 (T.getD 3 c9) (T.getD 92 c9) (T.getD 93 c9) (T.getD 94 c9) S) (a5Z E w0 Q)):=j0 D3 D4 D5 mixed (by kernel_rfl) h
theorem b5W{E:i9}{w0:j7}{Q:D→b8→Prop}(I:Nat→D→D→D→D→b8→Prop)
  (step:∀n x3 x92 x93 x94 S,I n x3 x92 x93 x94 S→a5T E w0 (fun x3 x92 x93 x94 S=>∃m,m<n∧I m x3 x92 x93 x94 S) Q x3 x92 x93 x94 S)
  {n:Nat} {x3 x92 x93 x94:D} {S:b8} (h:I n x3 x92 x93 x94 S):j3 Try.prog E w0 (.loop a6v) (l9 128 [3,92,93,94] [x3,x92,x93,x94]) S (a5Z E w0 Q):=
 q9 (k:=128) (n:=n) (I:=fun n T S=>I n (T.getD 3 c9) (T.getD 92 c9) (T.getD 93 c9) (T.getD 94 c9) S) (fun n T S hl hI=>s4 [3,92,93,94] hl (j3.mono (b5r (step n _ _ _ _ S hI)) fun ex T' S' _ hq=>by cases ex<;>exact hq)) (o5 ..) (Eq.mp (by kernel_rfl) h)
noncomputable def a5W:Code:=(j9 [1,1,1,1,1,0,1,0,0] (Try.f100.body.getD .skip))
def a5I(E:i9)(w0:j7)(Q:D→b8→Prop):o7→List D→b8→Prop:=
 (r8 4 (L3 Try.prog E w0 D3 D4 D5 (j9 [1,1,1,1,1,1] (Try.f100.body.getD .skip)) (F3 Try.prog Try.f100 Q)))
def a5D(E:i9)(w0:j7)(N2:D→D→D→D→D→b8→Prop)(Q:D→b8→Prop)(x1 x3 x76 x77 x78:D)(S:b8):Prop:=
 b7 (f9 .lss x78 x77) fun v78=>
 i5 v78
 (b7 (p9 1 x76 x78) fun v79=>
 b7 (d0 S v79) fun v80=>
 j6 Try.prog E w0 E1 [x3,v80] S fun v81 S82=>
 b7 (f9 .add x78 (.int .i64 1)) fun v83=>
 N2 x1 x3 x76 x77 v83 S82)
 (b7 (j5 2 x1) fun v84=>
 b7 (d0 S v84) fun v85=>
 b7 (m9 v85) fun v86=>
 j6 Try.prog E w0 p6 [x3,v86] S fun v87 S88=>
 b7 (j5 2 x1) fun v89=>
 b7 (d0 S88 v89) fun v90=>
 b7 (m9 v90) fun v91=>
 j3 Try.prog E w0 (.loop a6v) (l9 128 [3,92,93,94] [x3,v90,v91,(.int .i64 0)]) S88 (a5Z E w0 Q))
theorem b5x{E:i9}{w0:j7}{N2:D→D→D→D→D→b8→Prop}{Q:D→b8→Prop}{x1 x3 x76 x77 x78:D}{S:b8}(h:a5D E w0 N2 Q x1 x3 x76 x77 x78 S):
  j3 Try.prog E w0 a5W (l9 128 [1,3,76,77,78] [x1,x3,x76,x77,x78]) S (D8 (fun T S=>N2 (T.getD 1 c9) (T.getD 3 c9) (T.getD 76 c9) (T.getD 77 c9) (T.getD 78 c9) S) (a5I E w0 Q)):=j0 D3 D4 D5 mixed (by kernel_rfl) h
theorem b4C{E:i9}{w0:j7}{Q:D→b8→Prop}(I:Nat→D→D→D→D→D→b8→Prop)
  (step:∀n x1 x3 x76 x77 x78 S,I n x1 x3 x76 x77 x78 S→a5D E w0 (fun x1 x3 x76 x77 x78 S=>∃m,m<n∧I m x1 x3 x76 x77 x78 S) Q x1 x3 x76 x77 x78 S)
  {n:Nat} {x1 x3 x76 x77 x78:D} {S:b8} (h:I n x1 x3 x76 x77 x78 S):j3 Try.prog E w0 (.loop a5W) (l9 128 [1,3,76,77,78] [x1,x3,x76,x77,x78]) S (a5I E w0 Q):=
 q9 (k:=128) (n:=n) (I:=fun n T S=>I n (T.getD 1 c9) (T.getD 3 c9) (T.getD 76 c9) (T.getD 77 c9) (T.getD 78 c9) S) (fun n T S hl hI=>s4 [1,3,76,77,78] hl (j3.mono (b5x (step n _ _ _ _ _ S hI)) fun ex T' S' _ hq=>by cases ex<;>exact hq)) (o5 ..) (Eq.mp (by kernel_rfl) h)
noncomputable def a6y:Code:=(j9 [1,1,1,0,1,0,0] (Try.f100.body.getD .skip))
def a6q(E:i9)(w0:j7)(Q:D→b8→Prop):o7→List D→b8→Prop:=
 (r8 0 (L3 Try.prog E w0 D3 D4 D5 (j9 [1,1,1,1] (Try.f100.body.getD .skip)) (F3 Try.prog Try.f100 Q)))
def a6w(E:i9)(w0:j7)(N0:D→D→D→D→D→b8→Prop)(Q:D→b8→Prop)(x1 x3 x19 x20 x21:D)(S:b8):Prop:=
 b7 (f9 .lss x21 x20) fun v12=>
 i5 v12
 (b7 (p9 5 x19 x21) fun v13=>
 b7 (i4 S 5 v13) fun v14=>
 j8 S [(.int .u8 0),(.str []), .nilSlc,(.int .i64 0),(.int .i64 0)] fun v15 S16=>
 i7 S16 5 v15 v14 fun v17 S18=>
 b7 (j5 0 v15) fun v19=>
 b7 (d0 S18 v19) fun v20=>
 m8 S18 1 (j1 1 (List.replicate 1 [(.int .u8 0)]) [(0,v20)]) 1 fun v21 S22=>
 j6 Try.prog E w0 I3 [x3,v21] S22 fun v23 S24=>
 b7 (j5 0 v15) fun v25=>
 b7 (d0 S24 v25) fun v26=>
 b7 (f9 .eql v26 (.int .u8 6)) fun v27=>
 i5 v27
 (b7 (j5 1 v15) fun v28=>
 b7 (d0 S24 v28) fun v29=>
 j6 Try.prog E w0 E1 [x3,v29] S24 fun v30 S31=>
 b7 (j5 2 v15) fun v32=>
 b7 (d0 S31 v32) fun v33=>
 b7 (m9 v33) fun v34=>
 j6 Try.prog E w0 p6 [x3,v34] S31 fun v35 S36=>
 b7 (j5 2 v15) fun v37=>
 b7 (d0 S36 v37) fun v38=>
 b7 (m9 v38) fun v39=>
 j3 Try.prog E w0 (.loop a5U) (l9 128 [1,3,19,20,21,43,44,45] [x1,x3,x19,x20,x21,v38,v39,(.int .i64 0)]) S36 (a5X E w0 N0 Q))
 (b7 (j5 3 v15) fun v57=>
 b7 (d0 S24 v57) fun v58=>
 j6 Try.prog E w0 p6 [x3,v58] S24 fun v59 S60=>
 b7 (j5 0 v15) fun v61=>
 b7 (d0 S60 v61) fun v62=>
 b7 (f9 .eql v62 (.int .u8 7)) fun v63=>
 i5 v63
 (b7 (j5 4 v15) fun v64=>
 b7 (d0 S60 v64) fun v65=>
 j6 Try.prog E w0 p6 [x3,v65] S60 fun v66 S67=>
 b7 (f9 .add x21 (.int .i64 1)) fun v68=>
 N0 x1 x3 x19 x20 v68 S67)
 (b7 (f9 .add x21 (.int .i64 1)) fun v69=>
 N0 x1 x3 x19 x20 v69 S60)))
 (b7 (j5 1 x1) fun v70=>
 b7 (d0 S v70) fun v71=>
 b7 (m9 v71) fun v72=>
 j6 Try.prog E w0 p6 [x3,v72] S fun v73 S74=>
 b7 (j5 1 x1) fun v75=>
 b7 (d0 S74 v75) fun v76=>
 b7 (m9 v76) fun v77=>
 j3 Try.prog E w0 (.loop a5W) (l9 128 [1,3,76,77,78] [x1,x3,v76,v77,(.int .i64 0)]) S74 (a5I E w0 Q))
theorem b5I{E:i9}{w0:j7}{N0:D→D→D→D→D→b8→Prop}{Q:D→b8→Prop}{x1 x3 x19 x20 x21:D}{S:b8}(h:a6w E w0 N0 Q x1 x3 x19 x20 x21 S):
  j3 Try.prog E w0 a6y (l9 128 [1,3,19,20,21] [x1,x3,x19,x20,x21]) S (D8 (fun T S=>N0 (T.getD 1 c9) (T.getD 3 c9) (T.getD 19 c9) (T.getD 20 c9) (T.getD 21 c9) S) (a6q E w0 Q)):=j0 D3 D4 D5 mixed (by kernel_rfl) h
theorem b5u{E:i9}{w0:j7}{Q:D→b8→Prop}(I:Nat→D→D→D→D→D→b8→Prop)
  (step:∀n x1 x3 x19 x20 x21 S,I n x1 x3 x19 x20 x21 S→a6w E w0 (fun x1 x3 x19 x20 x21 S=>∃m,m<n∧I m x1 x3 x19 x20 x21 S) Q x1 x3 x19 x20 x21 S)
  {n:Nat} {x1 x3 x19 x20 x21:D} {S:b8} (h:I n x1 x3 x19 x20 x21 S):j3 Try.prog E w0 (.loop a6y) (l9 128 [1,3,19,20,21] [x1,x3,x19,x20,x21]) S (a6q E w0 Q):=
 q9 (k:=128) (n:=n) (I:=fun n T S=>I n (T.getD 1 c9) (T.getD 3 c9) (T.getD 19 c9) (T.getD 20 c9) (T.getD 21 c9) S) (fun n T S hl hI=>s4 [1,3,19,20,21] hl (j3.mono (b5I (step n _ _ _ _ _ S hI)) fun ex T' S' _ hq=>by cases ex<;>exact hq)) (o5 ..) (Eq.mp (by kernel_rfl) h)
def b6v(E:i9)(w0:j7)(Q:D→b8→Prop)(a0:D)(S:b8):Prop:=
 b7 (o4 a0) fun cs=>j8 S cs fun v0 S1=>
 j8 S1 [.nilSlc] fun v2 S3=>
 b7 (j5 0 v0) fun v4=>
 b7 (d0 S3 v4) fun v5=>
 b7 (m9 v5) fun v6=>
 j6 Try.prog E w0 p6 [v2,v6] S3 fun v7 S8=>
 b7 (j5 0 v0) fun v9=>
 b7 (d0 S8 v9) fun v10=>
 b7 (m9 v10) fun v11=>
 j3 Try.prog E w0 (.loop a6y) (l9 128 [1,3,19,20,21] [v0,v2,v10,v11,(.int .i64 0)]) S8 (a6q E w0 Q)
theorem b8U{E:i9}{w0:j7}{Q:D→b8→Prop}{a0:D}{S:b8}(h:b6v E w0 (d9 E Q) a0 S):j6 Try.prog E w0 a9w [a0] S Q:=
 j4 D3 D4 D5 (fn:=Try.f100) (c:=Try.f100.body.getD .skip) mixed Try.func100 (by kernel_rfl) (by kernel_rfl) h
def b9c:List (Nat×List Nat):=[]
def b8u:List (Nat×List Nat):=[]
def b9r:List (Nat×V5):=[]
def b0M(E:i9)(w0:j7)(Q:D→b8→Prop)(a0:D)(S:b8):Prop:=
 b7 (o4 a0) fun cs=>j8 S cs fun v0 S1=>
 b7 (i4 S1 3 v0) fun v2=>
 j6 Try.prog E w0 a2N [v2] S1 fun v3 S4=>
 b7 (f9 .neq v3 (.int .i64 0)) fun v5=>
 i5 v5
 (Q (.tup [.nilSlc,v3]) S4)
 (b7 (i4 S4 3 v0) fun v6=>
 j6 Try.prog E w0 a9w [v6] S4 fun v7 S8=>
 b7 (m9 v7) fun v9=>
 b7 (f9 .gtr v9 (.int .i64 2097140)) fun v10=>
 i5 v10
 (Q (.tup [.nilSlc,(.int .i64 3)]) S8)
 (m8 S8 1 (j1 1 (List.replicate 4 [(.int .u8 0)]) [(0,(.int .u8 84)),(1,(.int .u8 82)),(2,(.int .u8 77)),(3,(.int .u8 1))]) 4 fun v11 S12=>
 c9t S12 v11 fun v13 S14=>
 b7 (m9 v7) fun v15=>
 b7 (K1 .u64 v15) fun v16=>
 j6 Try.prog E w0 a1k [v16,(.int .i64 4)] S14 fun v17 S18=>
 j6 Try.prog E w0 b4i [v7] S18 fun v19 S20=>
 b7 (K1 .u64 v19) fun v21=>
 j6 Try.prog E w0 a1k [v21,(.int .i64 4)] S20 fun v22 S23=>
 m8 S23 1 (j1 1 (List.replicate 4 [.nilSlc]) [(0,v13),(1,v17),(2,v7),(3,v22)]) 4 fun v24 S25=>
 j6 Try.prog E w0 K0 [v24] S25 fun v26 S27=>
 Q (.tup [v26,(.int .i64 0)]) S27))
theorem b5G{E:i9}{w0:j7}{Q:D→b8→Prop}{a0:D}{S:b8}(h:b0M E w0 (d9 E Q) a0 S):j6 Try.prog E w0 a2Y [a0] S Q:=
 j4 b9c b8u b9r (fn:=Try.f71) (c:=Try.f71.body.getD .skip) mixed Try.func71 (by kernel_rfl) (by kernel_rfl) h
def c0I:List (Nat×List Nat):=[]
def c0U:List (Nat×List Nat):=[]
def c0O:List (Nat×V5):=[]
def b3o(E:i9)(w0:j7)(Q:D→b8→Prop)(a0:D)(S:b8):Prop:=
 b7 (o4 a0) fun cs=>j8 S cs fun v0 S1=>
 b7 (i4 S1 3 v0) fun v2=>
 j6 Try.prog E w0 a2Y [v2] S1 fun v3 S4=>
 b7 (j2 v3 0) fun v5=>
 b7 (j2 v3 1) fun v6=>
 Q v6 S4
theorem b7r{E:i9}{w0:j7}{Q:D→b8→Prop}{a0:D}{S:b8}(h:b3o E w0 (d9 E Q) a0 S):j6 Try.prog E w0 a7t [a0] S Q:=
 j4 c0I c0U c0O (fn:=Try.f51) (c:=Try.f51.body.getD .skip) mixed Try.func51 (by kernel_rfl) (by kernel_rfl) h
end Go.Proofs.Ytdkidgkiplcggaa.d
end
section
open Go.Proofs Go Go.Am Go.Op
namespace Go.Proofs.Ytdkidgkiplcggaa.d
def c2u:Nat→Nat→List Int
 |0,n=>[(n:Int)]
 |f+1,n=>if n<128 then[(n:Int)]else((n % 128+128:Nat):Int)::c2u f (n / 128)
def d2U(n:Nat):List Int:=c2u 9 n
def a2o(n:Int):List Int:=d2U (n % 18446744073709551616).toNat
def d5P(a b:Int):Int:=IntKind.u32.wrap (BitVec.ofInt IntKind.u32.bits a &&& BitVec.ofInt IntKind.u32.bits b).toNat
def d4v(a b:Int):Int:=IntKind.u32.wrap (BitVec.ofInt IntKind.u32.bits a ^^^ BitVec.ofInt IntKind.u32.bits b).toNat
def d5B(s:Int):Int:=d4v (s.fdiv (2^(min (1:Int).toNat IntKind.u32.bits))) (d5P 3988292384 (IntKind.u32.wrap (0 - d5P s 1)))
def c4o(s b:Int):Int:=Nat.repeat d5B 8 (d4v s (IntKind.u32.wrap b))
def c2i(bs:List Int):Int:=IntKind.u32.wrap (BitVec.ofInt IntKind.u32.bits IntKind.u32.max ^^^ BitVec.ofInt IntKind.u32.bits (bs.foldl c4o 4294967295)).toNat
def GrZ(S0:b8)(t:D)(rows:List (List D))(sz:Nat)(S:b8):Prop:=Grw S0 t rows sz S∨(rows=[]∧∃k cap ex zr acs,S0 k=none∧t= .raw k 0 0 cap ex sz∧S=S0.set k ⟨sz,zr,acs⟩)
section
variable{S0 S:b8}{t:D}{rows:List (List D)}{sz:Nat}
theorem GrZ.push(h:GrZ S0 t rows sz S){bytes:Nat}{v:D}{news:List (List D)}(hv:rowsS S sz v=some news)(hn:news≠[])(hb:0<bytes∧(2*(rows.length+news.length)+768)*bytes≤2^47){K:D→b8→Prop}(hK:∀t' S',Grw S0 t' (rows++news) sz S'→K t' S'):s8 S sz bytes t v K:=by
 rcases h with h|⟨rfl,k,cap,ex,zr,acs,h0,rfl,rfl⟩
 ·exact h.push hv hb hK
 ·simp only[s8,hv,a0B]
  rw[if_neg hn,b8.set_same]
  simp only
  rw[if_pos ⟨by trivial,by trivial,by omega⟩]
  refine⟨by simpa using hb, .inr fun k' acs' hk'=> ?_⟩
  rw[b8.erase_set _ _ _ h0]at hk' ⊢
  refine hK _ _ (.inr ⟨k',acs',hk', ?_, ?_⟩)<;>simp
theorem GrZ.last(h:GrZ S0 t rows sz S){bytes:Nat}{v:D}{news:List (List D)}(hv:rowsS S sz v=some news)(hn:news≠[])(hb:0<bytes∧(2*(rows.length+news.length)+768)*bytes≤2^47){K:D→b8→Prop}(hK:K (.lst (rows++news) sz) S0):s8 S sz bytes t v K:=by
 rcases h with h|⟨rfl,k,cap,ex,zr,acs,h0,rfl,rfl⟩
 ·exact h.last hv hn hb hK
 ·simp only[s8,hv,a0B]
  rw[if_neg hn,b8.set_same]
  simp only
  rw[if_pos ⟨by trivial,by trivial,by omega⟩]
  refine⟨by simpa using hb, .inl ?_⟩
  rw[b8.erase_set _ _ _ h0,List.take_of_length_le (by simp)]
  simpa using hK
end
section
variable{E:i9}{w0:j7}
theorem d5N(n:Nat):f9 .or (.int .u8 (IntKind.u8.wrap (n:Int))) (.int .u8 128)=some (.int .u8 ((n % 128+128:Nat):Int)):=by
 rw[d6b,b9u,b9u]
 have h8:IntKind.u8.bits=8:=rfl
 rw[h8]
 have e1:((n:Int) % 256)=((n % 256:Nat):Int):=by omega
 rw[e1]
 have e2:(BitVec.ofInt 8 ((n % 256:Nat):Int) ||| BitVec.ofInt 8 128).toNat=n % 128+128:=by
  rw[BitVec.toNat_or,b1f]
  have:(BitVec.ofInt 8 128).toNat=128:=rfl
  rw[this]
  have h:=d1d (a:=n % 128) (b:=1) (i:=7) (by omega)
  have:n % 256 % 2^8=n % 256:=by omega
  rw[this]
  rcases Nat.lt_or_ge (n % 256) 128 with hl|hl
  ·rw[show n % 256=n % 128 by omega];simpa using h
  ·have e3:n % 256=n % 128+128:=by omega
   have h':n % 128+128=n % 128 ||| 128:=by simpa using h.symm
   rw[e3,h',Nat.or_assoc,Nat.or_self]
 rw[e2]
 congr 1
 congr 1
 omega
theorem c6T{n0:Nat}(hn:n0<2^64):P9 Try.prog E w0 b3C [.int .u64 (n0:Int)] (bD (d2U n0)):=fun S=>by
 refine c2D ?_
 unfold c0Q
 simp only[b1T]
 rw[if_pos (by decide)]
 refine .inr fun k acs hk=> ?_
 refine b8H (I:=fun m x0 x3 T=>∃(f n:Nat) (acc:List Int),f=m∧x0= .int .u64 (n:Int)∧n<2^(7*f+1)∧n<2^64∧f≤9∧acc.length+f=9∧GrZ S x3 (A9 (acc.map (D.int .u8))) 1 T∧acc++c2u f n=c2u 9 n0) ?_ (n:=9)
  ⟨9,n0,[],rfl,rfl,hn,hn,by omega,by simp, .inr ⟨rfl,k,10,true,_,acs,hk,rfl,rfl⟩,rfl⟩
 rintro m0 _ x3 T ⟨f,n,acc,rfl,rfl,hnf,hn64,hf9,hacc,hg,hput⟩
 unfold a8U
 rw[a9G,oD,M0]
 refine⟨fun hge=> ?_,fun hlt=> ?_⟩
 ·have hge:128≤n:=by omega
  obtain⟨f,rfl⟩:∃f',f=f'+1:=⟨f - 1,by
   rcases f with _|f
   ·simp at hnf;omega
   ·rfl⟩
  rw[c2u,if_neg (by omega)]at hput
  rw[cvI,oD,d5N,oD,show j1 1 (List.replicate 1 [D.int .u8 0]) [(0, .int .u8 ((n % 128+128:Nat):Int))]=some (A9 [D.int .u8 ((n % 128+128:Nat):Int)]) from rfl]
  refine C9 rfl ?_
  refine hg.push (news:=A9 [D.int .u8 ((n % 128+128:Nat):Int)]) rfl (by simp[A9]) (by simp;omega) fun t' T' hg'=> ?_
  rw[c9k _ _ _ _ (by omega),oD]
  have e:((n:Int).fdiv (2^(min (7:Int).toNat IntKind.u64.bits)))=((n / 128:Nat):Int):=by
   rw[show min (7:Int).toNat IntKind.u64.bits=7 from rfl,Int.fdiv_eq_ediv_of_nonneg _ (by decide)]
   omega
  rw[e]
  refine⟨f,by omega,f,n / 128,acc++[((n % 128+128:Nat):Int)],rfl,rfl, ?_,by omega,by omega,by simp;omega, .inl ?_,by rw[←hput];simp⟩
  ·have:2^(7*(f+1)+1)=2^(7*f+1)*128:=by rw[show 7*(f+1)+1=(7*f+1)+7 by omega,Nat.pow_add]
   omega
  ·have:A9 ((acc++[((n % 128+128:Nat):Int)]).map (D.int .u8))=A9 (acc.map (D.int .u8))++A9 [D.int .u8 ((n % 128+128:Nat):Int)]:=by rw[List.map_append,a4m];rfl
   rw[this];exact hg'
 ·have hlt:n<128:=by omega
  have hpn:c2u f n=[(n:Int)]:=by
   cases f with
   |zero=>rfl
   |succ f=>rw[c2u,if_pos hlt]
  rw[hpn]at hput
  have hw:IntKind.u8.wrap (n:Int)=n:=by rw[b9u];omega
  rw[cvI,oD,hw,show j1 1 (List.replicate 1 [D.int .u8 0]) [(0, .int .u8 (n:Int))]=some (A9 [D.int .u8 (n:Int)]) from rfl]
  refine C9 rfl ?_
  refine hg.last (news:=A9 [D.int .u8 (n:Int)]) rfl (by simp[A9]) (by simp;omega) ?_
  have:(.lst (A9 (acc.map (D.int .u8))++A9 [D.int .u8 (n:Int)]) 1:D)=bD (d2U n0):=by
   unfold bD d2U
   rw[←hput,List.map_append,a4m];rfl
  rw[this]
  exact d9.pure
theorem c5G{bs:List Int}(hl:bs.length<2^60):P9 Try.prog E w0 b4i [bD bs] (.int .u32 (c2i bs)):=fun S=>by
 refine c2P ?_
 unfold c0u
 rw[a2E,oD]
 refine b8D (I:=fun n x3 x6 x7 x8 T=>S=T∧x6=bD bs∧x7= .int .i64 (bs.length:Int)∧∃i:Nat,x8= .int .i64 (i:Int)∧i+n=bs.length∧x3= .int .u32 ((bs.take i).foldl c4o 4294967295)) ?_ (n:=bs.length)
  ⟨rfl,rfl,rfl,0,rfl,by omega,rfl⟩
 rintro n _ _ _ _ _ ⟨rfl,rfl,rfl,i,rfl,hi,rfl⟩
 unfold a8R
 rw[L7,oD,M0]
 refine⟨fun hlt=> ?_,fun hge=> ?_⟩
 ·have hlt:i<bs.length:=by omega
  rw[c8Z (List.getElem?_eq_getElem hlt),oD,lsE,List.getElem?_cons_zero,oD,cvI,oD,d4b,oD]
  refine b8w (I:=fun m x3 x6 x7 x8 x16 T=>S=T∧x6=bD bs∧x7= .int .i64 (bs.length:Int)∧x8= .int .i64 (i:Int)∧∃j:Nat,x16= .int .i64 (j:Int)∧j+m=8∧x3= .int .u32 (Nat.repeat d5B j (d4v ((bs.take i).foldl c4o 4294967295) (IntKind.u32.wrap bs[i])))) ?_ (n:=8)
   ⟨rfl,rfl,rfl,rfl,0,rfl,rfl,rfl⟩
  rintro m _ _ _ _ _ _ ⟨rfl,rfl,rfl,rfl,j,rfl,hj,rfl⟩
  unfold a9t
  rw[L7,oD,M0]
  refine⟨fun hjl=> ?_,fun hjg=> ?_⟩
  ·rw[c9k _ _ _ _ (by decide),oD,d3L,oD,unM,oD,d3L,oD,d4b,oD,H7,oD,m7 (by omega) (by omega)]
   exact⟨m - 1,by omega,rfl,rfl,rfl,rfl,j+1,rfl,by omega,rfl⟩
  ·have hj8:j=8:=by omega
   subst hj8
   rw[H7,oD,m7 (by omega) (by omega)]
   refine⟨n - 1,by omega,rfl,rfl,rfl,i+1,rfl,by omega, ?_⟩
   rw[List.take_add_one,List.getElem?_eq_getElem hlt,List.foldl_append]
   rfl
 ·have hi:i=bs.length:=by omega
  subst hi
  rw[List.take_length]
  have e:unD .xor (.int .u32 (bs.foldl c4o 4294967295))=some (.int .u32 (c2i bs)):=rfl
  rw[e,oD]
  exact d9.pure
theorem d2N{n:Nat}(hn:n<2^40){S:b8}:j6 Try.prog E w0 a1W [.nilSlc, .int .i64 (n:Int)] S fun v S'=>GrZ S v [] 1 S':=by
 refine b0q ?_
 unfold a6s
 rw[L7,oD,decide_eq_false (by omega),cdF]
 rw[show c6S .nilSlc=some (.int .i64 0) from rfl,oD,lnN,oD,b3c,oD,m7 (by omega) (by omega),b3c,oD,m7 (by omega) (by omega),a9k,oD,M0]
 refine⟨fun h=> ?_,fun h=>d9.here (.inl (Grw.nil _ _))⟩
 rw[oD,show a0E 1 .nilSlc none (some (.int .i64 0)) none=some .nilSlc from rfl,oD]
 have e:((n:Int) - (0 - 0))=(n:Int):=by omega
 rw[e]at h ⊢
 simp only[b0U]
 rw[if_pos ⟨m7 (by omega) (by omega),by omega,by omega⟩]
 simp only[a0B]
 have hr:List.replicate ((n:Int)).toNat [D.int .u8 0]≠[]:=by rw[Int.toNat_natCast];intro h';have:=congrArg List.length h';simp at this;omega
 rw[if_neg hr]
 refine⟨⟨by decide,by simp;omega⟩, .inr fun k acs hk=> ?_⟩
 have:a0E 1 (.raw k 0 (List.replicate ((n:Int)).toNat [D.int .u8 0]).length (List.replicate ((n:Int)).toNat [D.int .u8 0]).length false 1) none (some (.int .i64 0)) none=some (.raw k 0 0 (List.replicate ((n:Int)).toNat [D.int .u8 0]).length false 1):=by
  have hb:E4 (.int .i64 0) (List.replicate ((n:Int)).toNat [D.int .u8 0]).length=some 0:=by simp[E4]
  simp only[a0E,M6,c4S,b0L,b8z,if_true,Option.bind_some,hb,Option.map_some]
  rfl
 show b7 (some _) _
 rw[oD,this,oD]
 exact d9.here (.inr ⟨rfl,k,_,_,_,acs,hk,rfl,rfl⟩)
def b1a(l:List (List Int)):D:= .lst (l.map fun b=>[bD b]) 1
theorem c3s{l:List (List Int)}{i:Nat}{b:List Int}(h:l[i]? =some b):p9 1 (b1a l) (.int .i64 (i:Int))=some (.elt [bD b] 0):=b6m (by rw[List.getElem?_map,h];rfl)
theorem b6k{l:List (List Int)}{i:Nat}(hi:i<l.length):(l.take (i+1)).flatten=(l.take i).flatten++l[i]:=by
 rw[List.take_add_one,List.getElem?_eq_getElem hi,List.flatten_append];simp
theorem b9D{l:List (List Int)}(i:Nat):(l.take i).flatten.length≤l.flatten.length:=by
 have:l.flatten=(l.take i).flatten++(l.drop i).flatten:=by rw[←List.flatten_append,List.take_append_drop]
 rw[this,List.length_append];omega
theorem c7Y{l:List (List Int)}(hl:l.flatten.length<2^40)(hn:l.length<2^40){S:b8}:j6 Try.prog E w0 K0 [b1a l] S fun v T=>GrZ S v (A9 (l.flatten.map (D.int .u8))) 1 T:=by
 refine a8l ?_
 unfold a4s
 have hlen:m9 (b1a l)=some (.int .i64 (l.length:Int)):=by simp[b1a]
 rw[hlen,oD]
 refine a6G (I:=fun n x0 x3 x9 x10 x11 T=>S=T∧x0=b1a l∧x9=b1a l∧x10= .int .i64 (l.length:Int)∧∃i:Nat,x11= .int .i64 (i:Int)∧i+n=l.length∧x3= .int .i64 ((l.take i).flatten.length:Int)) ?_ (n:=l.length)
  ⟨rfl,rfl,rfl,rfl,0,rfl,by omega,rfl⟩
 rintro n _ _ _ _ _ _ ⟨rfl,rfl,rfl,rfl,i,rfl,hi,rfl⟩
 unfold Z6
 rw[L7,oD,M0]
 have hfl:=b9D (l:=l) i
 refine⟨fun hlt=> ?_,fun hge=> ?_⟩
 ·have hlt:i<l.length:=by omega
  have h1:=b9D (l:=l) (i+1)
  rw[b6k hlt,List.length_append]at h1
  rw[c3s (List.getElem?_eq_getElem hlt),oD,lsE,List.getElem?_cons_zero,oD,a2E,oD,H7,oD,m7 (by omega) (by omega),L7,oD,decide_eq_false (by omega),cdF,H7,oD,m7 (by omega) (by omega)]
  exact⟨n - 1,by omega,rfl,rfl,rfl,rfl,i+1,rfl,by omega,by rw[b6k hlt,List.length_append];rfl⟩
 ·refine(d2N (by omega)).use fun v T hg=> ?_
  rw[hlen,oD]
  refine a6R (I:=fun n x6 x25 x26 x27 T=>x25=b1a l∧x26= .int .i64 (l.length:Int)∧∃i:Nat,x27= .int .i64 (i:Int)∧i+n=l.length∧GrZ S x6 (A9 ((l.take i).flatten.map (D.int .u8))) 1 T) ?_ (n:=l.length)
   ⟨rfl,rfl,0,rfl,by omega,hg⟩
  rintro n x6 _ _ _ T ⟨rfl,rfl,i,rfl,hi,hg⟩
  unfold X8
  rw[L7,oD,M0]
  have hfl:=b9D (l:=l) i
  refine⟨fun hlt=> ?_,fun hge=> ?_⟩
  ·have hlt:i<l.length:=by omega
   have h1:=b9D (l:=l) (i+1)
   rw[b6k hlt,List.length_append]at h1
   rw[c3s (List.getElem?_eq_getElem hlt),oD,lsE,List.getElem?_cons_zero,oD]
   have hnext:A9 ((l.take (i+1)).flatten.map (D.int .u8))=A9 ((l.take i).flatten.map (D.int .u8))++A9 (l[i].map (D.int .u8)):=by rw[b6k hlt,List.map_append,a4m]
   by_cases he:l[i]=[]
   ·rw[he,List.map_nil]at hnext
    have hskip:∀K:D→b8→Prop,K x6 T→s8 T 1 1 x6 (bD l[i]) K:=fun K hK=>by
     rw[he]
     simp only[s8,b9z]
     rcases hg with (⟨rfl,_,rfl⟩|⟨k,acs,_,rfl,rfl⟩)|⟨_,k,cap,ex,zr,acs,_,rfl,rfl⟩<;>exact hK
    refine hskip _ ?_
    rw[H7,oD,m7 (by omega) (by omega)]
    exact⟨n - 1,by omega,rfl,rfl,i+1,rfl,by omega,by rw[hnext];simpa [A9]using hg⟩
   ·refine hg.push (b9z _ _) (by simpa [A9]using he) (by simp only[b1B,List.length_map];omega) fun t' T' hg'=> ?_
    rw[H7,oD,m7 (by omega) (by omega)]
    exact⟨n - 1,by omega,rfl,rfl,i+1,rfl,by omega, .inl (by rw[hnext];exact hg')⟩
  ·have hi:i=l.length:=by omega
   subst hi
   rw[List.take_length]at hg
   exact d9.here hg
end
end Go.Proofs.Ytdkidgkiplcggaa.d
end
