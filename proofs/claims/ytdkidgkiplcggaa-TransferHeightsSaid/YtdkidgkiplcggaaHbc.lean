/-
  TransferHeightsSaid: part Hbc of its proof.
-/
import Derived.Test.YtdkidgkiplcggaaRows
import Derived.Test.YtdkidgkiplcggaaHar
import Derived.KernelRfl
import Derived.Test.YtdkidgkiplcggaaHat
import Derived.Test.YtdkidgkiplcggaaHav
import Derived.Test.YtdkidgkiplcggaaHax
set_option linter.unusedVariables false
set_option linter.unusedSimpArgs false
set_option maxRecDepth 100000
section
open Go.Proofs Go Go.Am
namespace Go.Proofs.Ytdkidgkiplcggaa.d
def b1H:List (Nat×List Nat):=[(4,[0,3])]
def b1n:List (Nat×List Nat):=[]
def b1P:List (Nat×V1):=[]
noncomputable def a9j:Code:=(j7 [1,1,0,0,0] (Try.f140.body.getD .skip))
def a8I(E:j3)(w0:j8)(Q:D→b8→Prop):o9→List D→b8→Prop:=
 (q8 0 (G5 Try.prog E w0 b1H b1n b1P (j7 [1,1,1] (Try.f140.body.getD .skip)) (E7 Try.prog Try.f140 Q)))
def a9E(E:j3)(w0:j8)(N0:D→D→b8→Prop)(Q:D→b8→Prop)(x0 x3:D)(S:b8):Prop:=
 b7 (i5 .geq x0 (.int .u64 128)) fun v2=>
 i9 v2
 (b7 (J1 .u8 x0) fun v3=>
 b7 (i5 .or v3 (.int .u8 128)) fun v4=>
 r7 S 1 (m9 1 (List.replicate 1 [(.int .u8 0)]) [(0,v4)]) 1 fun v5 S6=>
 u9 S6 1 1 x3 v5 fun v7 S8=>
 b7 (i5 .shr x0 (.int .u64 7)) fun v9=>
 N0 v9 v7 S8)
 (b7 (J1 .u8 x0) fun v10=>
 r7 S 1 (m9 1 (List.replicate 1 [(.int .u8 0)]) [(0,v10)]) 1 fun v11 S12=>
 u9 S12 1 1 x3 v11 fun v13 S14=>
 Q v13 S14)
theorem b9n{E:j3}{w0:j8}{N0:D→D→b8→Prop}{Q:D→b8→Prop}{x0 x3:D}{S:b8}(h:a9E E w0 N0 Q x0 x3 S):
  j2 Try.prog E w0 a9j (m6 20 [0,3] [x0,x3]) S (B1 (fun T S=>N0 (T.getD 0 b9) (T.getD 3 b9) S) (a8I E w0 Q)):=j4 b1H b1n b1P mixed (by kernel_rfl) h
theorem b9p{E:j3}{w0:j8}{Q:D→b8→Prop}(I:Nat→D→D→b8→Prop)
  (step:∀n x0 x3 S,I n x0 x3 S→a9E E w0 (fun x0 x3 S=>∃m,m<n∧I m x0 x3 S) Q x0 x3 S)
  {n:Nat} {x0 x3:D} {S:b8} (h:I n x0 x3 S):j2 Try.prog E w0 (.loop a9j) (m6 20 [0,3] [x0,x3]) S (a8I E w0 Q):=
 p8 (k:=20) (n:=n) (I:=fun n T S=>I n (T.getD 0 b9) (T.getD 3 b9) S) (fun n T S hl hI=>q9 [0,3] hl (j2.mono (b9n (step n _ _ S hI)) fun ex T' S' _ hq=>by cases ex<;>exact hq)) (o0 ..) (Eq.mp (by kernel_rfl) h)
def c0G(E:j3)(w0:j8)(Q:D→b8→Prop)(a0:D)(S:b8):Prop:=
 b0Z S 1 1 [(.int .u8 0)] (.int .i64 0) (.int .i64 10) fun v0 S1=>
 j2 Try.prog E w0 (.loop a9j) (m6 20 [0,3] [a0,v0]) S1 (a8I E w0 Q)
theorem c2X{E:j3}{w0:j8}{Q:D→b8→Prop}{a0:D}{S:b8}(h:c0G E w0 (i4 E Q) a0 S):l8 Try.prog E w0 b4j [a0] S Q:=
 j5 b1H b1n b1P (fn:=Try.f140) (c:=Try.f140.body.getD .skip) mixed Try.func140 (by kernel_rfl) (by kernel_rfl) h
def a2f:List (Nat×List Nat):=[(6,[3,6,7,8]),(14,[3,6,7,8,16])]
def a1T:List (Nat×List Nat):=[]
def a2h:List (Nat×V1):=[]
noncomputable def a8X:Code:=(j7 [1,1,0,1,0,0,1,1,0,0,1,1,1,0,0] (Try.f103.body.getD .skip))
def a9C(E:j3)(w0:j8)(N0:D→D→D→D→b8→Prop)(Q:D→b8→Prop):o9→List D→b8→Prop:=
 (q8 2 (q8 1 (G5 Try.prog E w0 a2f a1T a2h (j7 [1,1,0,1,0,0,1,1,1] (Try.f103.body.getD .skip)) (B1 (fun T S=>N0 (T.getD 3 b9) (T.getD 6 b9) (T.getD 7 b9) (T.getD 8 b9) S) (q8 0 (G5 Try.prog E w0 a2f a1T a2h (j7 [1,1,1] (Try.f103.body.getD .skip)) (E7 Try.prog Try.f103 Q)))))))
def a8F(E:j3)(w0:j8)(N0:D→D→D→D→b8→Prop)(N1:D→D→D→D→D→b8→Prop)(Q:D→b8→Prop)(x3 x6 x7 x8 x16:D)(S:b8):Prop:=
 b7 (i5 .lss x16 (.int .i64 8)) fun v6=>
 i9 v6
 (b7 (i5 .shr x3 (.int .u64 1)) fun v7=>
 b7 (i5 .and x3 (.int .u32 1)) fun v8=>
 b7 (unD .neg v8) fun v9=>
 b7 (i5 .and (.int .u32 3988292384) v9) fun v10=>
 b7 (i5 .xor v7 v10) fun v11=>
 b7 (i5 .add x16 (.int .i64 1)) fun v12=>
 N1 v11 x6 x7 x8 v12 S)
 (b7 (i5 .add x8 (.int .i64 1)) fun v13=>
 N0 x3 x6 x7 v13 S)
theorem b8k{E:j3}{w0:j8}{N0:D→D→D→D→b8→Prop}{N1:D→D→D→D→D→b8→Prop}{Q:D→b8→Prop}{x3 x6 x7 x8 x16:D}{S:b8}(h:a8F E w0 N0 N1 Q x3 x6 x7 x8 x16 S):
  j2 Try.prog E w0 a8X (m6 29 [3,6,7,8,16] [x3,x6,x7,x8,x16]) S (B1 (fun T S=>N1 (T.getD 3 b9) (T.getD 6 b9) (T.getD 7 b9) (T.getD 8 b9) (T.getD 16 b9) S) (a9C E w0 N0 Q)):=j4 a2f a1T a2h mixed (by kernel_rfl) h
theorem b8x{E:j3}{w0:j8}{N0:D→D→D→D→b8→Prop}{Q:D→b8→Prop}(I:Nat→D→D→D→D→D→b8→Prop)
  (step:∀n x3 x6 x7 x8 x16 S,I n x3 x6 x7 x8 x16 S→a8F E w0 N0 (fun x3 x6 x7 x8 x16 S=>∃m,m<n∧I m x3 x6 x7 x8 x16 S) Q x3 x6 x7 x8 x16 S)
  {n:Nat} {x3 x6 x7 x8 x16:D} {S:b8} (h:I n x3 x6 x7 x8 x16 S):j2 Try.prog E w0 (.loop a8X) (m6 29 [3,6,7,8,16] [x3,x6,x7,x8,x16]) S (a9C E w0 N0 Q):=
 p8 (k:=29) (n:=n) (I:=fun n T S=>I n (T.getD 3 b9) (T.getD 6 b9) (T.getD 7 b9) (T.getD 8 b9) (T.getD 16 b9) S) (fun n T S hl hI=>q9 [3,6,7,8,16] hl (j2.mono (b8k (step n _ _ _ _ _ S hI)) fun ex T' S' _ hq=>by cases ex<;>exact hq)) (o0 ..) (Eq.mp (by kernel_rfl) h)
noncomputable def a9z:Code:=(j7 [1,1,0,1,0,0] (Try.f103.body.getD .skip))
def a9o(E:j3)(w0:j8)(Q:D→b8→Prop):o9→List D→b8→Prop:=
 (q8 0 (G5 Try.prog E w0 a2f a1T a2h (j7 [1,1,1] (Try.f103.body.getD .skip)) (E7 Try.prog Try.f103 Q)))
def a9A(E:j3)(w0:j8)(N0:D→D→D→D→b8→Prop)(Q:D→b8→Prop)(x3 x6 x7 x8:D)(S:b8):Prop:=
 b7 (i5 .lss x8 x7) fun v1=>
 i9 v1
 (b7 (o7 1 x6 x8) fun v2=>
 b7 (c9 S v2) fun v3=>
 b7 (J1 .u32 v3) fun v4=>
 b7 (i5 .xor x3 v4) fun v5=>
 j2 Try.prog E w0 (.loop a8X) (m6 29 [3,6,7,8,16] [v5,x6,x7,x8,(.int .i64 0)]) S (a9C E w0 N0 Q))
 (b7 (unD .xor x3) fun v14=>
 Q v14 S)
theorem b8S{E:j3}{w0:j8}{N0:D→D→D→D→b8→Prop}{Q:D→b8→Prop}{x3 x6 x7 x8:D}{S:b8}(h:a9A E w0 N0 Q x3 x6 x7 x8 S):
  j2 Try.prog E w0 a9z (m6 29 [3,6,7,8] [x3,x6,x7,x8]) S (B1 (fun T S=>N0 (T.getD 3 b9) (T.getD 6 b9) (T.getD 7 b9) (T.getD 8 b9) S) (a9o E w0 Q)):=j4 a2f a1T a2h mixed (by kernel_rfl) h
theorem b9t{E:j3}{w0:j8}{Q:D→b8→Prop}(I:Nat→D→D→D→D→b8→Prop)
  (step:∀n x3 x6 x7 x8 S,I n x3 x6 x7 x8 S→a9A E w0 (fun x3 x6 x7 x8 S=>∃m,m<n∧I m x3 x6 x7 x8 S) Q x3 x6 x7 x8 S)
  {n:Nat} {x3 x6 x7 x8:D} {S:b8} (h:I n x3 x6 x7 x8 S):j2 Try.prog E w0 (.loop a9z) (m6 29 [3,6,7,8] [x3,x6,x7,x8]) S (a9o E w0 Q):=
 p8 (k:=29) (n:=n) (I:=fun n T S=>I n (T.getD 3 b9) (T.getD 6 b9) (T.getD 7 b9) (T.getD 8 b9) S) (fun n T S hl hI=>q9 [3,6,7,8] hl (j2.mono (b8S (step n _ _ _ _ S hI)) fun ex T' S' _ hq=>by cases ex<;>exact hq)) (o0 ..) (Eq.mp (by kernel_rfl) h)
def c1e(E:j3)(w0:j8)(Q:D→b8→Prop)(a0:D)(S:b8):Prop:=
 b7 (m8 a0) fun v0=>
 j2 Try.prog E w0 (.loop a9z) (m6 29 [3,6,7,8] [(.int .u32 4294967295),a0,v0,(.int .i64 0)]) S (a9o E w0 Q)
theorem c2t{E:j3}{w0:j8}{Q:D→b8→Prop}{a0:D}{S:b8}(h:c1e E w0 (i4 E Q) a0 S):l8 Try.prog E w0 b3U [a0] S Q:=
 j5 a2f a1T a2h (fn:=Try.f103) (c:=Try.f103.body.getD .skip) mixed Try.func103 (by kernel_rfl) (by kernel_rfl) h
def b2U:List (Nat×List Nat):=[]
def b2S:List (Nat×List Nat):=[]
def b2x:List (Nat×V1):=[]
def a6u(E:j3)(w0:j8)(Q:D→b8→Prop)(a0 a1:D)(S:b8):Prop:=
 b7 (i5 .lss a1 (.int .i64 0)) fun v0=>
 i9 v0
 (b7 (some (D.ifc 9 (.str [99,97,110,110,111,116,32,98,101,32,110,101,103,97,116,105,118,101]))) fun v1=>
 b1z E w0 v1 S)
 (b7 (c7o a0) fun v2=>
 b7 (m8 a0) fun v3=>
 b7 (i5 .sub v2 v3) fun v4=>
 b7 (i5 .sub a1 v4) fun v5=>
 b7 (i5 .gtr v5 (.int .i64 0)) fun v6=>
 i9 v6
 (b7 (c7o a0) fun v7=>
 b7 (a0x 1 a0 none (some v7) none) fun v8=>
 b1d S 1 1 [(.int .u8 0)] v8 v5 fun v9 S10=>
 b7 (m8 a0) fun v11=>
 b7 (a0x 1 v9 none (some v11) none) fun v12=>
 Q v12 S10)
 (Q a0 S))
theorem a9X{E:j3}{w0:j8}{Q:D→b8→Prop}{a0 a1:D}{S:b8}(h:a6u E w0 (i4 E Q) a0 a1 S):l8 Try.prog E w0 a1N [a0,a1] S Q:=
 j5 b2U b2S b2x (fn:=Try.f127) (c:=Try.f127.body.getD .skip) mixed Try.func127 (by kernel_rfl) (by kernel_rfl) h
def H7:List (Nat×List Nat):=[(6,[0,3,9,10,11]),(22,[6,25,26,27])]
def H8:List (Nat×List Nat):=[]
def H5:List (Nat×V1):=[]
noncomputable def Z5:Code:=(j7 [1,1,1,1,0,1,0,0] (Try.f101.body.getD .skip))
def Z1(E:j3)(w0:j8)(Q:D→b8→Prop):o9→List D→b8→Prop:=
 (q8 2 (G5 Try.prog E w0 H7 H8 H5 (j7 [1,1,1,1,1] (Try.f101.body.getD .skip)) (E7 Try.prog Try.f101 Q)))
def Y1(E:j3)(w0:j8)(N1:D→D→D→D→b8→Prop)(Q:D→b8→Prop)(x6 x25 x26 x27:D)(S:b8):Prop:=
 b7 (i5 .lss x27 x26) fun v12=>
 i9 v12
 (b7 (o7 1 x25 x27) fun v13=>
 b7 (c9 S v13) fun v14=>
 u9 S 1 1 x6 v14 fun v15 S16=>
 b7 (i5 .add x27 (.int .i64 1)) fun v17=>
 N1 v15 x25 x26 v17 S16)
 (Q x6 S)
theorem a6J{E:j3}{w0:j8}{N1:D→D→D→D→b8→Prop}{Q:D→b8→Prop}{x6 x25 x26 x27:D}{S:b8}(h:Y1 E w0 N1 Q x6 x25 x26 x27 S):
  j2 Try.prog E w0 Z5 (m6 36 [6,25,26,27] [x6,x25,x26,x27]) S (B1 (fun T S=>N1 (T.getD 6 b9) (T.getD 25 b9) (T.getD 26 b9) (T.getD 27 b9) S) (Z1 E w0 Q)):=j4 H7 H8 H5 mixed (by kernel_rfl) h
theorem a6K{E:j3}{w0:j8}{Q:D→b8→Prop}(I:Nat→D→D→D→D→b8→Prop)
  (step:∀n x6 x25 x26 x27 S,I n x6 x25 x26 x27 S→Y1 E w0 (fun x6 x25 x26 x27 S=>∃m,m<n∧I m x6 x25 x26 x27 S) Q x6 x25 x26 x27 S)
  {n:Nat} {x6 x25 x26 x27:D} {S:b8} (h:I n x6 x25 x26 x27 S):j2 Try.prog E w0 (.loop Z5) (m6 36 [6,25,26,27] [x6,x25,x26,x27]) S (Z1 E w0 Q):=
 p8 (k:=36) (n:=n) (I:=fun n T S=>I n (T.getD 6 b9) (T.getD 25 b9) (T.getD 26 b9) (T.getD 27 b9) S) (fun n T S hl hI=>q9 [6,25,26,27] hl (j2.mono (a6J (step n _ _ _ _ S hI)) fun ex T' S' _ hq=>by cases ex<;>exact hq)) (o0 ..) (Eq.mp (by kernel_rfl) h)
noncomputable def Z0:Code:=(j7 [1,1,0,1,0,0] (Try.f101.body.getD .skip))
def X4(E:j3)(w0:j8)(Q:D→b8→Prop):o9→List D→b8→Prop:=
 (q8 0 (G5 Try.prog E w0 H7 H8 H5 (j7 [1,1,1] (Try.f101.body.getD .skip)) (E7 Try.prog Try.f101 Q)))
def Z3(E:j3)(w0:j8)(N0:D→D→D→D→D→b8→Prop)(Q:D→b8→Prop)(x0 x3 x9 x10 x11:D)(S:b8):Prop:=
 b7 (i5 .lss x11 x10) fun v1=>
 i9 v1
 (b7 (o7 1 x9 x11) fun v2=>
 b7 (c9 S v2) fun v3=>
 b7 (m8 v3) fun v4=>
 b7 (i5 .add x3 v4) fun v5=>
 b7 (i5 .lss v5 (.int .i64 0)) fun v6=>
 i9 v6
 (b7 (some (D.ifc 9 (.str [108,101,110,32,111,117,116,32,111,102,32,114,97,110,103,101]))) fun v7=>
 b1z E w0 v7 S)
 (b7 (i5 .add x11 (.int .i64 1)) fun v8=>
 N0 x0 v5 x9 x10 v8 S))
 (l8 Try.prog E w0 a1N [.nilSlc,x3] S fun v9 S10=>
 b7 (m8 x0) fun v11=>
 j2 Try.prog E w0 (.loop Z5) (m6 36 [6,25,26,27] [v9,x0,v11,(.int .i64 0)]) S10 (Z1 E w0 Q))
theorem a6C{E:j3}{w0:j8}{N0:D→D→D→D→D→b8→Prop}{Q:D→b8→Prop}{x0 x3 x9 x10 x11:D}{S:b8}(h:Z3 E w0 N0 Q x0 x3 x9 x10 x11 S):
  j2 Try.prog E w0 Z0 (m6 36 [0,3,9,10,11] [x0,x3,x9,x10,x11]) S (B1 (fun T S=>N0 (T.getD 0 b9) (T.getD 3 b9) (T.getD 9 b9) (T.getD 10 b9) (T.getD 11 b9) S) (X4 E w0 Q)):=j4 H7 H8 H5 mixed (by kernel_rfl) h
theorem a6z{E:j3}{w0:j8}{Q:D→b8→Prop}(I:Nat→D→D→D→D→D→b8→Prop)
  (step:∀n x0 x3 x9 x10 x11 S,I n x0 x3 x9 x10 x11 S→Z3 E w0 (fun x0 x3 x9 x10 x11 S=>∃m,m<n∧I m x0 x3 x9 x10 x11 S) Q x0 x3 x9 x10 x11 S)
  {n:Nat} {x0 x3 x9 x10 x11:D} {S:b8} (h:I n x0 x3 x9 x10 x11 S):j2 Try.prog E w0 (.loop Z0) (m6 36 [0,3,9,10,11] [x0,x3,x9,x10,x11]) S (X4 E w0 Q):=
 p8 (k:=36) (n:=n) (I:=fun n T S=>I n (T.getD 0 b9) (T.getD 3 b9) (T.getD 9 b9) (T.getD 10 b9) (T.getD 11 b9) S) (fun n T S hl hI=>q9 [0,3,9,10,11] hl (j2.mono (a6C (step n _ _ _ _ _ S hI)) fun ex T' S' _ hq=>by cases ex<;>exact hq)) (o0 ..) (Eq.mp (by kernel_rfl) h)
def a3Y(E:j3)(w0:j8)(Q:D→b8→Prop)(a0:D)(S:b8):Prop:=
 b7 (m8 a0) fun v0=>
 j2 Try.prog E w0 (.loop Z0) (m6 36 [0,3,9,10,11] [a0,(.int .i64 0),a0,v0,(.int .i64 0)]) S (X4 E w0 Q)
theorem a7Q{E:j3}{w0:j8}{Q:D→b8→Prop}{a0:D}{S:b8}(h:a3Y E w0 (i4 E Q) a0 S):l8 Try.prog E w0 J8 [a0] S Q:=
 j5 H7 H8 H5 (fn:=Try.f101) (c:=Try.f101.body.getD .skip) mixed Try.func101 (by kernel_rfl) (by kernel_rfl) h
def a4N:List (Nat×List Nat):=[]
def a4K:List (Nat×List Nat):=[(4,[0,1])]
def a4P:List (Nat×V1):=[]
noncomputable def b0r:Code:=(j7 [1] (Try.f124.body.getD .skip))
def b0a(E:j3)(w0:j8)(Q:D→b8→Prop):o9→List D→b8→Prop:=
 (E7 Try.prog Try.f124 Q)
def a4k(E:j3)(w0:j8)(Q:D→b8→Prop)(x0 x1:D)(S:b8):Prop:=
 b7 (a0B x0) fun v0=>
 b7 (j1 0 v0) fun v1=>
 b7 (c9 S v1) fun v2=>
 u9 S 1 1 v2 x1 fun v3 S4=>
 b7 (a0B x0) fun v5=>
 b7 (j1 0 v5) fun v6=>
 i7 S4 1 v6 v3 fun v7 S8=>
 Q b9 S8
def Q3(E:j3)(w0:j8)(Q:D→b8→Prop)(x0 x1:D)(S:b8):Prop:=j2 Try.prog E w0 b0r (m6 29 [0,1] [x0,x1]) S (b0a E w0 Q)
theorem a7S{E:j3}{w0:j8}{Q:D→b8→Prop}{x0 x1:D}{S:b8}(h:a4k E w0 Q x0 x1 S):Q3 E w0 Q x0 x1 S:=j4 a4N a4K a4P mixed (by kernel_rfl) h
def a5o(E:j3)(w0:j8)(Q:D→b8→Prop)(a0 a1:D)(S:b8):Prop:=
 b7 (m8 a1) fun v9=>
 b7 (a0B a0) fun v10=>
 b7 (j1 0 v10) fun v11=>
 b7 (c9 S v11) fun v12=>
 b7 (m8 v12) fun v13=>
 b7 (i5 .sub (.int .i64 2097153) v13) fun v14=>
 b7 (i5 .gtr v9 v14) fun v15=>
 i9 v15
 (b7 (a0B a0) fun v16=>
 b7 (j1 0 v16) fun v17=>
 b7 (c9 S v17) fun v18=>
 b7 (m8 v18) fun v19=>
 b7 (i5 .sub (.int .i64 2097153) v19) fun v20=>
 b0Z S 1 1 [(.int .u8 0)] v20 v20 fun v21 S22=>
 Q3 E w0 Q a0 v21 S22)
 (Q3 E w0 Q a0 a1 S)
theorem a9Z{E:j3}{w0:j8}{Q:D→b8→Prop}{a0 a1:D}{S:b8}(h:a5o E w0 (i4 E Q) a0 a1 S):l8 Try.prog E w0 I5 [a0,a1] S Q:=
 j5 a4N a4K a4P (fn:=Try.f124) (c:=Try.f124.body.getD .skip) mixed Try.func124 (by kernel_rfl) (by kernel_rfl) h
def a8v:List (Nat×List Nat):=[]
def a8V:List (Nat×List Nat):=[]
def a9d:List (Nat×V1):=[]
def a3g(E:j3)(w0:j8)(Q:D→b8→Prop)(a0 a1:D)(S:b8):Prop:=
 b7 (J1 .u64 a1) fun v0=>
 l8 Try.prog E w0 b4j [v0] S fun v1 S2=>
 l8 Try.prog E w0 I5 [a0,v1] S2 fun v3 S4=>
 Q b9 S4
theorem a7n{E:j3}{w0:j8}{Q:D→b8→Prop}{a0 a1:D}{S:b8}(h:a3g E w0 (i4 E Q) a0 a1 S):l8 Try.prog E w0 p9 [a0,a1] S Q:=
 j5 a8v a8V a9d (fn:=Try.f123) (c:=Try.f123.body.getD .skip) mixed Try.func123 (by kernel_rfl) (by kernel_rfl) h
def a4g:List (Nat×List Nat):=[]
def a4s:List (Nat×List Nat):=[(6,[0,1])]
def a4n:List (Nat×V1):=[]
noncomputable def b0p:Code:=(j7 [1,1] (Try.f125.body.getD .skip))
def a9h(E:j3)(w0:j8)(Q:D→b8→Prop):o9→List D→b8→Prop:=
 (E7 Try.prog Try.f125 Q)
def a3i(E:j3)(w0:j8)(Q:D→b8→Prop)(x0 x1:D)(S:b8):Prop:=
 c2k S x1 fun v3 S4=>
 l8 Try.prog E w0 I5 [x0,v3] S4 fun v5 S6=>
 Q b9 S6
def a0n(E:j3)(w0:j8)(Q:D→b8→Prop)(x0 x1:D)(S:b8):Prop:=j2 Try.prog E w0 b0p (m6 17 [0,1] [x0,x1]) S (a9h E w0 Q)
theorem a7h{E:j3}{w0:j8}{Q:D→b8→Prop}{x0 x1:D}{S:b8}(h:a3i E w0 Q x0 x1 S):a0n E w0 Q x0 x1 S:=j4 a4g a4s a4n mixed (by kernel_rfl) h
def a4U(E:j3)(w0:j8)(Q:D→b8→Prop)(a0 a1:D)(S:b8):Prop:=
 b7 (a3n a1) fun v0=>
 l8 Try.prog E w0 p9 [a0,v0] S fun v1 S2=>
 b7 (a3n a1) fun v7=>
 b7 (i5 .gtr v7 (.int .i64 2097152)) fun v8=>
 i9 v8
 (b7 (b9L a1 none (some (.int .i64 2097152))) fun v9=>
 a0n E w0 Q a0 v9 S2)
 (a0n E w0 Q a0 a1 S2)
theorem a8r{E:j3}{w0:j8}{Q:D→b8→Prop}{a0 a1:D}{S:b8}(h:a4U E w0 (i4 E Q) a0 a1 S):l8 Try.prog E w0 D7 [a0,a1] S Q:=
 j5 a4g a4s a4n (fn:=Try.f125) (c:=Try.f125.body.getD .skip) mixed Try.func125 (by kernel_rfl) (by kernel_rfl) h
def a1V:List (Nat×List Nat):=[(4,[0,10,11,12])]
def a1X:List (Nat×List Nat):=[]
def a2d:List (Nat×V1):=[]
noncomputable def U0:Code:=(j7 [1,1,0,0] (Try.f126.body.getD .skip))
def R8(E:j3)(w0:j8)(Q:D→b8→Prop):o9→List D→b8→Prop:=
 (q8 0 (E7 Try.prog Try.f126 Q))
def U2(E:j3)(w0:j8)(N0:D→D→D→D→b8→Prop)(Q:D→b8→Prop)(x0 x10 x11 x12:D)(S:b8):Prop:=
 b7 (i5 .lss x12 x11) fun v4=>
 i9 v4
 (b7 (o7 1 x10 x12) fun v5=>
 b7 (c9 S v5) fun v6=>
 l8 Try.prog E w0 p9 [x0,v6] S fun v7 S8=>
 b7 (i5 .add x12 (.int .i64 1)) fun v9=>
 N0 x0 x10 x11 v9 S8)
 (Q b9 S)
theorem a4V{E:j3}{w0:j8}{N0:D→D→D→D→b8→Prop}{Q:D→b8→Prop}{x0 x10 x11 x12:D}{S:b8}(h:U2 E w0 N0 Q x0 x10 x11 x12 S):
  j2 Try.prog E w0 U0 (m6 20 [0,10,11,12] [x0,x10,x11,x12]) S (B1 (fun T S=>N0 (T.getD 0 b9) (T.getD 10 b9) (T.getD 11 b9) (T.getD 12 b9) S) (R8 E w0 Q)):=j4 a1V a1X a2d mixed (by kernel_rfl) h
theorem a5j{E:j3}{w0:j8}{Q:D→b8→Prop}(I:Nat→D→D→D→D→b8→Prop)
  (step:∀n x0 x10 x11 x12 S,I n x0 x10 x11 x12 S→U2 E w0 (fun x0 x10 x11 x12 S=>∃m,m<n∧I m x0 x10 x11 x12 S) Q x0 x10 x11 x12 S)
  {n:Nat} {x0 x10 x11 x12:D} {S:b8} (h:I n x0 x10 x11 x12 S):j2 Try.prog E w0 (.loop U0) (m6 20 [0,10,11,12] [x0,x10,x11,x12]) S (R8 E w0 Q):=
 p8 (k:=20) (n:=n) (I:=fun n T S=>I n (T.getD 0 b9) (T.getD 10 b9) (T.getD 11 b9) (T.getD 12 b9) S) (fun n T S hl hI=>q9 [0,10,11,12] hl (j2.mono (a4V (step n _ _ _ _ S hI)) fun ex T' S' _ hq=>by cases ex<;>exact hq)) (o0 ..) (Eq.mp (by kernel_rfl) h)
def a2y(E:j3)(w0:j8)(Q:D→b8→Prop)(a0 a1:D)(S:b8):Prop:=
 b7 (m8 a1) fun v0=>
 l8 Try.prog E w0 p9 [a0,v0] S fun v1 S2=>
 b7 (m8 a1) fun v3=>
 j2 Try.prog E w0 (.loop U0) (m6 20 [0,10,11,12] [a0,a1,v3,(.int .i64 0)]) S2 (R8 E w0 Q)
theorem a6A{E:j3}{w0:j8}{Q:D→b8→Prop}{a0 a1:D}{S:b8}(h:a2y E w0 (i4 E Q) a0 a1 S):l8 Try.prog E w0 L9 [a0,a1] S Q:=
 j5 a1V a1X a2d (fn:=Try.f126) (c:=Try.f126.body.getD .skip) mixed Try.func126 (by kernel_rfl) (by kernel_rfl) h
def C8:List (Nat×List Nat):=[(8,[1,3,19,20,21]),(22,[1,3,19,20,21,43,44,45]),(44,[1,3,76,77,78]),(56,[3,92,93,94])]
def C9:List (Nat×List Nat):=[]
def D0:List (Nat×V1):=[]
noncomputable def a6t:Code:=(j7 [1,1,1,0,1,0,0,1,1,0,0,1,1,0,1,0,1,1,0,1,0,0] (Try.f100.body.getD .skip))
def a6r(E:j3)(w0:j8)(N0:D→D→D→D→D→b8→Prop)(Q:D→b8→Prop):o9→List D→b8→Prop:=
 (q8 2 (G5 Try.prog E w0 C8 C9 D0 (j7 [1,1,1,0,1,0,0,1,1,0,0,1,1,0,1,0,1,1,1] (Try.f100.body.getD .skip)) (G5 Try.prog E w0 C8 C9 D0 (j7 [1,1,1,0,1,0,0,1,1,0,0,1,1,1] (Try.f100.body.getD .skip)) (q8 1 (G5 Try.prog E w0 C8 C9 D0 (j7 [1,1,1,0,1,0,0,1,1,1] (Try.f100.body.getD .skip)) (B1 (fun T S=>N0 (T.getD 1 b9) (T.getD 3 b9) (T.getD 19 b9) (T.getD 20 b9) (T.getD 21 b9) S) (q8 0 (G5 Try.prog E w0 C8 C9 D0 (j7 [1,1,1,1] (Try.f100.body.getD .skip)) (E7 Try.prog Try.f100 Q)))))))))
def a5V(E:j3)(w0:j8)(N0:D→D→D→D→D→b8→Prop)(N1:D→D→D→D→D→D→D→D→b8→Prop)(Q:D→b8→Prop)(x1 x3 x19 x20 x21 x43 x44 x45:D)(S:b8):Prop:=
 b7 (i5 .lss x45 x44) fun v40=>
 i9 v40
 (b7 (o7 2 x43 x45) fun v41=>
 b7 (i6 S 2 v41) fun v42=>
 j6 S [(.str []),(.int .i64 0)] fun v43 S44=>
 i7 S44 2 v43 v42 fun v45 S46=>
 b7 (j1 0 v43) fun v47=>
 b7 (c9 S46 v47) fun v48=>
 l8 Try.prog E w0 D7 [x3,v48] S46 fun v49 S50=>
 b7 (j1 1 v43) fun v51=>
 b7 (c9 S50 v51) fun v52=>
 l8 Try.prog E w0 p9 [x3,v52] S50 fun v53 S54=>
 b7 (i5 .add x45 (.int .i64 1)) fun v55=>
 N1 x1 x3 x19 x20 x21 x43 x44 v55 S54)
 (b7 (i5 .add x21 (.int .i64 1)) fun v56=>
 N0 x1 x3 x19 x20 v56 S)
theorem b4P{E:j3}{w0:j8}{N0:D→D→D→D→D→b8→Prop}{N1:D→D→D→D→D→D→D→D→b8→Prop}{Q:D→b8→Prop}{x1 x3 x19 x20 x21 x43 x44 x45:D}{S:b8}(h:a5V E w0 N0 N1 Q x1 x3 x19 x20 x21 x43 x44 x45 S):
  j2 Try.prog E w0 a6t (m6 128 [1,3,19,20,21,43,44,45] [x1,x3,x19,x20,x21,x43,x44,x45]) S (B1 (fun T S=>N1 (T.getD 1 b9) (T.getD 3 b9) (T.getD 19 b9) (T.getD 20 b9) (T.getD 21 b9) (T.getD 43 b9) (T.getD 44 b9) (T.getD 45 b9) S) (a6r E w0 N0 Q)):=j4 C8 C9 D0 mixed (by kernel_rfl) h
theorem b6m{E:j3}{w0:j8}{N0:D→D→D→D→D→b8→Prop}{Q:D→b8→Prop}(I:Nat→D→D→D→D→D→D→D→D→b8→Prop)
  (step:∀n x1 x3 x19 x20 x21 x43 x44 x45 S,I n x1 x3 x19 x20 x21 x43 x44 x45 S→a5V E w0 N0 (fun x1 x3 x19 x20 x21 x43 x44 x45 S=>∃m,m<n∧I m x1 x3 x19 x20 x21 x43 x44 x45 S) Q x1 x3 x19 x20 x21 x43 x44 x45 S)
  {n:Nat} {x1 x3 x19 x20 x21 x43 x44 x45:D} {S:b8} (h:I n x1 x3 x19 x20 x21 x43 x44 x45 S):j2 Try.prog E w0 (.loop a6t) (m6 128 [1,3,19,20,21,43,44,45] [x1,x3,x19,x20,x21,x43,x44,x45]) S (a6r E w0 N0 Q):=
 p8 (k:=128) (n:=n) (I:=fun n T S=>I n (T.getD 1 b9) (T.getD 3 b9) (T.getD 19 b9) (T.getD 20 b9) (T.getD 21 b9) (T.getD 43 b9) (T.getD 44 b9) (T.getD 45 b9) S) (fun n T S hl hI=>q9 [1,3,19,20,21,43,44,45] hl (j2.mono (b4P (step n _ _ _ _ _ _ _ _ S hI)) fun ex T' S' _ hq=>by cases ex<;>exact hq)) (o0 ..) (Eq.mp (by kernel_rfl) h)
noncomputable def a6x:Code:=(j7 [1,1,1,1,1,1,1,0,1,0,0] (Try.f100.body.getD .skip))
def a5q(E:j3)(w0:j8)(Q:D→b8→Prop):o9→List D→b8→Prop:=
 (q8 6 (G5 Try.prog E w0 C8 C9 D0 (j7 [1,1,1,1,1,1,1,1] (Try.f100.body.getD .skip)) (E7 Try.prog Try.f100 Q)))
def a5B(E:j3)(w0:j8)(N3:D→D→D→D→b8→Prop)(Q:D→b8→Prop)(x3 x92 x93 x94:D)(S:b8):Prop:=
 b7 (i5 .lss x94 x93) fun v92=>
 i9 v92
 (b7 (o7 6 x92 x94) fun v93=>
 b7 (i6 S 6 v93) fun v94=>
 j6 S [(.str []), .nilSlc, .nilSlc,(.int .i64 0),(.int .i64 0), .nilSlc] fun v95 S96=>
 i7 S96 6 v95 v94 fun v97 S98=>
 b7 (j1 0 v95) fun v99=>
 b7 (c9 S98 v99) fun v100=>
 l8 Try.prog E w0 D7 [x3,v100] S98 fun v101 S102=>
 b7 (j1 1 v95) fun v103=>
 b7 (c9 S102 v103) fun v104=>
 l8 Try.prog E w0 L9 [x3,v104] S102 fun v105 S106=>
 b7 (j1 2 v95) fun v107=>
 b7 (c9 S106 v107) fun v108=>
 l8 Try.prog E w0 L9 [x3,v108] S106 fun v109 S110=>
 b7 (j1 3 v95) fun v111=>
 b7 (c9 S110 v111) fun v112=>
 l8 Try.prog E w0 p9 [x3,v112] S110 fun v113 S114=>
 b7 (j1 4 v95) fun v115=>
 b7 (c9 S114 v115) fun v116=>
 l8 Try.prog E w0 p9 [x3,v116] S114 fun v117 S118=>
 b7 (j1 5 v95) fun v119=>
 b7 (c9 S118 v119) fun v120=>
 b7 (c2d S118 v120) fun v121=>
 l8 Try.prog E w0 D7 [x3,v121] S118 fun v122 S123=>
 b7 (i5 .add x94 (.int .i64 1)) fun v124=>
 N3 x3 x92 x93 v124 S123)
 (b7 (a0B x3) fun v125=>
 b7 (j1 0 v125) fun v126=>
 b7 (c9 S v126) fun v127=>
 Q v127 S)
theorem b4R{E:j3}{w0:j8}{N3:D→D→D→D→b8→Prop}{Q:D→b8→Prop}{x3 x92 x93 x94:D}{S:b8}(h:a5B E w0 N3 Q x3 x92 x93 x94 S):
  j2 Try.prog E w0 a6x (m6 128 [3,92,93,94] [x3,x92,x93,x94]) S (B1 (fun T S=>N3 (T.getD 3 b9) (T.getD 92 b9) (T.getD 93 b9) (T.getD 94 b9) S) (a5q E w0 Q)):=j4 C8 C9 D0 mixed (by kernel_rfl) h
theorem b4Q{E:j3}{w0:j8}{Q:D→b8→Prop}(I:Nat→D→D→D→D→b8→Prop)
  (step:∀n x3 x92 x93 x94 S,I n x3 x92 x93 x94 S→a5B E w0 (fun x3 x92 x93 x94 S=>∃m,m<n∧I m x3 x92 x93 x94 S) Q x3 x92 x93 x94 S)
  {n:Nat} {x3 x92 x93 x94:D} {S:b8} (h:I n x3 x92 x93 x94 S):j2 Try.prog E w0 (.loop a6x) (m6 128 [3,92,93,94] [x3,x92,x93,x94]) S (a5q E w0 Q):=
 p8 (k:=128) (n:=n) (I:=fun n T S=>I n (T.getD 3 b9) (T.getD 92 b9) (T.getD 93 b9) (T.getD 94 b9) S) (fun n T S hl hI=>q9 [3,92,93,94] hl (j2.mono (b4R (step n _ _ _ _ S hI)) fun ex T' S' _ hq=>by cases ex<;>exact hq)) (o0 ..) (Eq.mp (by kernel_rfl) h)
noncomputable def a6a:Code:=(j7 [1,1,1,1,1,0,1,0,0] (Try.f100.body.getD .skip))
def a5p(E:j3)(w0:j8)(Q:D→b8→Prop):o9→List D→b8→Prop:=
 (q8 4 (G5 Try.prog E w0 C8 C9 D0 (j7 [1,1,1,1,1,1] (Try.f100.body.getD .skip)) (E7 Try.prog Try.f100 Q)))
def a5R(E:j3)(w0:j8)(N2:D→D→D→D→D→b8→Prop)(Q:D→b8→Prop)(x1 x3 x76 x77 x78:D)(S:b8):Prop:=
 b7 (i5 .lss x78 x77) fun v78=>
 i9 v78
 (b7 (o7 1 x76 x78) fun v79=>
 b7 (c9 S v79) fun v80=>
 l8 Try.prog E w0 D7 [x3,v80] S fun v81 S82=>
 b7 (i5 .add x78 (.int .i64 1)) fun v83=>
 N2 x1 x3 x76 x77 v83 S82)
 (b7 (j1 2 x1) fun v84=>
 b7 (c9 S v84) fun v85=>
 b7 (m8 v85) fun v86=>
 l8 Try.prog E w0 p9 [x3,v86] S fun v87 S88=>
 b7 (j1 2 x1) fun v89=>
 b7 (c9 S88 v89) fun v90=>
 b7 (m8 v90) fun v91=>
 j2 Try.prog E w0 (.loop a6x) (m6 128 [3,92,93,94] [x3,v90,v91,(.int .i64 0)]) S88 (a5q E w0 Q))
theorem b5o{E:j3}{w0:j8}{N2:D→D→D→D→D→b8→Prop}{Q:D→b8→Prop}{x1 x3 x76 x77 x78:D}{S:b8}(h:a5R E w0 N2 Q x1 x3 x76 x77 x78 S):
  j2 Try.prog E w0 a6a (m6 128 [1,3,76,77,78] [x1,x3,x76,x77,x78]) S (B1 (fun T S=>N2 (T.getD 1 b9) (T.getD 3 b9) (T.getD 76 b9) (T.getD 77 b9) (T.getD 78 b9) S) (a5p E w0 Q)):=j4 C8 C9 D0 mixed (by kernel_rfl) h
theorem b5q{E:j3}{w0:j8}{Q:D→b8→Prop}(I:Nat→D→D→D→D→D→b8→Prop)
  (step:∀n x1 x3 x76 x77 x78 S,I n x1 x3 x76 x77 x78 S→a5R E w0 (fun x1 x3 x76 x77 x78 S=>∃m,m<n∧I m x1 x3 x76 x77 x78 S) Q x1 x3 x76 x77 x78 S)
  {n:Nat} {x1 x3 x76 x77 x78:D} {S:b8} (h:I n x1 x3 x76 x77 x78 S):j2 Try.prog E w0 (.loop a6a) (m6 128 [1,3,76,77,78] [x1,x3,x76,x77,x78]) S (a5p E w0 Q):=
 p8 (k:=128) (n:=n) (I:=fun n T S=>I n (T.getD 1 b9) (T.getD 3 b9) (T.getD 76 b9) (T.getD 77 b9) (T.getD 78 b9) S) (fun n T S hl hI=>q9 [1,3,76,77,78] hl (j2.mono (b5o (step n _ _ _ _ _ S hI)) fun ex T' S' _ hq=>by cases ex<;>exact hq)) (o0 ..) (Eq.mp (by kernel_rfl) h)
noncomputable def a5Y:Code:=(j7 [1,1,1,0,1,0,0] (Try.f100.body.getD .skip))
def a5U(E:j3)(w0:j8)(Q:D→b8→Prop):o9→List D→b8→Prop:=
 (q8 0 (G5 Try.prog E w0 C8 C9 D0 (j7 [1,1,1,1] (Try.f100.body.getD .skip)) (E7 Try.prog Try.f100 Q)))
def a6f(E:j3)(w0:j8)(N0:D→D→D→D→D→b8→Prop)(Q:D→b8→Prop)(x1 x3 x19 x20 x21:D)(S:b8):Prop:=
 b7 (i5 .lss x21 x20) fun v12=>
 i9 v12
 (b7 (o7 5 x19 x21) fun v13=>
 b7 (i6 S 5 v13) fun v14=>
 j6 S [(.int .u8 0),(.str []), .nilSlc,(.int .i64 0),(.int .i64 0)] fun v15 S16=>
 i7 S16 5 v15 v14 fun v17 S18=>
 b7 (j1 0 v15) fun v19=>
 b7 (c9 S18 v19) fun v20=>
 r7 S18 1 (m9 1 (List.replicate 1 [(.int .u8 0)]) [(0,v20)]) 1 fun v21 S22=>
 l8 Try.prog E w0 I5 [x3,v21] S22 fun v23 S24=>
 b7 (j1 0 v15) fun v25=>
 b7 (c9 S24 v25) fun v26=>
 b7 (i5 .eql v26 (.int .u8 6)) fun v27=>
 i9 v27
 (b7 (j1 1 v15) fun v28=>
 b7 (c9 S24 v28) fun v29=>
 l8 Try.prog E w0 D7 [x3,v29] S24 fun v30 S31=>
 b7 (j1 2 v15) fun v32=>
 b7 (c9 S31 v32) fun v33=>
 b7 (m8 v33) fun v34=>
 l8 Try.prog E w0 p9 [x3,v34] S31 fun v35 S36=>
 b7 (j1 2 v15) fun v37=>
 b7 (c9 S36 v37) fun v38=>
 b7 (m8 v38) fun v39=>
 j2 Try.prog E w0 (.loop a6t) (m6 128 [1,3,19,20,21,43,44,45] [x1,x3,x19,x20,x21,v38,v39,(.int .i64 0)]) S36 (a6r E w0 N0 Q))
 (b7 (j1 3 v15) fun v57=>
 b7 (c9 S24 v57) fun v58=>
 l8 Try.prog E w0 p9 [x3,v58] S24 fun v59 S60=>
 b7 (j1 0 v15) fun v61=>
 b7 (c9 S60 v61) fun v62=>
 b7 (i5 .eql v62 (.int .u8 7)) fun v63=>
 i9 v63
 (b7 (j1 4 v15) fun v64=>
 b7 (c9 S60 v64) fun v65=>
 l8 Try.prog E w0 p9 [x3,v65] S60 fun v66 S67=>
 b7 (i5 .add x21 (.int .i64 1)) fun v68=>
 N0 x1 x3 x19 x20 v68 S67)
 (b7 (i5 .add x21 (.int .i64 1)) fun v69=>
 N0 x1 x3 x19 x20 v69 S60)))
 (b7 (j1 1 x1) fun v70=>
 b7 (c9 S v70) fun v71=>
 b7 (m8 v71) fun v72=>
 l8 Try.prog E w0 p9 [x3,v72] S fun v73 S74=>
 b7 (j1 1 x1) fun v75=>
 b7 (c9 S74 v75) fun v76=>
 b7 (m8 v76) fun v77=>
 j2 Try.prog E w0 (.loop a6a) (m6 128 [1,3,76,77,78] [x1,x3,v76,v77,(.int .i64 0)]) S74 (a5p E w0 Q))
theorem b5Q{E:j3}{w0:j8}{N0:D→D→D→D→D→b8→Prop}{Q:D→b8→Prop}{x1 x3 x19 x20 x21:D}{S:b8}(h:a6f E w0 N0 Q x1 x3 x19 x20 x21 S):
  j2 Try.prog E w0 a5Y (m6 128 [1,3,19,20,21] [x1,x3,x19,x20,x21]) S (B1 (fun T S=>N0 (T.getD 1 b9) (T.getD 3 b9) (T.getD 19 b9) (T.getD 20 b9) (T.getD 21 b9) S) (a5U E w0 Q)):=j4 C8 C9 D0 mixed (by kernel_rfl) h
theorem b4A{E:j3}{w0:j8}{Q:D→b8→Prop}(I:Nat→D→D→D→D→D→b8→Prop)
  (step:∀n x1 x3 x19 x20 x21 S,I n x1 x3 x19 x20 x21 S→a6f E w0 (fun x1 x3 x19 x20 x21 S=>∃m,m<n∧I m x1 x3 x19 x20 x21 S) Q x1 x3 x19 x20 x21 S)
  {n:Nat} {x1 x3 x19 x20 x21:D} {S:b8} (h:I n x1 x3 x19 x20 x21 S):j2 Try.prog E w0 (.loop a5Y) (m6 128 [1,3,19,20,21] [x1,x3,x19,x20,x21]) S (a5U E w0 Q):=
 p8 (k:=128) (n:=n) (I:=fun n T S=>I n (T.getD 1 b9) (T.getD 3 b9) (T.getD 19 b9) (T.getD 20 b9) (T.getD 21 b9) S) (fun n T S hl hI=>q9 [1,3,19,20,21] hl (j2.mono (b5Q (step n _ _ _ _ _ S hI)) fun ex T' S' _ hq=>by cases ex<;>exact hq)) (o0 ..) (Eq.mp (by kernel_rfl) h)
def b5m(E:j3)(w0:j8)(Q:D→b8→Prop)(a0:D)(S:b8):Prop:=
 b7 (o5 a0) fun cs=>j6 S cs fun v0 S1=>
 j6 S1 [.nilSlc] fun v2 S3=>
 b7 (j1 0 v0) fun v4=>
 b7 (c9 S3 v4) fun v5=>
 b7 (m8 v5) fun v6=>
 l8 Try.prog E w0 p9 [v2,v6] S3 fun v7 S8=>
 b7 (j1 0 v0) fun v9=>
 b7 (c9 S8 v9) fun v10=>
 b7 (m8 v10) fun v11=>
 j2 Try.prog E w0 (.loop a5Y) (m6 128 [1,3,19,20,21] [v0,v2,v10,v11,(.int .i64 0)]) S8 (a5U E w0 Q)
theorem b9h{E:j3}{w0:j8}{Q:D→b8→Prop}{a0:D}{S:b8}(h:b5m E w0 (i4 E Q) a0 S):l8 Try.prog E w0 a8Y [a0] S Q:=
 j5 C8 C9 D0 (fn:=Try.f100) (c:=Try.f100.body.getD .skip) mixed Try.func100 (by kernel_rfl) (by kernel_rfl) h
def b8p:List (Nat×List Nat):=[]
def b8T:List (Nat×List Nat):=[]
def b8F:List (Nat×V1):=[]
def b1j(E:j3)(w0:j8)(Q:D→b8→Prop)(a0:D)(S:b8):Prop:=
 b7 (o5 a0) fun cs=>j6 S cs fun v0 S1=>
 b7 (i6 S1 3 v0) fun v2=>
 l8 Try.prog E w0 a2K [v2] S1 fun v3 S4=>
 b7 (i5 .neq v3 (.int .i64 0)) fun v5=>
 i9 v5
 (Q (.tup [.nilSlc,v3]) S4)
 (b7 (i6 S4 3 v0) fun v6=>
 l8 Try.prog E w0 a8Y [v6] S4 fun v7 S8=>
 b7 (m8 v7) fun v9=>
 b7 (i5 .gtr v9 (.int .i64 2097140)) fun v10=>
 i9 v10
 (Q (.tup [.nilSlc,(.int .i64 3)]) S8)
 (r7 S8 1 (m9 1 (List.replicate 4 [(.int .u8 0)]) [(0,(.int .u8 84)),(1,(.int .u8 82)),(2,(.int .u8 77)),(3,(.int .u8 1))]) 4 fun v11 S12=>
 c9I S12 v11 fun v13 S14=>
 b7 (m8 v7) fun v15=>
 b7 (J1 .u64 v15) fun v16=>
 l8 Try.prog E w0 a1i [v16,(.int .i64 4)] S14 fun v17 S18=>
 l8 Try.prog E w0 b3U [v7] S18 fun v19 S20=>
 b7 (J1 .u64 v19) fun v21=>
 l8 Try.prog E w0 a1i [v21,(.int .i64 4)] S20 fun v22 S23=>
 r7 S23 1 (m9 1 (List.replicate 4 [.nilSlc]) [(0,v13),(1,v17),(2,v7),(3,v22)]) 4 fun v24 S25=>
 l8 Try.prog E w0 J8 [v24] S25 fun v26 S27=>
 Q (.tup [v26,(.int .i64 0)]) S27))
theorem b4O{E:j3}{w0:j8}{Q:D→b8→Prop}{a0:D}{S:b8}(h:b1j E w0 (i4 E Q) a0 S):l8 Try.prog E w0 a2x [a0] S Q:=
 j5 b8p b8T b8F (fn:=Try.f71) (c:=Try.f71.body.getD .skip) mixed Try.func71 (by kernel_rfl) (by kernel_rfl) h
def b9U:List (Nat×List Nat):=[]
def b9W:List (Nat×List Nat):=[]
def c1J:List (Nat×V1):=[]
def b3a(E:j3)(w0:j8)(Q:D→b8→Prop)(a0:D)(S:b8):Prop:=
 b7 (o5 a0) fun cs=>j6 S cs fun v0 S1=>
 b7 (i6 S1 3 v0) fun v2=>
 l8 Try.prog E w0 a2x [v2] S1 fun v3 S4=>
 b7 (l9 v3 0) fun v5=>
 b7 (l9 v3 1) fun v6=>
 Q v6 S4
theorem b6u{E:j3}{w0:j8}{Q:D→b8→Prop}{a0:D}{S:b8}(h:b3a E w0 (i4 E Q) a0 S):l8 Try.prog E w0 a7t [a0] S Q:=
 j5 b9U b9W c1J (fn:=Try.f51) (c:=Try.f51.body.getD .skip) mixed Try.func51 (by kernel_rfl) (by kernel_rfl) h
end Go.Proofs.Ytdkidgkiplcggaa.d
end
section
open Go.Proofs Go Go.Am Go.Op
namespace Go.Proofs.Ytdkidgkiplcggaa.d
def c2F:Nat→Nat→List Int
 |0,n=>[(n:Int)]
 |f+1,n=>if n<128 then[(n:Int)]else((n % 128+128:Nat):Int)::c2F f (n / 128)
def d2N(n:Nat):List Int:=c2F 9 n
def a2m(n:Int):List Int:=d2N (n % 18446744073709551616).toNat
def d5Y(a b:Int):Int:=IntKind.u32.wrap (BitVec.ofInt IntKind.u32.bits a &&& BitVec.ofInt IntKind.u32.bits b).toNat
def d4y(a b:Int):Int:=IntKind.u32.wrap (BitVec.ofInt IntKind.u32.bits a ^^^ BitVec.ofInt IntKind.u32.bits b).toNat
def d5M(s:Int):Int:=d4y (s.fdiv (2^(min (1:Int).toNat IntKind.u32.bits))) (d5Y 3988292384 (IntKind.u32.wrap (0 - d5Y s 1)))
def c4n(s b:Int):Int:=Nat.repeat d5M 8 (d4y s (IntKind.u32.wrap b))
def c2q(bs:List Int):Int:=IntKind.u32.wrap (BitVec.ofInt IntKind.u32.bits IntKind.u32.max ^^^ BitVec.ofInt IntKind.u32.bits (bs.foldl c4n 4294967295)).toNat
def GrZ(S0:b8)(t:D)(rows:List (List D))(sz:Nat)(S:b8):Prop:=Grw S0 t rows sz S∨(rows=[]∧∃k cap ex zr acs,S0 k=none∧t= .raw k 0 0 cap ex sz∧S=S0.set k ⟨sz,zr,acs⟩)
section
variable{S0 S:b8}{t:D}{rows:List (List D)}{sz:Nat}
theorem GrZ.push(h:GrZ S0 t rows sz S){bytes:Nat}{v:D}{news:List (List D)}(hv:rowsS S sz v=some news)(hn:news≠[])(hb:0<bytes∧(2*(rows.length+news.length)+768)*bytes≤2^47){K:D→b8→Prop}(hK:∀t' S',Grw S0 t' (rows++news) sz S'→K t' S'):u9 S sz bytes t v K:=by
 rcases h with h|⟨rfl,k,cap,ex,zr,acs,h0,rfl,rfl⟩
 ·exact h.push hv hb hK
 ·simp only[u9,hv,a0w]
  rw[if_neg hn,b8.set_same]
  simp only
  rw[if_pos ⟨by trivial,by trivial,by omega⟩]
  refine⟨by simpa using hb, .inr fun k' acs' hk'=> ?_⟩
  rw[b8.erase_set _ _ _ h0]at hk' ⊢
  refine hK _ _ (.inr ⟨k',acs',hk', ?_, ?_⟩)<;>simp
theorem GrZ.last(h:GrZ S0 t rows sz S){bytes:Nat}{v:D}{news:List (List D)}(hv:rowsS S sz v=some news)(hn:news≠[])(hb:0<bytes∧(2*(rows.length+news.length)+768)*bytes≤2^47){K:D→b8→Prop}(hK:K (.lst (rows++news) sz) S0):u9 S sz bytes t v K:=by
 rcases h with h|⟨rfl,k,cap,ex,zr,acs,h0,rfl,rfl⟩
 ·exact h.last hv hn hb hK
 ·simp only[u9,hv,a0w]
  rw[if_neg hn,b8.set_same]
  simp only
  rw[if_pos ⟨by trivial,by trivial,by omega⟩]
  refine⟨by simpa using hb, .inl ?_⟩
  rw[b8.erase_set _ _ _ h0,List.take_of_length_le (by simp)]
  simpa using hK
end
section
variable{E:j3}{w0:j8}
theorem d5A(n:Nat):i5 .or (.int .u8 (IntKind.u8.wrap (n:Int))) (.int .u8 128)=some (.int .u8 ((n % 128+128:Nat):Int)):=by
 rw[d5R,b9C,b9C]
 have h8:IntKind.u8.bits=8:=rfl
 rw[h8]
 have e1:((n:Int) % 256)=((n % 256:Nat):Int):=by omega
 rw[e1]
 have e2:(BitVec.ofInt 8 ((n % 256:Nat):Int) ||| BitVec.ofInt 8 128).toNat=n % 128+128:=by
  rw[BitVec.toNat_or,b1S]
  have:(BitVec.ofInt 8 128).toNat=128:=rfl
  rw[this]
  have h:=d1k (a:=n % 128) (b:=1) (i:=7) (by omega)
  have:n % 256 % 2^8=n % 256:=by omega
  rw[this]
  rcases Nat.lt_or_ge (n % 256) 128 with hl|hl
  ·rw[show n % 256=n % 128 by omega];simpa using h
  ·have e3:n % 256=n % 128+128:=by omega
   have h':n % 128+128=n % 128 ||| 128:=by simpa using h.symm
   rw[e3,h',Nat.or_assoc,Nat.or_self]
 rw[e2]
 congr 1
 congr 1
 omega
theorem c6z{n0:Nat}(hn:n0<2^64):U1 Try.prog E w0 b4j [.int .u64 (n0:Int)] (bD (d2N n0)):=fun S=>by
 refine c2X ?_
 unfold c0G
 simp only[b0Z]
 rw[if_pos (by decide)]
 refine .inr fun k acs hk=> ?_
 refine b9p (I:=fun m x0 x3 T=>∃(f n:Nat) (acc:List Int),f=m∧x0= .int .u64 (n:Int)∧n<2^(7*f+1)∧n<2^64∧f≤9∧acc.length+f=9∧GrZ S x3 (C6 (acc.map (D.int .u8))) 1 T∧acc++c2F f n=c2F 9 n0) ?_ (n:=9)
  ⟨9,n0,[],rfl,rfl,hn,hn,by omega,by simp, .inr ⟨rfl,k,10,true,_,acs,hk,rfl,rfl⟩,rfl⟩
 rintro m0 _ x3 T ⟨f,n,acc,rfl,rfl,hnf,hn64,hf9,hacc,hg,hput⟩
 unfold a9E
 rw[a7X,oD,K0]
 refine⟨fun hge=> ?_,fun hlt=> ?_⟩
 ·have hge:128≤n:=by omega
  obtain⟨f,rfl⟩:∃f',f=f'+1:=⟨f - 1,by
   rcases f with _|f
   ·simp at hnf;omega
   ·rfl⟩
  rw[c2F,if_neg (by omega)]at hput
  rw[cvI,oD,d5A,oD,show m9 1 (List.replicate 1 [D.int .u8 0]) [(0, .int .u8 ((n % 128+128:Nat):Int))]=some (C6 [D.int .u8 ((n % 128+128:Nat):Int)]) from rfl]
  refine F3 rfl ?_
  refine hg.push (news:=C6 [D.int .u8 ((n % 128+128:Nat):Int)]) rfl (by simp[C6]) (by simp;omega) fun t' T' hg'=> ?_
  rw[c9F _ _ _ _ (by omega),oD]
  have e:((n:Int).fdiv (2^(min (7:Int).toNat IntKind.u64.bits)))=((n / 128:Nat):Int):=by
   rw[show min (7:Int).toNat IntKind.u64.bits=7 from rfl,Int.fdiv_eq_ediv_of_nonneg _ (by decide)]
   omega
  rw[e]
  refine⟨f,by omega,f,n / 128,acc++[((n % 128+128:Nat):Int)],rfl,rfl, ?_,by omega,by omega,by simp;omega, .inl ?_,by rw[←hput];simp⟩
  ·have:2^(7*(f+1)+1)=2^(7*f+1)*128:=by rw[show 7*(f+1)+1=(7*f+1)+7 by omega,Nat.pow_add]
   omega
  ·have:C6 ((acc++[((n % 128+128:Nat):Int)]).map (D.int .u8))=C6 (acc.map (D.int .u8))++C6 [D.int .u8 ((n % 128+128:Nat):Int)]:=by rw[List.map_append,a4r];rfl
   rw[this];exact hg'
 ·have hlt:n<128:=by omega
  have hpn:c2F f n=[(n:Int)]:=by
   cases f with
   |zero=>rfl
   |succ f=>rw[c2F,if_pos hlt]
  rw[hpn]at hput
  have hw:IntKind.u8.wrap (n:Int)=n:=by rw[b9C];omega
  rw[cvI,oD,hw,show m9 1 (List.replicate 1 [D.int .u8 0]) [(0, .int .u8 (n:Int))]=some (C6 [D.int .u8 (n:Int)]) from rfl]
  refine F3 rfl ?_
  refine hg.last (news:=C6 [D.int .u8 (n:Int)]) rfl (by simp[C6]) (by simp;omega) ?_
  have:(.lst (C6 (acc.map (D.int .u8))++C6 [D.int .u8 (n:Int)]) 1:D)=bD (d2N n0):=by
   unfold bD d2N
   rw[←hput,List.map_append,a4r];rfl
  rw[this]
  exact i4.pure
theorem c5L{bs:List Int}(hl:bs.length<2^60):U1 Try.prog E w0 b3U [bD bs] (.int .u32 (c2q bs)):=fun S=>by
 refine c2t ?_
 unfold c1e
 rw[a1M,oD]
 refine b9t (I:=fun n x3 x6 x7 x8 T=>S=T∧x6=bD bs∧x7= .int .i64 (bs.length:Int)∧∃i:Nat,x8= .int .i64 (i:Int)∧i+n=bs.length∧x3= .int .u32 ((bs.take i).foldl c4n 4294967295)) ?_ (n:=bs.length)
  ⟨rfl,rfl,rfl,0,rfl,by omega,rfl⟩
 rintro n _ _ _ _ _ ⟨rfl,rfl,rfl,i,rfl,hi,rfl⟩
 unfold a9A
 rw[H6,oD,K0]
 refine⟨fun hlt=> ?_,fun hge=> ?_⟩
 ·have hlt:i<bs.length:=by omega
  rw[c9P (List.getElem?_eq_getElem hlt),oD,lsE,List.getElem?_cons_zero,oD,cvI,oD,d3F,oD]
  refine b8x (I:=fun m x3 x6 x7 x8 x16 T=>S=T∧x6=bD bs∧x7= .int .i64 (bs.length:Int)∧x8= .int .i64 (i:Int)∧∃j:Nat,x16= .int .i64 (j:Int)∧j+m=8∧x3= .int .u32 (Nat.repeat d5M j (d4y ((bs.take i).foldl c4n 4294967295) (IntKind.u32.wrap bs[i])))) ?_ (n:=8)
   ⟨rfl,rfl,rfl,rfl,0,rfl,rfl,rfl⟩
  rintro m _ _ _ _ _ _ ⟨rfl,rfl,rfl,rfl,j,rfl,hj,rfl⟩
  unfold a8F
  rw[H6,oD,K0]
  refine⟨fun hjl=> ?_,fun hjg=> ?_⟩
  ·rw[c9F _ _ _ _ (by decide),oD,d3U,oD,unM,oD,d3U,oD,d3F,oD,D5,oD,l7 (by omega) (by omega)]
   exact⟨m - 1,by omega,rfl,rfl,rfl,rfl,j+1,rfl,by omega,rfl⟩
  ·have hj8:j=8:=by omega
   subst hj8
   rw[D5,oD,l7 (by omega) (by omega)]
   refine⟨n - 1,by omega,rfl,rfl,rfl,i+1,rfl,by omega, ?_⟩
   rw[List.take_add_one,List.getElem?_eq_getElem hlt,List.foldl_append]
   rfl
 ·have hi:i=bs.length:=by omega
  subst hi
  rw[List.take_length]
  have e:unD .xor (.int .u32 (bs.foldl c4n 4294967295))=some (.int .u32 (c2q bs)):=rfl
  rw[e,oD]
  exact i4.pure
theorem d3q{n:Nat}(hn:n<2^40){S:b8}:l8 Try.prog E w0 a1N [.nilSlc, .int .i64 (n:Int)] S fun v S'=>GrZ S v [] 1 S':=by
 refine a9X ?_
 unfold a6u
 rw[H6,oD,decide_eq_false (by omega),cdF]
 rw[show c7o .nilSlc=some (.int .i64 0) from rfl,oD,lnN,oD,b1l,oD,l7 (by omega) (by omega),b1l,oD,l7 (by omega) (by omega),a6n,oD,K0]
 refine⟨fun h=> ?_,fun h=>i4.here (.inl (Grw.nil _ _))⟩
 rw[oD,show a0x 1 .nilSlc none (some (.int .i64 0)) none=some .nilSlc from rfl,oD]
 have e:((n:Int) - (0 - 0))=(n:Int):=by omega
 rw[e]at h ⊢
 simp only[b1d]
 rw[if_pos ⟨l7 (by omega) (by omega),by omega,by omega⟩]
 simp only[a0w]
 have hr:List.replicate ((n:Int)).toNat [D.int .u8 0]≠[]:=by rw[Int.toNat_natCast];intro h';have:=congrArg List.length h';simp at this;omega
 rw[if_neg hr]
 refine⟨⟨by decide,by simp;omega⟩, .inr fun k acs hk=> ?_⟩
 have:a0x 1 (.raw k 0 (List.replicate ((n:Int)).toNat [D.int .u8 0]).length (List.replicate ((n:Int)).toNat [D.int .u8 0]).length false 1) none (some (.int .i64 0)) none=some (.raw k 0 0 (List.replicate ((n:Int)).toNat [D.int .u8 0]).length false 1):=by
  have hb:E1 (.int .i64 0) (List.replicate ((n:Int)).toNat [D.int .u8 0]).length=some 0:=by simp[E1]
  simp only[a0x,M1,c3V,b0V,b9c,if_true,Option.bind_some,hb,Option.map_some]
  rfl
 show b7 (some _) _
 rw[oD,this,oD]
 exact i4.here (.inr ⟨rfl,k,_,_,_,acs,hk,rfl,rfl⟩)
def b1s(l:List (List Int)):D:= .lst (l.map fun b=>[bD b]) 1
theorem c3b{l:List (List Int)}{i:Nat}{b:List Int}(h:l[i]? =some b):o7 1 (b1s l) (.int .i64 (i:Int))=some (.elt [bD b] 0):=b3J (by rw[List.getElem?_map,h];rfl)
theorem b5b{l:List (List Int)}{i:Nat}(hi:i<l.length):(l.take (i+1)).flatten=(l.take i).flatten++l[i]:=by
 rw[List.take_add_one,List.getElem?_eq_getElem hi,List.flatten_append];simp
theorem b9A{l:List (List Int)}(i:Nat):(l.take i).flatten.length≤l.flatten.length:=by
 have:l.flatten=(l.take i).flatten++(l.drop i).flatten:=by rw[←List.flatten_append,List.take_append_drop]
 rw[this,List.length_append];omega
theorem c7E{l:List (List Int)}(hl:l.flatten.length<2^40)(hn:l.length<2^40){S:b8}:l8 Try.prog E w0 J8 [b1s l] S fun v T=>GrZ S v (C6 (l.flatten.map (D.int .u8))) 1 T:=by
 refine a7Q ?_
 unfold a3Y
 have hlen:m8 (b1s l)=some (.int .i64 (l.length:Int)):=by simp[b1s]
 rw[hlen,oD]
 refine a6z (I:=fun n x0 x3 x9 x10 x11 T=>S=T∧x0=b1s l∧x9=b1s l∧x10= .int .i64 (l.length:Int)∧∃i:Nat,x11= .int .i64 (i:Int)∧i+n=l.length∧x3= .int .i64 ((l.take i).flatten.length:Int)) ?_ (n:=l.length)
  ⟨rfl,rfl,rfl,rfl,0,rfl,by omega,rfl⟩
 rintro n _ _ _ _ _ _ ⟨rfl,rfl,rfl,rfl,i,rfl,hi,rfl⟩
 unfold Z3
 rw[H6,oD,K0]
 have hfl:=b9A (l:=l) i
 refine⟨fun hlt=> ?_,fun hge=> ?_⟩
 ·have hlt:i<l.length:=by omega
  have h1:=b9A (l:=l) (i+1)
  rw[b5b hlt,List.length_append]at h1
  rw[c3b (List.getElem?_eq_getElem hlt),oD,lsE,List.getElem?_cons_zero,oD,a1M,oD,D5,oD,l7 (by omega) (by omega),H6,oD,decide_eq_false (by omega),cdF,D5,oD,l7 (by omega) (by omega)]
  exact⟨n - 1,by omega,rfl,rfl,rfl,rfl,i+1,rfl,by omega,by rw[b5b hlt,List.length_append];rfl⟩
 ·refine(d3q (by omega)).use fun v T hg=> ?_
  rw[hlen,oD]
  refine a6K (I:=fun n x6 x25 x26 x27 T=>x25=b1s l∧x26= .int .i64 (l.length:Int)∧∃i:Nat,x27= .int .i64 (i:Int)∧i+n=l.length∧GrZ S x6 (C6 ((l.take i).flatten.map (D.int .u8))) 1 T) ?_ (n:=l.length)
   ⟨rfl,rfl,0,rfl,by omega,hg⟩
  rintro n x6 _ _ _ T ⟨rfl,rfl,i,rfl,hi,hg⟩
  unfold Y1
  rw[H6,oD,K0]
  have hfl:=b9A (l:=l) i
  refine⟨fun hlt=> ?_,fun hge=> ?_⟩
  ·have hlt:i<l.length:=by omega
   have h1:=b9A (l:=l) (i+1)
   rw[b5b hlt,List.length_append]at h1
   rw[c3b (List.getElem?_eq_getElem hlt),oD,lsE,List.getElem?_cons_zero,oD]
   have hnext:C6 ((l.take (i+1)).flatten.map (D.int .u8))=C6 ((l.take i).flatten.map (D.int .u8))++C6 (l[i].map (D.int .u8)):=by rw[b5b hlt,List.map_append,a4r]
   by_cases he:l[i]=[]
   ·rw[he,List.map_nil]at hnext
    have hskip:∀K:D→b8→Prop,K x6 T→u9 T 1 1 x6 (bD l[i]) K:=fun K hK=>by
     rw[he]
     simp only[u9,b9z]
     rcases hg with (⟨rfl,_,rfl⟩|⟨k,acs,_,rfl,rfl⟩)|⟨_,k,cap,ex,zr,acs,_,rfl,rfl⟩<;>exact hK
    refine hskip _ ?_
    rw[D5,oD,l7 (by omega) (by omega)]
    exact⟨n - 1,by omega,rfl,rfl,i+1,rfl,by omega,by rw[hnext];simpa [C6]using hg⟩
   ·refine hg.push (b9z _ _) (by simpa [C6]using he) (by simp only[b0v,List.length_map];omega) fun t' T' hg'=> ?_
    rw[D5,oD,l7 (by omega) (by omega)]
    exact⟨n - 1,by omega,rfl,rfl,i+1,rfl,by omega, .inl (by rw[hnext];exact hg')⟩
  ·have hi:i=l.length:=by omega
   subst hi
   rw[List.take_length]at hg
   exact i4.here hg
end
end Go.Proofs.Ytdkidgkiplcggaa.d
end
