/-
  ImageOnceSaid: part Nba of its proof.
-/
import Derived.Test.YtchnpgddpaonhaaRows
import Derived.Test.YtchnpgddpaonhaaNaq
import Derived.KernelRfl
import Derived.Test.YtchnpgddpaonhaaNas
import Derived.Test.YtchnpgddpaonhaaNau
import Derived.Test.YtchnpgddpaonhaaNav
set_option linter.unusedVariables false
set_option linter.unusedSimpArgs false
set_option maxRecDepth 100000
section
open Go.Proofs Go Go.Am
namespace Go.Proofs.Ytchnpgddpaonhaa.d
def b1w:List (Nat×List Nat):=[(4,[0,3])]
def b0M:List (Nat×List Nat):=[]
def b0q:List (Nat×Arr):=[]
noncomputable def a8Y:Code:=(l8 [1,1,0,0,0] (Try.f78.body.getD .skip))
def a8W(E:l9)(w0:o0)(Q:D→b7→Prop):r0→List D→b7→Prop:=
 (t7 0 (K4 Try.prog E w0 b1w b0M b0q (l8 [1,1,1] (Try.f78.body.getD .skip)) (J6 Try.prog Try.f78 Q)))
def a9m(E:l9)(w0:o0)(N0:D→D→b7→Prop)(Q:D→b7→Prop)(x0 x3:D)(S:b7):Prop:=
 a9 (d9 .geq x0 (.int .u64 128)) fun v2=>
 j0 v2
 (a9 (H7 .u8 x0) fun v3=>
 a9 (d9 .or v3 (.int .u8 128)) fun v4=>
 u4 S 1 (p7 1 (List.replicate 1 [(.int .u8 0)]) [(0,v4)]) 1 fun v5 S6=>
 y8 S6 1 1 x3 v5 fun v7 S8=>
 a9 (d9 .shr x0 (.int .u64 7)) fun v9=>
 N0 v9 v7 S8)
 (a9 (H7 .u8 x0) fun v10=>
 u4 S 1 (p7 1 (List.replicate 1 [(.int .u8 0)]) [(0,v10)]) 1 fun v11 S12=>
 y8 S12 1 1 x3 v11 fun v13 S14=>
 Q v13 S14)
theorem b7H{E:l9}{w0:o0}{N0:D→D→b7→Prop}{Q:D→b7→Prop}{x0 x3:D}{S:b7}(h:a9m E w0 N0 Q x0 x3 S):
  j9 Try.prog E w0 a8Y (m9 20 [0,3] [x0,x3]) S (D8 (fun T S=>N0 (T.getD 0 b8) (T.getD 3 b8) S) (a8W E w0 Q)):=k9 b1w b0M b0q o7 (by kernel_rfl) h
theorem b7v{E:l9}{w0:o0}{Q:D→b7→Prop}(I:Nat→D→D→b7→Prop)
  (step:∀n x0 x3 S,I n x0 x3 S→a9m E w0 (fun x0 x3 S=>∃m,m<n∧I m x0 x3 S) Q x0 x3 S)
  {n:Nat} {x0 x3:D} {S:b7} (h:I n x0 x3 S):j9 Try.prog E w0 (.loop a8Y) (m9 20 [0,3] [x0,x3]) S (a8W E w0 Q):=
 s0 (k:=20) (n:=n) (I:=fun n T S=>I n (T.getD 0 b8) (T.getD 3 b8) S) (fun n T S hl hI=>s5 [0,3] hl (j9.mono (b7H (step n _ _ S hI)) fun ex T' S' _ hq=>by cases ex<;>exact hq)) (o8 ..) (Eq.mp (by kernel_rfl) h)
def b8Z(E:l9)(w0:o0)(Q:D→b7→Prop)(a0:D)(S:b7):Prop:=
 b2C S 1 1 [(.int .u8 0)] (.int .i64 0) (.int .i64 10) fun v0 S1=>
 j9 Try.prog E w0 (.loop a8Y) (m9 20 [0,3] [a0,v0]) S1 (a8W E w0 Q)
theorem c1q{E:l9}{w0:o0}{Q:D→b7→Prop}{a0:D}{S:b7}(h:b8Z E w0 (d8 E Q) a0 S):n9 Try.prog E w0 b3N [a0] S Q:=
 m6 b1w b0M b0q (fn:=Try.f78) (c:=Try.f78.body.getD .skip) o7 Try.func78 (by kernel_rfl) (by kernel_rfl) h
def a1T:List (Nat×List Nat):=[(6,[3,6,7,8]),(14,[3,6,7,8,16])]
def a2c:List (Nat×List Nat):=[]
def a1X:List (Nat×Arr):=[]
noncomputable def a8i:Code:=(l8 [1,1,0,1,0,0,1,1,0,0,1,1,1,0,0] (Try.f26.body.getD .skip))
def a9f(E:l9)(w0:o0)(N0:D→D→D→D→b7→Prop)(Q:D→b7→Prop):r0→List D→b7→Prop:=
 (t7 2 (t7 1 (K4 Try.prog E w0 a1T a2c a1X (l8 [1,1,0,1,0,0,1,1,1] (Try.f26.body.getD .skip)) (D8 (fun T S=>N0 (T.getD 3 b8) (T.getD 6 b8) (T.getD 7 b8) (T.getD 8 b8) S) (t7 0 (K4 Try.prog E w0 a1T a2c a1X (l8 [1,1,1] (Try.f26.body.getD .skip)) (J6 Try.prog Try.f26 Q)))))))
def a8I(E:l9)(w0:o0)(N0:D→D→D→D→b7→Prop)(N1:D→D→D→D→D→b7→Prop)(Q:D→b7→Prop)(x3 x6 x7 x8 x16:D)(S:b7):Prop:=
 a9 (d9 .lss x16 (.int .i64 8)) fun v6=>
 j0 v6
 (a9 (d9 .shr x3 (.int .u64 1)) fun v7=>
 a9 (d9 .and x3 (.int .u32 1)) fun v8=>
 a9 (unD .neg v8) fun v9=>
 a9 (d9 .and (.int .u32 3988292384) v9) fun v10=>
 a9 (d9 .xor v7 v10) fun v11=>
 a9 (d9 .add x16 (.int .i64 1)) fun v12=>
 N1 v11 x6 x7 x8 v12 S)
 (a9 (d9 .add x8 (.int .i64 1)) fun v13=>
 N0 x3 x6 x7 v13 S)
theorem b7o{E:l9}{w0:o0}{N0:D→D→D→D→b7→Prop}{N1:D→D→D→D→D→b7→Prop}{Q:D→b7→Prop}{x3 x6 x7 x8 x16:D}{S:b7}(h:a8I E w0 N0 N1 Q x3 x6 x7 x8 x16 S):
  j9 Try.prog E w0 a8i (m9 29 [3,6,7,8,16] [x3,x6,x7,x8,x16]) S (D8 (fun T S=>N1 (T.getD 3 b8) (T.getD 6 b8) (T.getD 7 b8) (T.getD 8 b8) (T.getD 16 b8) S) (a9f E w0 N0 Q)):=k9 a1T a2c a1X o7 (by kernel_rfl) h
theorem b7r{E:l9}{w0:o0}{N0:D→D→D→D→b7→Prop}{Q:D→b7→Prop}(I:Nat→D→D→D→D→D→b7→Prop)
  (step:∀n x3 x6 x7 x8 x16 S,I n x3 x6 x7 x8 x16 S→a8I E w0 N0 (fun x3 x6 x7 x8 x16 S=>∃m,m<n∧I m x3 x6 x7 x8 x16 S) Q x3 x6 x7 x8 x16 S)
  {n:Nat} {x3 x6 x7 x8 x16:D} {S:b7} (h:I n x3 x6 x7 x8 x16 S):j9 Try.prog E w0 (.loop a8i) (m9 29 [3,6,7,8,16] [x3,x6,x7,x8,x16]) S (a9f E w0 N0 Q):=
 s0 (k:=29) (n:=n) (I:=fun n T S=>I n (T.getD 3 b8) (T.getD 6 b8) (T.getD 7 b8) (T.getD 8 b8) (T.getD 16 b8) S) (fun n T S hl hI=>s5 [3,6,7,8,16] hl (j9.mono (b7o (step n _ _ _ _ _ S hI)) fun ex T' S' _ hq=>by cases ex<;>exact hq)) (o8 ..) (Eq.mp (by kernel_rfl) h)
noncomputable def a8n:Code:=(l8 [1,1,0,1,0,0] (Try.f26.body.getD .skip))
def a8f(E:l9)(w0:o0)(Q:D→b7→Prop):r0→List D→b7→Prop:=
 (t7 0 (K4 Try.prog E w0 a1T a2c a1X (l8 [1,1,1] (Try.f26.body.getD .skip)) (J6 Try.prog Try.f26 Q)))
def a9e(E:l9)(w0:o0)(N0:D→D→D→D→b7→Prop)(Q:D→b7→Prop)(x3 x6 x7 x8:D)(S:b7):Prop:=
 a9 (d9 .lss x8 x7) fun v1=>
 j0 v1
 (a9 (D1 1 x6 x8) fun v2=>
 a9 (c9 S v2) fun v3=>
 a9 (H7 .u32 v3) fun v4=>
 a9 (d9 .xor x3 v4) fun v5=>
 j9 Try.prog E w0 (.loop a8i) (m9 29 [3,6,7,8,16] [v5,x6,x7,x8,(.int .i64 0)]) S (a9f E w0 N0 Q))
 (a9 (unD .xor x3) fun v14=>
 Q v14 S)
theorem b7I{E:l9}{w0:o0}{N0:D→D→D→D→b7→Prop}{Q:D→b7→Prop}{x3 x6 x7 x8:D}{S:b7}(h:a9e E w0 N0 Q x3 x6 x7 x8 S):
  j9 Try.prog E w0 a8n (m9 29 [3,6,7,8] [x3,x6,x7,x8]) S (D8 (fun T S=>N0 (T.getD 3 b8) (T.getD 6 b8) (T.getD 7 b8) (T.getD 8 b8) S) (a8f E w0 Q)):=k9 a1T a2c a1X o7 (by kernel_rfl) h
theorem b7s{E:l9}{w0:o0}{Q:D→b7→Prop}(I:Nat→D→D→D→D→b7→Prop)
  (step:∀n x3 x6 x7 x8 S,I n x3 x6 x7 x8 S→a9e E w0 (fun x3 x6 x7 x8 S=>∃m,m<n∧I m x3 x6 x7 x8 S) Q x3 x6 x7 x8 S)
  {n:Nat} {x3 x6 x7 x8:D} {S:b7} (h:I n x3 x6 x7 x8 S):j9 Try.prog E w0 (.loop a8n) (m9 29 [3,6,7,8] [x3,x6,x7,x8]) S (a8f E w0 Q):=
 s0 (k:=29) (n:=n) (I:=fun n T S=>I n (T.getD 3 b8) (T.getD 6 b8) (T.getD 7 b8) (T.getD 8 b8) S) (fun n T S hl hI=>s5 [3,6,7,8] hl (j9.mono (b7I (step n _ _ _ _ S hI)) fun ex T' S' _ hq=>by cases ex<;>exact hq)) (o8 ..) (Eq.mp (by kernel_rfl) h)
def b8y(E:l9)(w0:o0)(Q:D→b7→Prop)(a0:D)(S:b7):Prop:=
 a9 (r6 a0) fun v0=>
 j9 Try.prog E w0 (.loop a8n) (m9 29 [3,6,7,8] [(.int .u32 4294967295),a0,v0,(.int .i64 0)]) S (a8f E w0 Q)
theorem c1a{E:l9}{w0:o0}{Q:D→b7→Prop}{a0:D}{S:b7}(h:b8y E w0 (d8 E Q) a0 S):n9 Try.prog E w0 a8D [a0] S Q:=
 m6 a1T a2c a1X (fn:=Try.f26) (c:=Try.f26.body.getD .skip) o7 Try.func26 (by kernel_rfl) (by kernel_rfl) h
def b2e:List (Nat×List Nat):=[]
def b2k:List (Nat×List Nat):=[]
def b2d:List (Nat×Arr):=[]
def a5i(E:l9)(w0:o0)(Q:D→b7→Prop)(a0 a1:D)(S:b7):Prop:=
 a9 (d9 .lss a1 (.int .i64 0)) fun v0=>
 j0 v0
 (a9 (some (D.ifc 9 (.str [99,97,110,110,111,116,32,98,101,32,110,101,103,97,116,105,118,101]))) fun v1=>
 a0M E w0 v1 S)
 (a9 (c4K a0) fun v2=>
 a9 (r6 a0) fun v3=>
 a9 (d9 .sub v2 v3) fun v4=>
 a9 (d9 .sub a1 v4) fun v5=>
 a9 (d9 .gtr v5 (.int .i64 0)) fun v6=>
 j0 v6
 (a9 (c4K a0) fun v7=>
 a9 (V0 1 a0 none (some v7) none) fun v8=>
 b0o S 1 1 [(.int .u8 0)] v8 v5 fun v9 S10=>
 a9 (r6 a0) fun v11=>
 a9 (V0 1 v9 none (some v11) none) fun v12=>
 Q v12 S10)
 (Q a0 S))
theorem a9Q{E:l9}{w0:o0}{Q:D→b7→Prop}{a0 a1:D}{S:b7}(h:a5i E w0 (d8 E Q) a0 a1 S):n9 Try.prog E w0 a1O [a0,a1] S Q:=
 m6 b2e b2k b2d (fn:=Try.f53) (c:=Try.f53.body.getD .skip) o7 Try.func53 (by kernel_rfl) (by kernel_rfl) h
def I0:List (Nat×List Nat):=[(6,[0,3,9,10,11]),(22,[6,25,26,27])]
def I3:List (Nat×List Nat):=[]
def I1:List (Nat×Arr):=[]
noncomputable def Y9:Code:=(l8 [1,1,1,1,0,1,0,0] (Try.f24.body.getD .skip))
def Z0(E:l9)(w0:o0)(Q:D→b7→Prop):r0→List D→b7→Prop:=
 (t7 2 (K4 Try.prog E w0 I0 I3 I1 (l8 [1,1,1,1,1] (Try.f24.body.getD .skip)) (J6 Try.prog Try.f24 Q)))
def Z6(E:l9)(w0:o0)(N1:D→D→D→D→b7→Prop)(Q:D→b7→Prop)(x6 x25 x26 x27:D)(S:b7):Prop:=
 a9 (d9 .lss x27 x26) fun v12=>
 j0 v12
 (a9 (D1 1 x25 x27) fun v13=>
 a9 (c9 S v13) fun v14=>
 y8 S 1 1 x6 v14 fun v15 S16=>
 a9 (d9 .add x27 (.int .i64 1)) fun v17=>
 N1 v15 x25 x26 v17 S16)
 (Q x6 S)
theorem a6p{E:l9}{w0:o0}{N1:D→D→D→D→b7→Prop}{Q:D→b7→Prop}{x6 x25 x26 x27:D}{S:b7}(h:Z6 E w0 N1 Q x6 x25 x26 x27 S):
  j9 Try.prog E w0 Y9 (m9 36 [6,25,26,27] [x6,x25,x26,x27]) S (D8 (fun T S=>N1 (T.getD 6 b8) (T.getD 25 b8) (T.getD 26 b8) (T.getD 27 b8) S) (Z0 E w0 Q)):=k9 I0 I3 I1 o7 (by kernel_rfl) h
theorem a6j{E:l9}{w0:o0}{Q:D→b7→Prop}(I:Nat→D→D→D→D→b7→Prop)
  (step:∀n x6 x25 x26 x27 S,I n x6 x25 x26 x27 S→Z6 E w0 (fun x6 x25 x26 x27 S=>∃m,m<n∧I m x6 x25 x26 x27 S) Q x6 x25 x26 x27 S)
  {n:Nat} {x6 x25 x26 x27:D} {S:b7} (h:I n x6 x25 x26 x27 S):j9 Try.prog E w0 (.loop Y9) (m9 36 [6,25,26,27] [x6,x25,x26,x27]) S (Z0 E w0 Q):=
 s0 (k:=36) (n:=n) (I:=fun n T S=>I n (T.getD 6 b8) (T.getD 25 b8) (T.getD 26 b8) (T.getD 27 b8) S) (fun n T S hl hI=>s5 [6,25,26,27] hl (j9.mono (a6p (step n _ _ _ _ S hI)) fun ex T' S' _ hq=>by cases ex<;>exact hq)) (o8 ..) (Eq.mp (by kernel_rfl) h)
noncomputable def Y7:Code:=(l8 [1,1,0,1,0,0] (Try.f24.body.getD .skip))
def Z1(E:l9)(w0:o0)(Q:D→b7→Prop):r0→List D→b7→Prop:=
 (t7 0 (K4 Try.prog E w0 I0 I3 I1 (l8 [1,1,1] (Try.f24.body.getD .skip)) (J6 Try.prog Try.f24 Q)))
def Z3(E:l9)(w0:o0)(N0:D→D→D→D→D→b7→Prop)(Q:D→b7→Prop)(x0 x3 x9 x10 x11:D)(S:b7):Prop:=
 a9 (d9 .lss x11 x10) fun v1=>
 j0 v1
 (a9 (D1 1 x9 x11) fun v2=>
 a9 (c9 S v2) fun v3=>
 a9 (r6 v3) fun v4=>
 a9 (d9 .add x3 v4) fun v5=>
 a9 (d9 .lss v5 (.int .i64 0)) fun v6=>
 j0 v6
 (a9 (some (D.ifc 9 (.str [108,101,110,32,111,117,116,32,111,102,32,114,97,110,103,101]))) fun v7=>
 a0M E w0 v7 S)
 (a9 (d9 .add x11 (.int .i64 1)) fun v8=>
 N0 x0 v5 x9 x10 v8 S))
 (n9 Try.prog E w0 a1O [.nilSlc,x3] S fun v9 S10=>
 a9 (r6 x0) fun v11=>
 j9 Try.prog E w0 (.loop Y9) (m9 36 [6,25,26,27] [v9,x0,v11,(.int .i64 0)]) S10 (Z0 E w0 Q))
theorem a6g{E:l9}{w0:o0}{N0:D→D→D→D→D→b7→Prop}{Q:D→b7→Prop}{x0 x3 x9 x10 x11:D}{S:b7}(h:Z3 E w0 N0 Q x0 x3 x9 x10 x11 S):
  j9 Try.prog E w0 Y7 (m9 36 [0,3,9,10,11] [x0,x3,x9,x10,x11]) S (D8 (fun T S=>N0 (T.getD 0 b8) (T.getD 3 b8) (T.getD 9 b8) (T.getD 10 b8) (T.getD 11 b8) S) (Z1 E w0 Q)):=k9 I0 I3 I1 o7 (by kernel_rfl) h
theorem a6o{E:l9}{w0:o0}{Q:D→b7→Prop}(I:Nat→D→D→D→D→D→b7→Prop)
  (step:∀n x0 x3 x9 x10 x11 S,I n x0 x3 x9 x10 x11 S→Z3 E w0 (fun x0 x3 x9 x10 x11 S=>∃m,m<n∧I m x0 x3 x9 x10 x11 S) Q x0 x3 x9 x10 x11 S)
  {n:Nat} {x0 x3 x9 x10 x11:D} {S:b7} (h:I n x0 x3 x9 x10 x11 S):j9 Try.prog E w0 (.loop Y7) (m9 36 [0,3,9,10,11] [x0,x3,x9,x10,x11]) S (Z1 E w0 Q):=
 s0 (k:=36) (n:=n) (I:=fun n T S=>I n (T.getD 0 b8) (T.getD 3 b8) (T.getD 9 b8) (T.getD 10 b8) (T.getD 11 b8) S) (fun n T S hl hI=>s5 [0,3,9,10,11] hl (j9.mono (a6g (step n _ _ _ _ _ S hI)) fun ex T' S' _ hq=>by cases ex<;>exact hq)) (o8 ..) (Eq.mp (by kernel_rfl) h)
def a4c(E:l9)(w0:o0)(Q:D→b7→Prop)(a0:D)(S:b7):Prop:=
 a9 (r6 a0) fun v0=>
 j9 Try.prog E w0 (.loop Y7) (m9 36 [0,3,9,10,11] [a0,(.int .i64 0),a0,v0,(.int .i64 0)]) S (Z1 E w0 Q)
theorem a7s{E:l9}{w0:o0}{Q:D→b7→Prop}{a0:D}{S:b7}(h:a4c E w0 (d8 E Q) a0 S):n9 Try.prog E w0 K3 [a0] S Q:=
 m6 I0 I3 I1 (fn:=Try.f24) (c:=Try.f24.body.getD .skip) o7 Try.func24 (by kernel_rfl) (by kernel_rfl) h
def a4u:List (Nat×List Nat):=[]
def a4p:List (Nat×List Nat):=[(4,[0,1])]
def a4v:List (Nat×Arr):=[]
noncomputable def b0Y:Code:=(l8 [1] (Try.f50.body.getD .skip))
def a9T(E:l9)(w0:o0)(Q:D→b7→Prop):r0→List D→b7→Prop:=
 (J6 Try.prog Try.f50 Q)
def a3U(E:l9)(w0:o0)(Q:D→b7→Prop)(x0 x1:D)(S:b7):Prop:=
 a9 (R6 x0) fun v0=>
 a9 (m7 0 v0) fun v1=>
 a9 (c9 S v1) fun v2=>
 y8 S 1 1 v2 x1 fun v3 S4=>
 a9 (R6 x0) fun v5=>
 a9 (m7 0 v5) fun v6=>
 f0 S4 1 v6 v3 fun v7 S8=>
 Q b8 S8
def P9(E:l9)(w0:o0)(Q:D→b7→Prop)(x0 x1:D)(S:b7):Prop:=j9 Try.prog E w0 b0Y (m9 29 [0,1] [x0,x1]) S (a9T E w0 Q)
theorem a7F{E:l9}{w0:o0}{Q:D→b7→Prop}{x0 x1:D}{S:b7}(h:a3U E w0 Q x0 x1 S):P9 E w0 Q x0 x1 S:=k9 a4u a4p a4v o7 (by kernel_rfl) h
def a5Q(E:l9)(w0:o0)(Q:D→b7→Prop)(a0 a1:D)(S:b7):Prop:=
 a9 (r6 a1) fun v9=>
 a9 (R6 a0) fun v10=>
 a9 (m7 0 v10) fun v11=>
 a9 (c9 S v11) fun v12=>
 a9 (r6 v12) fun v13=>
 a9 (d9 .sub (.int .i64 2097153) v13) fun v14=>
 a9 (d9 .gtr v9 v14) fun v15=>
 j0 v15
 (a9 (R6 a0) fun v16=>
 a9 (m7 0 v16) fun v17=>
 a9 (c9 S v17) fun v18=>
 a9 (r6 v18) fun v19=>
 a9 (d9 .sub (.int .i64 2097153) v19) fun v20=>
 b2C S 1 1 [(.int .u8 0)] v20 v20 fun v21 S22=>
 P9 E w0 Q a0 v21 S22)
 (P9 E w0 Q a0 a1 S)
theorem a9Z{E:l9}{w0:o0}{Q:D→b7→Prop}{a0 a1:D}{S:b7}(h:a5Q E w0 (d8 E Q) a0 a1 S):n9 Try.prog E w0 I9 [a0,a1] S Q:=
 m6 a4u a4p a4v (fn:=Try.f50) (c:=Try.f50.body.getD .skip) o7 Try.func50 (by kernel_rfl) (by kernel_rfl) h
def a8B:List (Nat×List Nat):=[]
def a8y:List (Nat×List Nat):=[]
def a8m:List (Nat×Arr):=[]
def a2Y(E:l9)(w0:o0)(Q:D→b7→Prop)(a0 a1:D)(S:b7):Prop:=
 a9 (H7 .u64 a1) fun v0=>
 n9 Try.prog E w0 b3N [v0] S fun v1 S2=>
 n9 Try.prog E w0 I9 [a0,v1] S2 fun v3 S4=>
 Q b8 S4
theorem a6Q{E:l9}{w0:o0}{Q:D→b7→Prop}{a0 a1:D}{S:b7}(h:a2Y E w0 (d8 E Q) a0 a1 S):n9 Try.prog E w0 r8 [a0,a1] S Q:=
 m6 a8B a8y a8m (fn:=Try.f49) (c:=Try.f49.body.getD .skip) o7 Try.func49 (by kernel_rfl) (by kernel_rfl) h
def a3N:List (Nat×List Nat):=[]
def a4a:List (Nat×List Nat):=[(6,[0,1])]
def a3M:List (Nat×Arr):=[]
noncomputable def a9U:Code:=(l8 [1,1] (Try.f51.body.getD .skip))
def a8C(E:l9)(w0:o0)(Q:D→b7→Prop):r0→List D→b7→Prop:=
 (J6 Try.prog Try.f51 Q)
def a2Z(E:l9)(w0:o0)(Q:D→b7→Prop)(x0 x1:D)(S:b7):Prop:=
 b9c S x1 fun v3 S4=>
 n9 Try.prog E w0 I9 [x0,v3] S4 fun v5 S6=>
 Q b8 S6
def a0s(E:l9)(w0:o0)(Q:D→b7→Prop)(x0 x1:D)(S:b7):Prop:=j9 Try.prog E w0 a9U (m9 17 [0,1] [x0,x1]) S (a8C E w0 Q)
theorem a7k{E:l9}{w0:o0}{Q:D→b7→Prop}{x0 x1:D}{S:b7}(h:a2Z E w0 Q x0 x1 S):a0s E w0 Q x0 x1 S:=k9 a3N a4a a3M o7 (by kernel_rfl) h
def a4t(E:l9)(w0:o0)(Q:D→b7→Prop)(a0 a1:D)(S:b7):Prop:=
 a9 (a8l a1) fun v0=>
 n9 Try.prog E w0 r8 [a0,v0] S fun v1 S2=>
 a9 (a8l a1) fun v7=>
 a9 (d9 .gtr v7 (.int .i64 2097152)) fun v8=>
 j0 v8
 (a9 (c0o a1 none (some (.int .i64 2097152))) fun v9=>
 a0s E w0 Q a0 v9 S2)
 (a0s E w0 Q a0 a1 S2)
theorem a8N{E:l9}{w0:o0}{Q:D→b7→Prop}{a0 a1:D}{S:b7}(h:a4t E w0 (d8 E Q) a0 a1 S):n9 Try.prog E w0 E5 [a0,a1] S Q:=
 m6 a3N a4a a3M (fn:=Try.f51) (c:=Try.f51.body.getD .skip) o7 Try.func51 (by kernel_rfl) (by kernel_rfl) h
def a1Y:List (Nat×List Nat):=[(4,[0,10,11,12])]
def a1S:List (Nat×List Nat):=[]
def a1Z:List (Nat×Arr):=[]
noncomputable def Q4:Code:=(l8 [1,1,0,0] (Try.f52.body.getD .skip))
def U5(E:l9)(w0:o0)(Q:D→b7→Prop):r0→List D→b7→Prop:=
 (t7 0 (J6 Try.prog Try.f52 Q))
def Q9(E:l9)(w0:o0)(N0:D→D→D→D→b7→Prop)(Q:D→b7→Prop)(x0 x10 x11 x12:D)(S:b7):Prop:=
 a9 (d9 .lss x12 x11) fun v4=>
 j0 v4
 (a9 (D1 1 x10 x12) fun v5=>
 a9 (c9 S v5) fun v6=>
 n9 Try.prog E w0 r8 [x0,v6] S fun v7 S8=>
 a9 (d9 .add x12 (.int .i64 1)) fun v9=>
 N0 x0 x10 x11 v9 S8)
 (Q b8 S)
theorem a4K{E:l9}{w0:o0}{N0:D→D→D→D→b7→Prop}{Q:D→b7→Prop}{x0 x10 x11 x12:D}{S:b7}(h:Q9 E w0 N0 Q x0 x10 x11 x12 S):
  j9 Try.prog E w0 Q4 (m9 20 [0,10,11,12] [x0,x10,x11,x12]) S (D8 (fun T S=>N0 (T.getD 0 b8) (T.getD 10 b8) (T.getD 11 b8) (T.getD 12 b8) S) (U5 E w0 Q)):=k9 a1Y a1S a1Z o7 (by kernel_rfl) h
theorem a4H{E:l9}{w0:o0}{Q:D→b7→Prop}(I:Nat→D→D→D→D→b7→Prop)
  (step:∀n x0 x10 x11 x12 S,I n x0 x10 x11 x12 S→Q9 E w0 (fun x0 x10 x11 x12 S=>∃m,m<n∧I m x0 x10 x11 x12 S) Q x0 x10 x11 x12 S)
  {n:Nat} {x0 x10 x11 x12:D} {S:b7} (h:I n x0 x10 x11 x12 S):j9 Try.prog E w0 (.loop Q4) (m9 20 [0,10,11,12] [x0,x10,x11,x12]) S (U5 E w0 Q):=
 s0 (k:=20) (n:=n) (I:=fun n T S=>I n (T.getD 0 b8) (T.getD 10 b8) (T.getD 11 b8) (T.getD 12 b8) S) (fun n T S hl hI=>s5 [0,10,11,12] hl (j9.mono (a4K (step n _ _ _ _ S hI)) fun ex T' S' _ hq=>by cases ex<;>exact hq)) (o8 ..) (Eq.mp (by kernel_rfl) h)
def a2E(E:l9)(w0:o0)(Q:D→b7→Prop)(a0 a1:D)(S:b7):Prop:=
 a9 (r6 a1) fun v0=>
 n9 Try.prog E w0 r8 [a0,v0] S fun v1 S2=>
 a9 (r6 a1) fun v3=>
 j9 Try.prog E w0 (.loop Q4) (m9 20 [0,10,11,12] [a0,a1,v3,(.int .i64 0)]) S2 (U5 E w0 Q)
theorem a6k{E:l9}{w0:o0}{Q:D→b7→Prop}{a0 a1:D}{S:b7}(h:a2E E w0 (d8 E Q) a0 a1 S):n9 Try.prog E w0 L8 [a0,a1] S Q:=
 m6 a1Y a1S a1Z (fn:=Try.f52) (c:=Try.f52.body.getD .skip) o7 Try.func52 (by kernel_rfl) (by kernel_rfl) h
def E3:List (Nat×List Nat):=[(8,[1,3,19,20,21]),(22,[1,3,19,20,21,43,44,45]),(44,[1,3,76,77,78]),(56,[3,92,93,94])]
def E1:List (Nat×List Nat):=[]
def E2:List (Nat×Arr):=[]
noncomputable def a5c:Code:=(l8 [1,1,1,0,1,0,0,1,1,0,0,1,1,0,1,0,1,1,0,1,0,0] (Try.f23.body.getD .skip))
def a5v(E:l9)(w0:o0)(N0:D→D→D→D→D→b7→Prop)(Q:D→b7→Prop):r0→List D→b7→Prop:=
 (t7 2 (K4 Try.prog E w0 E3 E1 E2 (l8 [1,1,1,0,1,0,0,1,1,0,0,1,1,0,1,0,1,1,1] (Try.f23.body.getD .skip)) (K4 Try.prog E w0 E3 E1 E2 (l8 [1,1,1,0,1,0,0,1,1,0,0,1,1,1] (Try.f23.body.getD .skip)) (t7 1 (K4 Try.prog E w0 E3 E1 E2 (l8 [1,1,1,0,1,0,0,1,1,1] (Try.f23.body.getD .skip)) (D8 (fun T S=>N0 (T.getD 1 b8) (T.getD 3 b8) (T.getD 19 b8) (T.getD 20 b8) (T.getD 21 b8) S) (t7 0 (K4 Try.prog E w0 E3 E1 E2 (l8 [1,1,1,1] (Try.f23.body.getD .skip)) (J6 Try.prog Try.f23 Q)))))))))
def a5J(E:l9)(w0:o0)(N0:D→D→D→D→D→b7→Prop)(N1:D→D→D→D→D→D→D→D→b7→Prop)(Q:D→b7→Prop)(x1 x3 x19 x20 x21 x43 x44 x45:D)(S:b7):Prop:=
 a9 (d9 .lss x45 x44) fun v40=>
 j0 v40
 (a9 (D1 2 x43 x45) fun v41=>
 a9 (i9 S 2 v41) fun v42=>
 o4 S [(.str []),(.int .i64 0)] fun v43 S44=>
 f0 S44 2 v43 v42 fun v45 S46=>
 a9 (m7 0 v43) fun v47=>
 a9 (c9 S46 v47) fun v48=>
 n9 Try.prog E w0 E5 [x3,v48] S46 fun v49 S50=>
 a9 (m7 1 v43) fun v51=>
 a9 (c9 S50 v51) fun v52=>
 n9 Try.prog E w0 r8 [x3,v52] S50 fun v53 S54=>
 a9 (d9 .add x45 (.int .i64 1)) fun v55=>
 N1 x1 x3 x19 x20 x21 x43 x44 v55 S54)
 (a9 (d9 .add x21 (.int .i64 1)) fun v56=>
 N0 x1 x3 x19 x20 v56 S)
theorem b4r{E:l9}{w0:o0}{N0:D→D→D→D→D→b7→Prop}{N1:D→D→D→D→D→D→D→D→b7→Prop}{Q:D→b7→Prop}{x1 x3 x19 x20 x21 x43 x44 x45:D}{S:b7}(h:a5J E w0 N0 N1 Q x1 x3 x19 x20 x21 x43 x44 x45 S):
  j9 Try.prog E w0 a5c (m9 128 [1,3,19,20,21,43,44,45] [x1,x3,x19,x20,x21,x43,x44,x45]) S (D8 (fun T S=>N1 (T.getD 1 b8) (T.getD 3 b8) (T.getD 19 b8) (T.getD 20 b8) (T.getD 21 b8) (T.getD 43 b8) (T.getD 44 b8) (T.getD 45 b8) S) (a5v E w0 N0 Q)):=k9 E3 E1 E2 o7 (by kernel_rfl) h
theorem b4k{E:l9}{w0:o0}{N0:D→D→D→D→D→b7→Prop}{Q:D→b7→Prop}(I:Nat→D→D→D→D→D→D→D→D→b7→Prop)
  (step:∀n x1 x3 x19 x20 x21 x43 x44 x45 S,I n x1 x3 x19 x20 x21 x43 x44 x45 S→a5J E w0 N0 (fun x1 x3 x19 x20 x21 x43 x44 x45 S=>∃m,m<n∧I m x1 x3 x19 x20 x21 x43 x44 x45 S) Q x1 x3 x19 x20 x21 x43 x44 x45 S)
  {n:Nat} {x1 x3 x19 x20 x21 x43 x44 x45:D} {S:b7} (h:I n x1 x3 x19 x20 x21 x43 x44 x45 S):j9 Try.prog E w0 (.loop a5c) (m9 128 [1,3,19,20,21,43,44,45] [x1,x3,x19,x20,x21,x43,x44,x45]) S (a5v E w0 N0 Q):=
 s0 (k:=128) (n:=n) (I:=fun n T S=>I n (T.getD 1 b8) (T.getD 3 b8) (T.getD 19 b8) (T.getD 20 b8) (T.getD 21 b8) (T.getD 43 b8) (T.getD 44 b8) (T.getD 45 b8) S) (fun n T S hl hI=>s5 [1,3,19,20,21,43,44,45] hl (j9.mono (b4r (step n _ _ _ _ _ _ _ _ S hI)) fun ex T' S' _ hq=>by cases ex<;>exact hq)) (o8 ..) (Eq.mp (by kernel_rfl) h)
noncomputable def a5R:Code:=(l8 [1,1,1,1,1,1,1,0,1,0,0] (Try.f23.body.getD .skip))
def a5A(E:l9)(w0:o0)(Q:D→b7→Prop):r0→List D→b7→Prop:=
 (t7 6 (K4 Try.prog E w0 E3 E1 E2 (l8 [1,1,1,1,1,1,1,1] (Try.f23.body.getD .skip)) (J6 Try.prog Try.f23 Q)))
def a5e(E:l9)(w0:o0)(N3:D→D→D→D→b7→Prop)(Q:D→b7→Prop)(x3 x92 x93 x94:D)(S:b7):Prop:=
 a9 (d9 .lss x94 x93) fun v92=>
 j0 v92
 (a9 (D1 6 x92 x94) fun v93=>
 a9 (i9 S 6 v93) fun v94=>
 o4 S [(.str []), .nilSlc, .nilSlc,(.int .i64 0),(.int .i64 0), .nilSlc] fun v95 S96=>
 f0 S96 6 v95 v94 fun v97 S98=>
 a9 (m7 0 v95) fun v99=>
 a9 (c9 S98 v99) fun v100=>
 n9 Try.prog E w0 E5 [x3,v100] S98 fun v101 S102=>
 a9 (m7 1 v95) fun v103=>
 a9 (c9 S102 v103) fun v104=>
 n9 Try.prog E w0 L8 [x3,v104] S102 fun v105 S106=>
 a9 (m7 2 v95) fun v107=>
 a9 (c9 S106 v107) fun v108=>
 n9 Try.prog E w0 L8 [x3,v108] S106 fun v109 S110=>
 a9 (m7 3 v95) fun v111=>
 a9 (c9 S110 v111) fun v112=>
 n9 Try.prog E w0 r8 [x3,v112] S110 fun v113 S114=>
 a9 (m7 4 v95) fun v115=>
 a9 (c9 S114 v115) fun v116=>
 n9 Try.prog E w0 r8 [x3,v116] S114 fun v117 S118=>
 a9 (m7 5 v95) fun v119=>
 a9 (c9 S118 v119) fun v120=>
 a9 (a8g S118 v120) fun v121=>
 n9 Try.prog E w0 E5 [x3,v121] S118 fun v122 S123=>
 a9 (d9 .add x94 (.int .i64 1)) fun v124=>
 N3 x3 x92 x93 v124 S123)
 (a9 (R6 x3) fun v125=>
 a9 (m7 0 v125) fun v126=>
 a9 (c9 S v126) fun v127=>
 Q v127 S)
theorem b4m{E:l9}{w0:o0}{N3:D→D→D→D→b7→Prop}{Q:D→b7→Prop}{x3 x92 x93 x94:D}{S:b7}(h:a5e E w0 N3 Q x3 x92 x93 x94 S):
  j9 Try.prog E w0 a5R (m9 128 [3,92,93,94] [x3,x92,x93,x94]) S (D8 (fun T S=>N3 (T.getD 3 b8) (T.getD 92 b8) (T.getD 93 b8) (T.getD 94 b8) S) (a5A E w0 Q)):=k9 E3 E1 E2 o7 (by kernel_rfl) h
theorem b5g{E:l9}{w0:o0}{Q:D→b7→Prop}(I:Nat→D→D→D→D→b7→Prop)
  (step:∀n x3 x92 x93 x94 S,I n x3 x92 x93 x94 S→a5e E w0 (fun x3 x92 x93 x94 S=>∃m,m<n∧I m x3 x92 x93 x94 S) Q x3 x92 x93 x94 S)
  {n:Nat} {x3 x92 x93 x94:D} {S:b7} (h:I n x3 x92 x93 x94 S):j9 Try.prog E w0 (.loop a5R) (m9 128 [3,92,93,94] [x3,x92,x93,x94]) S (a5A E w0 Q):=
 s0 (k:=128) (n:=n) (I:=fun n T S=>I n (T.getD 3 b8) (T.getD 92 b8) (T.getD 93 b8) (T.getD 94 b8) S) (fun n T S hl hI=>s5 [3,92,93,94] hl (j9.mono (b4m (step n _ _ _ _ S hI)) fun ex T' S' _ hq=>by cases ex<;>exact hq)) (o8 ..) (Eq.mp (by kernel_rfl) h)
noncomputable def a5D:Code:=(l8 [1,1,1,1,1,0,1,0,0] (Try.f23.body.getD .skip))
def a4S(E:l9)(w0:o0)(Q:D→b7→Prop):r0→List D→b7→Prop:=
 (t7 4 (K4 Try.prog E w0 E3 E1 E2 (l8 [1,1,1,1,1,1] (Try.f23.body.getD .skip)) (J6 Try.prog Try.f23 Q)))
def a4Y(E:l9)(w0:o0)(N2:D→D→D→D→D→b7→Prop)(Q:D→b7→Prop)(x1 x3 x76 x77 x78:D)(S:b7):Prop:=
 a9 (d9 .lss x78 x77) fun v78=>
 j0 v78
 (a9 (D1 1 x76 x78) fun v79=>
 a9 (c9 S v79) fun v80=>
 n9 Try.prog E w0 E5 [x3,v80] S fun v81 S82=>
 a9 (d9 .add x78 (.int .i64 1)) fun v83=>
 N2 x1 x3 x76 x77 v83 S82)
 (a9 (m7 2 x1) fun v84=>
 a9 (c9 S v84) fun v85=>
 a9 (r6 v85) fun v86=>
 n9 Try.prog E w0 r8 [x3,v86] S fun v87 S88=>
 a9 (m7 2 x1) fun v89=>
 a9 (c9 S88 v89) fun v90=>
 a9 (r6 v90) fun v91=>
 j9 Try.prog E w0 (.loop a5R) (m9 128 [3,92,93,94] [x3,v90,v91,(.int .i64 0)]) S88 (a5A E w0 Q))
theorem b4t{E:l9}{w0:o0}{N2:D→D→D→D→D→b7→Prop}{Q:D→b7→Prop}{x1 x3 x76 x77 x78:D}{S:b7}(h:a4Y E w0 N2 Q x1 x3 x76 x77 x78 S):
  j9 Try.prog E w0 a5D (m9 128 [1,3,76,77,78] [x1,x3,x76,x77,x78]) S (D8 (fun T S=>N2 (T.getD 1 b8) (T.getD 3 b8) (T.getD 76 b8) (T.getD 77 b8) (T.getD 78 b8) S) (a4S E w0 Q)):=k9 E3 E1 E2 o7 (by kernel_rfl) h
theorem b3R{E:l9}{w0:o0}{Q:D→b7→Prop}(I:Nat→D→D→D→D→D→b7→Prop)
  (step:∀n x1 x3 x76 x77 x78 S,I n x1 x3 x76 x77 x78 S→a4Y E w0 (fun x1 x3 x76 x77 x78 S=>∃m,m<n∧I m x1 x3 x76 x77 x78 S) Q x1 x3 x76 x77 x78 S)
  {n:Nat} {x1 x3 x76 x77 x78:D} {S:b7} (h:I n x1 x3 x76 x77 x78 S):j9 Try.prog E w0 (.loop a5D) (m9 128 [1,3,76,77,78] [x1,x3,x76,x77,x78]) S (a4S E w0 Q):=
 s0 (k:=128) (n:=n) (I:=fun n T S=>I n (T.getD 1 b8) (T.getD 3 b8) (T.getD 76 b8) (T.getD 77 b8) (T.getD 78 b8) S) (fun n T S hl hI=>s5 [1,3,76,77,78] hl (j9.mono (b4t (step n _ _ _ _ _ S hI)) fun ex T' S' _ hq=>by cases ex<;>exact hq)) (o8 ..) (Eq.mp (by kernel_rfl) h)
noncomputable def a5r:Code:=(l8 [1,1,1,0,1,0,0] (Try.f23.body.getD .skip))
def a5m(E:l9)(w0:o0)(Q:D→b7→Prop):r0→List D→b7→Prop:=
 (t7 0 (K4 Try.prog E w0 E3 E1 E2 (l8 [1,1,1,1] (Try.f23.body.getD .skip)) (J6 Try.prog Try.f23 Q)))
def a4V(E:l9)(w0:o0)(N0:D→D→D→D→D→b7→Prop)(Q:D→b7→Prop)(x1 x3 x19 x20 x21:D)(S:b7):Prop:=
 a9 (d9 .lss x21 x20) fun v12=>
 j0 v12
 (a9 (D1 5 x19 x21) fun v13=>
 a9 (i9 S 5 v13) fun v14=>
 o4 S [(.int .u8 0),(.str []), .nilSlc,(.int .i64 0),(.int .i64 0)] fun v15 S16=>
 f0 S16 5 v15 v14 fun v17 S18=>
 a9 (m7 0 v15) fun v19=>
 a9 (c9 S18 v19) fun v20=>
 u4 S18 1 (p7 1 (List.replicate 1 [(.int .u8 0)]) [(0,v20)]) 1 fun v21 S22=>
 n9 Try.prog E w0 I9 [x3,v21] S22 fun v23 S24=>
 a9 (m7 0 v15) fun v25=>
 a9 (c9 S24 v25) fun v26=>
 a9 (d9 .eql v26 (.int .u8 6)) fun v27=>
 j0 v27
 (a9 (m7 1 v15) fun v28=>
 a9 (c9 S24 v28) fun v29=>
 n9 Try.prog E w0 E5 [x3,v29] S24 fun v30 S31=>
 a9 (m7 2 v15) fun v32=>
 a9 (c9 S31 v32) fun v33=>
 a9 (r6 v33) fun v34=>
 n9 Try.prog E w0 r8 [x3,v34] S31 fun v35 S36=>
 a9 (m7 2 v15) fun v37=>
 a9 (c9 S36 v37) fun v38=>
 a9 (r6 v38) fun v39=>
 j9 Try.prog E w0 (.loop a5c) (m9 128 [1,3,19,20,21,43,44,45] [x1,x3,x19,x20,x21,v38,v39,(.int .i64 0)]) S36 (a5v E w0 N0 Q))
 (a9 (m7 3 v15) fun v57=>
 a9 (c9 S24 v57) fun v58=>
 n9 Try.prog E w0 r8 [x3,v58] S24 fun v59 S60=>
 a9 (m7 0 v15) fun v61=>
 a9 (c9 S60 v61) fun v62=>
 a9 (d9 .eql v62 (.int .u8 7)) fun v63=>
 j0 v63
 (a9 (m7 4 v15) fun v64=>
 a9 (c9 S60 v64) fun v65=>
 n9 Try.prog E w0 r8 [x3,v65] S60 fun v66 S67=>
 a9 (d9 .add x21 (.int .i64 1)) fun v68=>
 N0 x1 x3 x19 x20 v68 S67)
 (a9 (d9 .add x21 (.int .i64 1)) fun v69=>
 N0 x1 x3 x19 x20 v69 S60)))
 (a9 (m7 1 x1) fun v70=>
 a9 (c9 S v70) fun v71=>
 a9 (r6 v71) fun v72=>
 n9 Try.prog E w0 r8 [x3,v72] S fun v73 S74=>
 a9 (m7 1 x1) fun v75=>
 a9 (c9 S74 v75) fun v76=>
 a9 (r6 v76) fun v77=>
 j9 Try.prog E w0 (.loop a5D) (m9 128 [1,3,76,77,78] [x1,x3,v76,v77,(.int .i64 0)]) S74 (a4S E w0 Q))
theorem b3V{E:l9}{w0:o0}{N0:D→D→D→D→D→b7→Prop}{Q:D→b7→Prop}{x1 x3 x19 x20 x21:D}{S:b7}(h:a4V E w0 N0 Q x1 x3 x19 x20 x21 S):
  j9 Try.prog E w0 a5r (m9 128 [1,3,19,20,21] [x1,x3,x19,x20,x21]) S (D8 (fun T S=>N0 (T.getD 1 b8) (T.getD 3 b8) (T.getD 19 b8) (T.getD 20 b8) (T.getD 21 b8) S) (a5m E w0 Q)):=k9 E3 E1 E2 o7 (by kernel_rfl) h
theorem b4X{E:l9}{w0:o0}{Q:D→b7→Prop}(I:Nat→D→D→D→D→D→b7→Prop)
  (step:∀n x1 x3 x19 x20 x21 S,I n x1 x3 x19 x20 x21 S→a4V E w0 (fun x1 x3 x19 x20 x21 S=>∃m,m<n∧I m x1 x3 x19 x20 x21 S) Q x1 x3 x19 x20 x21 S)
  {n:Nat} {x1 x3 x19 x20 x21:D} {S:b7} (h:I n x1 x3 x19 x20 x21 S):j9 Try.prog E w0 (.loop a5r) (m9 128 [1,3,19,20,21] [x1,x3,x19,x20,x21]) S (a5m E w0 Q):=
 s0 (k:=128) (n:=n) (I:=fun n T S=>I n (T.getD 1 b8) (T.getD 3 b8) (T.getD 19 b8) (T.getD 20 b8) (T.getD 21 b8) S) (fun n T S hl hI=>s5 [1,3,19,20,21] hl (j9.mono (b3V (step n _ _ _ _ _ S hI)) fun ex T' S' _ hq=>by cases ex<;>exact hq)) (o8 ..) (Eq.mp (by kernel_rfl) h)
def b4S(E:l9)(w0:o0)(Q:D→b7→Prop)(a0:D)(S:b7):Prop:=
 a9 (r4 a0) fun cs=>o4 S cs fun v0 S1=>
 o4 S1 [.nilSlc] fun v2 S3=>
 a9 (m7 0 v0) fun v4=>
 a9 (c9 S3 v4) fun v5=>
 a9 (r6 v5) fun v6=>
 n9 Try.prog E w0 r8 [v2,v6] S3 fun v7 S8=>
 a9 (m7 0 v0) fun v9=>
 a9 (c9 S8 v9) fun v10=>
 a9 (r6 v10) fun v11=>
 j9 Try.prog E w0 (.loop a5r) (m9 128 [1,3,19,20,21] [v0,v2,v10,v11,(.int .i64 0)]) S8 (a5m E w0 Q)
theorem b7A{E:l9}{w0:o0}{Q:D→b7→Prop}{a0:D}{S:b7}(h:b4S E w0 (d8 E Q) a0 S):n9 Try.prog E w0 a8x [a0] S Q:=
 m6 E3 E1 E2 (fn:=Try.f23) (c:=Try.f23.body.getD .skip) o7 Try.func23 (by kernel_rfl) (by kernel_rfl) h
def b7F:List (Nat×List Nat):=[]
def b8a:List (Nat×List Nat):=[]
def b7u:List (Nat×Arr):=[]
def b0v(E:l9)(w0:o0)(Q:D→b7→Prop)(a0:D)(S:b7):Prop:=
 a9 (r4 a0) fun cs=>o4 S cs fun v0 S1=>
 a9 (i9 S1 3 v0) fun v2=>
 n9 Try.prog E w0 P8 [v2] S1 fun v3 S4=>
 a9 (d9 .neq v3 (.int .i64 0)) fun v5=>
 j0 v5
 (Q (.tup [.nilSlc,v3]) S4)
 (a9 (i9 S4 3 v0) fun v6=>
 n9 Try.prog E w0 a8x [v6] S4 fun v7 S8=>
 a9 (r6 v7) fun v9=>
 a9 (d9 .gtr v9 (.int .i64 2097140)) fun v10=>
 j0 v10
 (Q (.tup [.nilSlc,(.int .i64 3)]) S8)
 (u4 S8 1 (p7 1 (List.replicate 4 [(.int .u8 0)]) [(0,(.int .u8 84)),(1,(.int .u8 82)),(2,(.int .u8 77)),(3,(.int .u8 1))]) 4 fun v11 S12=>
 c1z S12 v11 fun v13 S14=>
 a9 (r6 v7) fun v15=>
 a9 (H7 .u64 v15) fun v16=>
 n9 Try.prog E w0 a1g [v16,(.int .i64 4)] S14 fun v17 S18=>
 n9 Try.prog E w0 a8D [v7] S18 fun v19 S20=>
 a9 (H7 .u64 v19) fun v21=>
 n9 Try.prog E w0 a1g [v21,(.int .i64 4)] S20 fun v22 S23=>
 u4 S23 1 (p7 1 (List.replicate 4 [.nilSlc]) [(0,v13),(1,v17),(2,v7),(3,v22)]) 4 fun v24 S25=>
 n9 Try.prog E w0 K3 [v24] S25 fun v26 S27=>
 Q (.tup [v26,(.int .i64 0)]) S27))
theorem b5o{E:l9}{w0:o0}{Q:D→b7→Prop}{a0:D}{S:b7}(h:b0v E w0 (d8 E Q) a0 S):n9 Try.prog E w0 X7 [a0] S Q:=
 m6 b7F b8a b7u (fn:=Try.f11) (c:=Try.f11.body.getD .skip) o7 Try.func11 (by kernel_rfl) (by kernel_rfl) h
end Go.Proofs.Ytchnpgddpaonhaa.d
end
section
open Go.Proofs Go Go.Am Go.Op
namespace Go.Proofs.Ytchnpgddpaonhaa.d
def a4Z:Nat→Nat→List Int
 |0,n=>[(n:Int)]
 |f+1,n=>if n<128 then[(n:Int)]else((n % 128+128:Nat):Int)::a4Z f (n / 128)
def c8V(n:Nat):List Int:=a4Z 9 n
def G3(n:Int):List Int:=c8V (n % 18446744073709551616).toNat
def d3t(a b:Int):Int:=IntKind.u32.wrap (BitVec.ofInt IntKind.u32.bits a &&& BitVec.ofInt IntKind.u32.bits b).toNat
def d2k(a b:Int):Int:=IntKind.u32.wrap (BitVec.ofInt IntKind.u32.bits a ^^^ BitVec.ofInt IntKind.u32.bits b).toNat
def d3z(s:Int):Int:=d2k (s.fdiv (2^(min (1:Int).toNat IntKind.u32.bits))) (d3t 3988292384 (IntKind.u32.wrap (0 - d3t s 1)))
def c3A(s b:Int):Int:=Nat.repeat d3z 8 (d2k s (IntKind.u32.wrap b))
def a7J(bs:List Int):Int:=IntKind.u32.wrap (BitVec.ofInt IntKind.u32.bits IntKind.u32.max ^^^ BitVec.ofInt IntKind.u32.bits (bs.foldl c3A 4294967295)).toNat
def GrZ(S0:b7)(t:D)(rows:List (List D))(sz:Nat)(S:b7):Prop:=Grw S0 t rows sz S∨(rows=[]∧∃k cap ex zr acs,S0 k=none∧t= .raw k 0 0 cap ex sz∧S=S0.set k ⟨sz,zr,acs⟩)
section
variable{S0 S:b7}{t:D}{rows:List (List D)}{sz:Nat}
theorem GrZ.push(h:GrZ S0 t rows sz S){bytes:Nat}{v:D}{news:List (List D)}(hv:rowsS S sz v=some news)(hn:news≠[])(hb:0<bytes∧(2*(rows.length+news.length)+768)*bytes≤2^47){K:D→b7→Prop}(hK:∀t' S',Grw S0 t' (rows++news) sz S'→K t' S'):y8 S sz bytes t v K:=by
 rcases h with h|⟨rfl,k,cap,ex,zr,acs,h0,rfl,rfl⟩
 ·exact h.push hv hb hK
 ·simp only[y8,hv,a4o]
  rw[if_neg hn,b7.set_same]
  simp only
  rw[if_pos ⟨by trivial,by trivial,by omega⟩]
  refine⟨by simpa using hb, .inr fun k' acs' hk'=> ?_⟩
  rw[b7.erase_set _ _ _ h0]at hk' ⊢
  refine hK _ _ (.inr ⟨k',acs',hk', ?_, ?_⟩)<;>simp
theorem GrZ.last(h:GrZ S0 t rows sz S){bytes:Nat}{v:D}{news:List (List D)}(hv:rowsS S sz v=some news)(hn:news≠[])(hb:0<bytes∧(2*(rows.length+news.length)+768)*bytes≤2^47){K:D→b7→Prop}(hK:K (.lst (rows++news) sz) S0):y8 S sz bytes t v K:=by
 rcases h with h|⟨rfl,k,cap,ex,zr,acs,h0,rfl,rfl⟩
 ·exact h.last hv hn hb hK
 ·simp only[y8,hv,a4o]
  rw[if_neg hn,b7.set_same]
  simp only
  rw[if_pos ⟨by trivial,by trivial,by omega⟩]
  refine⟨by simpa using hb, .inl ?_⟩
  rw[b7.erase_set _ _ _ h0,List.take_of_length_le (by simp)]
  simpa using hK
end
section
variable{E:l9}{w0:o0}
theorem d3w(n:Nat):d9 .or (.int .u8 (IntKind.u8.wrap (n:Int))) (.int .u8 128)=some (.int .u8 ((n % 128+128:Nat):Int)):=by
 rw[d3D,b4e,b4e]
 have h8:IntKind.u8.bits=8:=rfl
 rw[h8]
 have e1:((n:Int) % 256)=((n % 256:Nat):Int):=by omega
 rw[e1]
 have e2:(BitVec.ofInt 8 ((n % 256:Nat):Int) ||| BitVec.ofInt 8 128).toNat=n % 128+128:=by
  rw[BitVec.toNat_or,a3I]
  have:(BitVec.ofInt 8 128).toNat=128:=rfl
  rw[this]
  have h:=c6m (a:=n % 128) (b:=1) (i:=7) (by omega)
  have:n % 256 % 2^8=n % 256:=by omega
  rw[this]
  rcases Nat.lt_or_ge (n % 256) 128 with hl|hl
  ·rw[show n % 256=n % 128 by omega];simpa using h
  ·have e3:n % 256=n % 128+128:=by omega
   have h':n % 128+128=n % 128 ||| 128:=by simpa using h.symm
   rw[e3,h',Nat.or_assoc,Nat.or_self]
 rw[e2]
 congr 1
 congr 1
 omega
theorem c5o{n0:Nat}(hn:n0<2^64):a0B Try.prog E w0 b3N [.int .u64 (n0:Int)] (bD (c8V n0)):=fun S=>by
 refine c1q ?_
 unfold b8Z
 simp only[b2C]
 rw[if_pos (by decide)]
 refine .inr fun k acs hk=> ?_
 refine b7v (I:=fun m x0 x3 T=>∃(f n:Nat) (acc:List Int),f=m∧x0= .int .u64 (n:Int)∧n<2^(7*f+1)∧n<2^64∧f≤9∧acc.length+f=9∧GrZ S x3 (A4 (acc.map (D.int .u8))) 1 T∧acc++a4Z f n=a4Z 9 n0) ?_ (n:=9)
  ⟨9,n0,[],rfl,rfl,hn,hn,by omega,by simp, .inr ⟨rfl,k,10,true,_,acs,hk,rfl,rfl⟩,rfl⟩
 rintro m0 _ x3 T ⟨f,n,acc,rfl,rfl,hnf,hn64,hf9,hacc,hg,hput⟩
 unfold a9m
 rw[a9V,oD,O4]
 refine⟨fun hge=> ?_,fun hlt=> ?_⟩
 ·have hge:128≤n:=by omega
  obtain⟨f,rfl⟩:∃f',f=f'+1:=⟨f - 1,by
   rcases f with _|f
   ·simp at hnf;omega
   ·rfl⟩
  rw[a4Z,if_neg (by omega)]at hput
  rw[cvI,oD,d3w,oD,show p7 1 (List.replicate 1 [D.int .u8 0]) [(0, .int .u8 ((n % 128+128:Nat):Int))]=some (A4 [D.int .u8 ((n % 128+128:Nat):Int)]) from rfl]
  refine O7 rfl ?_
  refine hg.push (news:=A4 [D.int .u8 ((n % 128+128:Nat):Int)]) rfl (by simp[A4]) (by simp;omega) fun t' T' hg'=> ?_
  rw[c9s _ _ _ _ (by omega),oD]
  have e:((n:Int).fdiv (2^(min (7:Int).toNat IntKind.u64.bits)))=((n / 128:Nat):Int):=by
   rw[show min (7:Int).toNat IntKind.u64.bits=7 from rfl,Int.fdiv_eq_ediv_of_nonneg _ (by decide)]
   omega
  rw[e]
  refine⟨f,by omega,f,n / 128,acc++[((n % 128+128:Nat):Int)],rfl,rfl, ?_,by omega,by omega,by simp;omega, .inl ?_,by rw[←hput];simp⟩
  ·have:2^(7*(f+1)+1)=2^(7*f+1)*128:=by rw[show 7*(f+1)+1=(7*f+1)+7 by omega,Nat.pow_add]
   omega
  ·have:A4 ((acc++[((n % 128+128:Nat):Int)]).map (D.int .u8))=A4 (acc.map (D.int .u8))++A4 [D.int .u8 ((n % 128+128:Nat):Int)]:=by rw[List.map_append,a1U];rfl
   rw[this];exact hg'
 ·have hlt:n<128:=by omega
  have hpn:a4Z f n=[(n:Int)]:=by
   cases f with
   |zero=>rfl
   |succ f=>rw[a4Z,if_pos hlt]
  rw[hpn]at hput
  have hw:IntKind.u8.wrap (n:Int)=n:=by rw[b4e];omega
  rw[cvI,oD,hw,show p7 1 (List.replicate 1 [D.int .u8 0]) [(0, .int .u8 (n:Int))]=some (A4 [D.int .u8 (n:Int)]) from rfl]
  refine O7 rfl ?_
  refine hg.last (news:=A4 [D.int .u8 (n:Int)]) rfl (by simp[A4]) (by simp;omega) ?_
  have:(.lst (A4 (acc.map (D.int .u8))++A4 [D.int .u8 (n:Int)]) 1:D)=bD (c8V n0):=by
   unfold bD c8V
   rw[←hput,List.map_append,a1U];rfl
  rw[this]
  exact d8.pure
theorem b6L{bs:List Int}(hl:bs.length<2^60):a0B Try.prog E w0 a8D [bD bs] (.int .u32 (a7J bs)):=fun S=>by
 refine c1a ?_
 unfold b8y
 rw[M5,oD]
 refine b7s (I:=fun n x3 x6 x7 x8 T=>S=T∧x6=bD bs∧x7= .int .i64 (bs.length:Int)∧∃i:Nat,x8= .int .i64 (i:Int)∧i+n=bs.length∧x3= .int .u32 ((bs.take i).foldl c3A 4294967295)) ?_ (n:=bs.length)
  ⟨rfl,rfl,rfl,0,rfl,by omega,rfl⟩
 rintro n _ _ _ _ _ ⟨rfl,rfl,rfl,i,rfl,hi,rfl⟩
 unfold a9e
 rw[M9,oD,O4]
 refine⟨fun hlt=> ?_,fun hge=> ?_⟩
 ·have hlt:i<bs.length:=by omega
  rw[b7k (List.getElem?_eq_getElem hlt),oD,lsE,List.getElem?_cons_zero,oD,cvI,oD,d1y,oD]
  refine b7r (I:=fun m x3 x6 x7 x8 x16 T=>S=T∧x6=bD bs∧x7= .int .i64 (bs.length:Int)∧x8= .int .i64 (i:Int)∧∃j:Nat,x16= .int .i64 (j:Int)∧j+m=8∧x3= .int .u32 (Nat.repeat d3z j (d2k ((bs.take i).foldl c3A 4294967295) (IntKind.u32.wrap bs[i])))) ?_ (n:=8)
   ⟨rfl,rfl,rfl,rfl,0,rfl,rfl,rfl⟩
  rintro m _ _ _ _ _ _ ⟨rfl,rfl,rfl,rfl,j,rfl,hj,rfl⟩
  unfold a8I
  rw[M9,oD,O4]
  refine⟨fun hjl=> ?_,fun hjg=> ?_⟩
  ·rw[c9s _ _ _ _ (by decide),oD,c2a,oD,unM,oD,c2a,oD,d1y,oD,F7,oD,o3 (by omega) (by omega)]
   exact⟨m - 1,by omega,rfl,rfl,rfl,rfl,j+1,rfl,by omega,rfl⟩
  ·have hj8:j=8:=by omega
   subst hj8
   rw[F7,oD,o3 (by omega) (by omega)]
   refine⟨n - 1,by omega,rfl,rfl,rfl,i+1,rfl,by omega, ?_⟩
   rw[List.take_add_one,List.getElem?_eq_getElem hlt,List.foldl_append]
   rfl
 ·have hi:i=bs.length:=by omega
  subst hi
  rw[List.take_length]
  have e:unD .xor (.int .u32 (bs.foldl c3A 4294967295))=some (.int .u32 (a7J bs)):=rfl
  rw[e,oD]
  exact d8.pure
theorem d1c{n:Nat}(hn:n<2^40){S:b7}:n9 Try.prog E w0 a1O [.nilSlc, .int .i64 (n:Int)] S fun v S'=>GrZ S v [] 1 S':=by
 refine a9Q ?_
 unfold a5i
 rw[M9,oD,decide_eq_false (by omega),cdF]
 rw[show c4K .nilSlc=some (.int .i64 0) from rfl,oD,lnN,oD,a9J,oD,o3 (by omega) (by omega),a9J,oD,o3 (by omega) (by omega),a3f,oD,O4]
 refine⟨fun h=> ?_,fun h=>d8.here (.inl (Grw.nil _ _))⟩
 rw[oD,show V0 1 .nilSlc none (some (.int .i64 0)) none=some .nilSlc from rfl,oD]
 have e:((n:Int) - (0 - 0))=(n:Int):=by omega
 rw[e]at h ⊢
 simp only[b0o]
 rw[if_pos ⟨o3 (by omega) (by omega),by omega,by omega⟩]
 simp only[a4o]
 have hr:List.replicate ((n:Int)).toNat [D.int .u8 0]≠[]:=by rw[Int.toNat_natCast];intro h';have:=congrArg List.length h';simp at this;omega
 rw[if_neg hr]
 refine⟨⟨by decide,by simp;omega⟩, .inr fun k acs hk=> ?_⟩
 have:V0 1 (.raw k 0 (List.replicate ((n:Int)).toNat [D.int .u8 0]).length (List.replicate ((n:Int)).toNat [D.int .u8 0]).length false 1) none (some (.int .i64 0)) none=some (.raw k 0 0 (List.replicate ((n:Int)).toNat [D.int .u8 0]).length false 1):=by
  have hb:D7 (.int .i64 0) (List.replicate ((n:Int)).toNat [D.int .u8 0]).length=some 0:=by simp[D7]
  simp only[V0,M0,c3c,b1k,b8h,if_true,Option.bind_some,hb,Option.map_some]
  rfl
 show a9 (some _) _
 rw[oD,this,oD]
 exact d8.here (.inr ⟨rfl,k,_,_,_,acs,hk,rfl,rfl⟩)
def b1a(l:List (List Int)):D:= .lst (l.map fun b=>[bD b]) 1
theorem c2j{l:List (List Int)}{i:Nat}{b:List Int}(h:l[i]? =some b):D1 1 (b1a l) (.int .i64 (i:Int))=some (.elt [bD b] 0):=b5q (by rw[List.getElem?_map,h];rfl)
theorem b5j{l:List (List Int)}{i:Nat}(hi:i<l.length):(l.take (i+1)).flatten=(l.take i).flatten++l[i]:=by
 rw[List.take_add_one,List.getElem?_eq_getElem hi,List.flatten_append];simp
theorem b8t{l:List (List Int)}(i:Nat):(l.take i).flatten.length≤l.flatten.length:=by
 have:l.flatten=(l.take i).flatten++(l.drop i).flatten:=by rw[←List.flatten_append,List.take_append_drop]
 rw[this,List.length_append];omega
theorem c6e{l:List (List Int)}(hl:l.flatten.length<2^40)(hn:l.length<2^40){S:b7}:n9 Try.prog E w0 K3 [b1a l] S fun v T=>GrZ S v (A4 (l.flatten.map (D.int .u8))) 1 T:=by
 refine a7s ?_
 unfold a4c
 have hlen:r6 (b1a l)=some (.int .i64 (l.length:Int)):=by simp[b1a]
 rw[hlen,oD]
 refine a6o (I:=fun n x0 x3 x9 x10 x11 T=>S=T∧x0=b1a l∧x9=b1a l∧x10= .int .i64 (l.length:Int)∧∃i:Nat,x11= .int .i64 (i:Int)∧i+n=l.length∧x3= .int .i64 ((l.take i).flatten.length:Int)) ?_ (n:=l.length)
  ⟨rfl,rfl,rfl,rfl,0,rfl,by omega,rfl⟩
 rintro n _ _ _ _ _ _ ⟨rfl,rfl,rfl,rfl,i,rfl,hi,rfl⟩
 unfold Z3
 rw[M9,oD,O4]
 have hfl:=b8t (l:=l) i
 refine⟨fun hlt=> ?_,fun hge=> ?_⟩
 ·have hlt:i<l.length:=by omega
  have h1:=b8t (l:=l) (i+1)
  rw[b5j hlt,List.length_append]at h1
  rw[c2j (List.getElem?_eq_getElem hlt),oD,lsE,List.getElem?_cons_zero,oD,M5,oD,F7,oD,o3 (by omega) (by omega),M9,oD,decide_eq_false (by omega),cdF,F7,oD,o3 (by omega) (by omega)]
  exact⟨n - 1,by omega,rfl,rfl,rfl,rfl,i+1,rfl,by omega,by rw[b5j hlt,List.length_append];rfl⟩
 ·refine(d1c (by omega)).use fun v T hg=> ?_
  rw[hlen,oD]
  refine a6j (I:=fun n x6 x25 x26 x27 T=>x25=b1a l∧x26= .int .i64 (l.length:Int)∧∃i:Nat,x27= .int .i64 (i:Int)∧i+n=l.length∧GrZ S x6 (A4 ((l.take i).flatten.map (D.int .u8))) 1 T) ?_ (n:=l.length)
   ⟨rfl,rfl,0,rfl,by omega,hg⟩
  rintro n x6 _ _ _ T ⟨rfl,rfl,i,rfl,hi,hg⟩
  unfold Z6
  rw[M9,oD,O4]
  have hfl:=b8t (l:=l) i
  refine⟨fun hlt=> ?_,fun hge=> ?_⟩
  ·have hlt:i<l.length:=by omega
   have h1:=b8t (l:=l) (i+1)
   rw[b5j hlt,List.length_append]at h1
   rw[c2j (List.getElem?_eq_getElem hlt),oD,lsE,List.getElem?_cons_zero,oD]
   have hnext:A4 ((l.take (i+1)).flatten.map (D.int .u8))=A4 ((l.take i).flatten.map (D.int .u8))++A4 (l[i].map (D.int .u8)):=by rw[b5j hlt,List.map_append,a1U]
   by_cases he:l[i]=[]
   ·rw[he,List.map_nil]at hnext
    have hskip:∀K:D→b7→Prop,K x6 T→y8 T 1 1 x6 (bD l[i]) K:=fun K hK=>by
     rw[he]
     simp only[y8,b5h]
     rcases hg with (⟨rfl,_,rfl⟩|⟨k,acs,_,rfl,rfl⟩)|⟨_,k,cap,ex,zr,acs,_,rfl,rfl⟩<;>exact hK
    refine hskip _ ?_
    rw[F7,oD,o3 (by omega) (by omega)]
    exact⟨n - 1,by omega,rfl,rfl,i+1,rfl,by omega,by rw[hnext];simpa [A4]using hg⟩
   ·refine hg.push (b5h _ _) (by simpa [A4]using he) (by simp only[b0X,List.length_map];omega) fun t' T' hg'=> ?_
    rw[F7,oD,o3 (by omega) (by omega)]
    exact⟨n - 1,by omega,rfl,rfl,i+1,rfl,by omega, .inl (by rw[hnext];exact hg')⟩
  ·have hi:i=l.length:=by omega
   subst hi
   rw[List.take_length]at hg
   exact d8.here hg
end
end Go.Proofs.Ytchnpgddpaonhaa.d
end
