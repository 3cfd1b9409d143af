/-
  ImageSpoiltSaid: part Pbb of its proof.
-/
import Derived.Test.YtchnpgddpaonhaaRows
import Derived.Test.YtchnpgddpaonhaaPaq
import Derived.KernelRfl
import Derived.Test.YtchnpgddpaonhaaPas
import Derived.Test.YtchnpgddpaonhaaPau
import Derived.Test.YtchnpgddpaonhaaPaw
set_option linter.unusedVariables false
set_option linter.unusedSimpArgs false
set_option maxRecDepth 100000
section
open Go.Proofs Go Go.Am
namespace Go.Proofs.Ytchnpgddpaonhaa.d
def b1Z:List (Nat×List Nat):=[(4,[0,3])]
def b0V:List (Nat×List Nat):=[]
def b1H:List (Nat×Arr):=[]
noncomputable def a9u:Code:=(l9 [1,1,0,0,0] (Try.f78.body.getD .skip))
def a9F(E:m6)(w0:o3)(Q:D→b7→Prop):r4→List D→b7→Prop:=
 (t7 0 (I5 Try.prog E w0 b1Z b0V b1H (l9 [1,1,1] (Try.f78.body.getD .skip)) (I4 Try.prog Try.f78 Q)))
def a9S(E:m6)(w0:o3)(N0:D→D→b7→Prop)(Q:D→b7→Prop)(x0 x3:D)(S:b7):Prop:=
 a9 (d8 .geq x0 (.int .u64 128)) fun v2=>
 i9 v2
 (a9 (I6 .u8 x0) fun v3=>
 a9 (d8 .or v3 (.int .u8 128)) fun v4=>
 u6 S 1 (p9 1 (List.replicate 1 [(.int .u8 0)]) [(0,v4)]) 1 fun v5 S6=>
 y9 S6 1 1 x3 v5 fun v7 S8=>
 a9 (d8 .shr x0 (.int .u64 7)) fun v9=>
 N0 v9 v7 S8)
 (a9 (I6 .u8 x0) fun v10=>
 u6 S 1 (p9 1 (List.replicate 1 [(.int .u8 0)]) [(0,v10)]) 1 fun v11 S12=>
 y9 S12 1 1 x3 v11 fun v13 S14=>
 Q v13 S14)
theorem b8Z{E:m6}{w0:o3}{N0:D→D→b7→Prop}{Q:D→b7→Prop}{x0 x3:D}{S:b7}(h:a9S E w0 N0 Q x0 x3 S):
  k9 Try.prog E w0 a9u (n9 20 [0,3] [x0,x3]) S (C0 (fun T S=>N0 (T.getD 0 b8) (T.getD 3 b8) S) (a9F E w0 Q)):=l8 b1Z b0V b1H o9 (by kernel_rfl) h
theorem b8n{E:m6}{w0:o3}{Q:D→b7→Prop}(I:Nat→D→D→b7→Prop)
  (step:∀n x0 x3 S,I n x0 x3 S→a9S E w0 (fun x0 x3 S=>∃m,m<n∧I m x0 x3 S) Q x0 x3 S)
  {n:Nat} {x0 x3:D} {S:b7} (h:I n x0 x3 S):k9 Try.prog E w0 (.loop a9u) (n9 20 [0,3] [x0,x3]) S (a9F E w0 Q):=
 r8 (k:=20) (n:=n) (I:=fun n T S=>I n (T.getD 0 b8) (T.getD 3 b8) S) (fun n T S hl hI=>s6 [0,3] hl (k9.mono (b8Z (step n _ _ S hI)) fun ex T' S' _ hq=>by cases ex<;>exact hq)) (o7 ..) (Eq.mp (by kernel_rfl) h)
def b9J(E:m6)(w0:o3)(Q:D→b7→Prop)(a0:D)(S:b7):Prop:=
 b3n S 1 1 [(.int .u8 0)] (.int .i64 0) (.int .i64 10) fun v0 S1=>
 k9 Try.prog E w0 (.loop a9u) (n9 20 [0,3] [a0,v0]) S1 (a9F E w0 Q)
theorem c2q{E:m6}{w0:o3}{Q:D→b7→Prop}{a0:D}{S:b7}(h:b9J E w0 (d9 E Q) a0 S):o4 Try.prog E w0 b4g [a0] S Q:=
 m9 b1Z b0V b1H (fn:=Try.f78) (c:=Try.f78.body.getD .skip) o9 Try.func78 (by kernel_rfl) (by kernel_rfl) h
def a2n:List (Nat×List Nat):=[(6,[3,6,7,8]),(14,[3,6,7,8,16])]
def a2j:List (Nat×List Nat):=[]
def a2s:List (Nat×Arr):=[]
noncomputable def a9y:Code:=(l9 [1,1,0,1,0,0,1,1,0,0,1,1,1,0,0] (Try.f26.body.getD .skip))
def a9L(E:m6)(w0:o3)(N0:D→D→D→D→b7→Prop)(Q:D→b7→Prop):r4→List D→b7→Prop:=
 (t7 2 (t7 1 (I5 Try.prog E w0 a2n a2j a2s (l9 [1,1,0,1,0,0,1,1,1] (Try.f26.body.getD .skip)) (C0 (fun T S=>N0 (T.getD 3 b8) (T.getD 6 b8) (T.getD 7 b8) (T.getD 8 b8) S) (t7 0 (I5 Try.prog E w0 a2n a2j a2s (l9 [1,1,1] (Try.f26.body.getD .skip)) (I4 Try.prog Try.f26 Q)))))))
def a9T(E:m6)(w0:o3)(N0:D→D→D→D→b7→Prop)(N1:D→D→D→D→D→b7→Prop)(Q:D→b7→Prop)(x3 x6 x7 x8 x16:D)(S:b7):Prop:=
 a9 (d8 .lss x16 (.int .i64 8)) fun v6=>
 i9 v6
 (a9 (d8 .shr x3 (.int .u64 1)) fun v7=>
 a9 (d8 .and x3 (.int .u32 1)) fun v8=>
 a9 (unD .neg v8) fun v9=>
 a9 (d8 .and (.int .u32 3988292384) v9) fun v10=>
 a9 (d8 .xor v7 v10) fun v11=>
 a9 (d8 .add x16 (.int .i64 1)) fun v12=>
 N1 v11 x6 x7 x8 v12 S)
 (a9 (d8 .add x8 (.int .i64 1)) fun v13=>
 N0 x3 x6 x7 v13 S)
theorem b8Q{E:m6}{w0:o3}{N0:D→D→D→D→b7→Prop}{N1:D→D→D→D→D→b7→Prop}{Q:D→b7→Prop}{x3 x6 x7 x8 x16:D}{S:b7}(h:a9T E w0 N0 N1 Q x3 x6 x7 x8 x16 S):
  k9 Try.prog E w0 a9y (n9 29 [3,6,7,8,16] [x3,x6,x7,x8,x16]) S (C0 (fun T S=>N1 (T.getD 3 b8) (T.getD 6 b8) (T.getD 7 b8) (T.getD 8 b8) (T.getD 16 b8) S) (a9L E w0 N0 Q)):=l8 a2n a2j a2s o9 (by kernel_rfl) h
theorem b8U{E:m6}{w0:o3}{N0:D→D→D→D→b7→Prop}{Q:D→b7→Prop}(I:Nat→D→D→D→D→D→b7→Prop)
  (step:∀n x3 x6 x7 x8 x16 S,I n x3 x6 x7 x8 x16 S→a9T E w0 N0 (fun x3 x6 x7 x8 x16 S=>∃m,m<n∧I m x3 x6 x7 x8 x16 S) Q x3 x6 x7 x8 x16 S)
  {n:Nat} {x3 x6 x7 x8 x16:D} {S:b7} (h:I n x3 x6 x7 x8 x16 S):k9 Try.prog E w0 (.loop a9y) (n9 29 [3,6,7,8,16] [x3,x6,x7,x8,x16]) S (a9L E w0 N0 Q):=
 r8 (k:=29) (n:=n) (I:=fun n T S=>I n (T.getD 3 b8) (T.getD 6 b8) (T.getD 7 b8) (T.getD 8 b8) (T.getD 16 b8) S) (fun n T S hl hI=>s6 [3,6,7,8,16] hl (k9.mono (b8Q (step n _ _ _ _ _ S hI)) fun ex T' S' _ hq=>by cases ex<;>exact hq)) (o7 ..) (Eq.mp (by kernel_rfl) h)
noncomputable def a8S:Code:=(l9 [1,1,0,1,0,0] (Try.f26.body.getD .skip))
def a8Q(E:m6)(w0:o3)(Q:D→b7→Prop):r4→List D→b7→Prop:=
 (t7 0 (I5 Try.prog E w0 a2n a2j a2s (l9 [1,1,1] (Try.f26.body.getD .skip)) (I4 Try.prog Try.f26 Q)))
def a9q(E:m6)(w0:o3)(N0:D→D→D→D→b7→Prop)(Q:D→b7→Prop)(x3 x6 x7 x8:D)(S:b7):Prop:=
 a9 (d8 .lss x8 x7) fun v1=>
 i9 v1
 (a9 (A7 1 x6 x8) fun v2=>
 a9 (c9 S v2) fun v3=>
 a9 (I6 .u32 v3) fun v4=>
 a9 (d8 .xor x3 v4) fun v5=>
 k9 Try.prog E w0 (.loop a9y) (n9 29 [3,6,7,8,16] [v5,x6,x7,x8,(.int .i64 0)]) S (a9L E w0 N0 Q))
 (a9 (unD .xor x3) fun v14=>
 Q v14 S)
theorem b8F{E:m6}{w0:o3}{N0:D→D→D→D→b7→Prop}{Q:D→b7→Prop}{x3 x6 x7 x8:D}{S:b7}(h:a9q E w0 N0 Q x3 x6 x7 x8 S):
  k9 Try.prog E w0 a8S (n9 29 [3,6,7,8] [x3,x6,x7,x8]) S (C0 (fun T S=>N0 (T.getD 3 b8) (T.getD 6 b8) (T.getD 7 b8) (T.getD 8 b8) S) (a8Q E w0 Q)):=l8 a2n a2j a2s o9 (by kernel_rfl) h
theorem b8W{E:m6}{w0:o3}{Q:D→b7→Prop}(I:Nat→D→D→D→D→b7→Prop)
  (step:∀n x3 x6 x7 x8 S,I n x3 x6 x7 x8 S→a9q E w0 (fun x3 x6 x7 x8 S=>∃m,m<n∧I m x3 x6 x7 x8 S) Q x3 x6 x7 x8 S)
  {n:Nat} {x3 x6 x7 x8:D} {S:b7} (h:I n x3 x6 x7 x8 S):k9 Try.prog E w0 (.loop a8S) (n9 29 [3,6,7,8] [x3,x6,x7,x8]) S (a8Q E w0 Q):=
 r8 (k:=29) (n:=n) (I:=fun n T S=>I n (T.getD 3 b8) (T.getD 6 b8) (T.getD 7 b8) (T.getD 8 b8) S) (fun n T S hl hI=>s6 [3,6,7,8] hl (k9.mono (b8F (step n _ _ _ _ S hI)) fun ex T' S' _ hq=>by cases ex<;>exact hq)) (o7 ..) (Eq.mp (by kernel_rfl) h)
def b9E(E:m6)(w0:o3)(Q:D→b7→Prop)(a0:D)(S:b7):Prop:=
 a9 (r6 a0) fun v0=>
 k9 Try.prog E w0 (.loop a8S) (n9 29 [3,6,7,8] [(.int .u32 4294967295),a0,v0,(.int .i64 0)]) S (a8Q E w0 Q)
theorem c2x{E:m6}{w0:o3}{Q:D→b7→Prop}{a0:D}{S:b7}(h:b9E E w0 (d9 E Q) a0 S):o4 Try.prog E w0 a9m [a0] S Q:=
 m9 a2n a2j a2s (fn:=Try.f26) (c:=Try.f26.body.getD .skip) o9 Try.func26 (by kernel_rfl) (by kernel_rfl) h
def b3c:List (Nat×List Nat):=[]
def b3h:List (Nat×List Nat):=[]
def b3e:List (Nat×Arr):=[]
def a5x(E:m6)(w0:o3)(Q:D→b7→Prop)(a0 a1:D)(S:b7):Prop:=
 a9 (d8 .lss a1 (.int .i64 0)) fun v0=>
 i9 v0
 (a9 (some (D.ifc 9 (.str [99,97,110,110,111,116,32,98,101,32,110,101,103,97,116,105,118,101]))) fun v1=>
 a0S E w0 v1 S)
 (a9 (c6f a0) fun v2=>
 a9 (r6 a0) fun v3=>
 a9 (d8 .sub v2 v3) fun v4=>
 a9 (d8 .sub a1 v4) fun v5=>
 a9 (d8 .gtr v5 (.int .i64 0)) fun v6=>
 i9 v6
 (a9 (c6f a0) fun v7=>
 a9 (Q1 1 a0 none (some v7) none) fun v8=>
 b1M S 1 1 [(.int .u8 0)] v8 v5 fun v9 S10=>
 a9 (r6 a0) fun v11=>
 a9 (Q1 1 v9 none (some v11) none) fun v12=>
 Q v12 S10)
 (Q a0 S))
theorem b0M{E:m6}{w0:o3}{Q:D→b7→Prop}{a0 a1:D}{S:b7}(h:a5x E w0 (d9 E Q) a0 a1 S):o4 Try.prog E w0 a2c [a0,a1] S Q:=
 m9 b3c b3h b3e (fn:=Try.f53) (c:=Try.f53.body.getD .skip) o9 Try.func53 (by kernel_rfl) (by kernel_rfl) h
def J2:List (Nat×List Nat):=[(6,[0,3,9,10,11]),(22,[6,25,26,27])]
def I9:List (Nat×List Nat):=[]
def J0:List (Nat×Arr):=[]
noncomputable def a0n:Code:=(l9 [1,1,1,1,0,1,0,0] (Try.f24.body.getD .skip))
def a0m(E:m6)(w0:o3)(Q:D→b7→Prop):r4→List D→b7→Prop:=
 (t7 2 (I5 Try.prog E w0 J2 I9 J0 (l9 [1,1,1,1,1] (Try.f24.body.getD .skip)) (I4 Try.prog Try.f24 Q)))
def a0i(E:m6)(w0:o3)(N1:D→D→D→D→b7→Prop)(Q:D→b7→Prop)(x6 x25 x26 x27:D)(S:b7):Prop:=
 a9 (d8 .lss x27 x26) fun v12=>
 i9 v12
 (a9 (A7 1 x25 x27) fun v13=>
 a9 (c9 S v13) fun v14=>
 y9 S 1 1 x6 v14 fun v15 S16=>
 a9 (d8 .add x27 (.int .i64 1)) fun v17=>
 N1 v15 x25 x26 v17 S16)
 (Q x6 S)
theorem a6N{E:m6}{w0:o3}{N1:D→D→D→D→b7→Prop}{Q:D→b7→Prop}{x6 x25 x26 x27:D}{S:b7}(h:a0i E w0 N1 Q x6 x25 x26 x27 S):
  k9 Try.prog E w0 a0n (n9 36 [6,25,26,27] [x6,x25,x26,x27]) S (C0 (fun T S=>N1 (T.getD 6 b8) (T.getD 25 b8) (T.getD 26 b8) (T.getD 27 b8) S) (a0m E w0 Q)):=l8 J2 I9 J0 o9 (by kernel_rfl) h
theorem a6J{E:m6}{w0:o3}{Q:D→b7→Prop}(I:Nat→D→D→D→D→b7→Prop)
  (step:∀n x6 x25 x26 x27 S,I n x6 x25 x26 x27 S→a0i E w0 (fun x6 x25 x26 x27 S=>∃m,m<n∧I m x6 x25 x26 x27 S) Q x6 x25 x26 x27 S)
  {n:Nat} {x6 x25 x26 x27:D} {S:b7} (h:I n x6 x25 x26 x27 S):k9 Try.prog E w0 (.loop a0n) (n9 36 [6,25,26,27] [x6,x25,x26,x27]) S (a0m E w0 Q):=
 r8 (k:=36) (n:=n) (I:=fun n T S=>I n (T.getD 6 b8) (T.getD 25 b8) (T.getD 26 b8) (T.getD 27 b8) S) (fun n T S hl hI=>s6 [6,25,26,27] hl (k9.mono (a6N (step n _ _ _ _ S hI)) fun ex T' S' _ hq=>by cases ex<;>exact hq)) (o7 ..) (Eq.mp (by kernel_rfl) h)
noncomputable def a0f:Code:=(l9 [1,1,0,1,0,0] (Try.f24.body.getD .skip))
def a0q(E:m6)(w0:o3)(Q:D→b7→Prop):r4→List D→b7→Prop:=
 (t7 0 (I5 Try.prog E w0 J2 I9 J0 (l9 [1,1,1] (Try.f24.body.getD .skip)) (I4 Try.prog Try.f24 Q)))
def a0g(E:m6)(w0:o3)(N0:D→D→D→D→D→b7→Prop)(Q:D→b7→Prop)(x0 x3 x9 x10 x11:D)(S:b7):Prop:=
 a9 (d8 .lss x11 x10) fun v1=>
 i9 v1
 (a9 (A7 1 x9 x11) fun v2=>
 a9 (c9 S v2) fun v3=>
 a9 (r6 v3) fun v4=>
 a9 (d8 .add x3 v4) fun v5=>
 a9 (d8 .lss v5 (.int .i64 0)) fun v6=>
 i9 v6
 (a9 (some (D.ifc 9 (.str [108,101,110,32,111,117,116,32,111,102,32,114,97,110,103,101]))) fun v7=>
 a0S E w0 v7 S)
 (a9 (d8 .add x11 (.int .i64 1)) fun v8=>
 N0 x0 v5 x9 x10 v8 S))
 (o4 Try.prog E w0 a2c [.nilSlc,x3] S fun v9 S10=>
 a9 (r6 x0) fun v11=>
 k9 Try.prog E w0 (.loop a0n) (n9 36 [6,25,26,27] [v9,x0,v11,(.int .i64 0)]) S10 (a0m E w0 Q))
theorem a6H{E:m6}{w0:o3}{N0:D→D→D→D→D→b7→Prop}{Q:D→b7→Prop}{x0 x3 x9 x10 x11:D}{S:b7}(h:a0g E w0 N0 Q x0 x3 x9 x10 x11 S):
  k9 Try.prog E w0 a0f (n9 36 [0,3,9,10,11] [x0,x3,x9,x10,x11]) S (C0 (fun T S=>N0 (T.getD 0 b8) (T.getD 3 b8) (T.getD 9 b8) (T.getD 10 b8) (T.getD 11 b8) S) (a0q E w0 Q)):=l8 J2 I9 J0 o9 (by kernel_rfl) h
theorem a6M{E:m6}{w0:o3}{Q:D→b7→Prop}(I:Nat→D→D→D→D→D→b7→Prop)
  (step:∀n x0 x3 x9 x10 x11 S,I n x0 x3 x9 x10 x11 S→a0g E w0 (fun x0 x3 x9 x10 x11 S=>∃m,m<n∧I m x0 x3 x9 x10 x11 S) Q x0 x3 x9 x10 x11 S)
  {n:Nat} {x0 x3 x9 x10 x11:D} {S:b7} (h:I n x0 x3 x9 x10 x11 S):k9 Try.prog E w0 (.loop a0f) (n9 36 [0,3,9,10,11] [x0,x3,x9,x10,x11]) S (a0q E w0 Q):=
 r8 (k:=36) (n:=n) (I:=fun n T S=>I n (T.getD 0 b8) (T.getD 3 b8) (T.getD 9 b8) (T.getD 10 b8) (T.getD 11 b8) S) (fun n T S hl hI=>s6 [0,3,9,10,11] hl (k9.mono (a6H (step n _ _ _ _ _ S hI)) fun ex T' S' _ hq=>by cases ex<;>exact hq)) (o7 ..) (Eq.mp (by kernel_rfl) h)
def a4q(E:m6)(w0:o3)(Q:D→b7→Prop)(a0:D)(S:b7):Prop:=
 a9 (r6 a0) fun v0=>
 k9 Try.prog E w0 (.loop a0f) (n9 36 [0,3,9,10,11] [a0,(.int .i64 0),a0,v0,(.int .i64 0)]) S (a0q E w0 Q)
theorem a7J{E:m6}{w0:o3}{Q:D→b7→Prop}{a0:D}{S:b7}(h:a4q E w0 (d9 E Q) a0 S):o4 Try.prog E w0 L0 [a0] S Q:=
 m9 J2 I9 J0 (fn:=Try.f24) (c:=Try.f24.body.getD .skip) o9 Try.func24 (by kernel_rfl) (by kernel_rfl) h
def a4G:List (Nat×List Nat):=[]
def a4S:List (Nat×List Nat):=[(4,[0,1])]
def a4J:List (Nat×Arr):=[]
noncomputable def b1J:Code:=(l9 [1] (Try.f50.body.getD .skip))
def b0K(E:m6)(w0:o3)(Q:D→b7→Prop):r4→List D→b7→Prop:=
 (I4 Try.prog Try.f50 Q)
def a4t(E:m6)(w0:o3)(Q:D→b7→Prop)(x0 x1:D)(S:b7):Prop:=
 a9 (U4 x0) fun v0=>
 a9 (m8 0 v0) fun v1=>
 a9 (c9 S v1) fun v2=>
 y9 S 1 1 v2 x1 fun v3 S4=>
 a9 (U4 x0) fun v5=>
 a9 (m8 0 v5) fun v6=>
 f0 S4 1 v6 v3 fun v7 S8=>
 Q b8 S8
def R8(E:m6)(w0:o3)(Q:D→b7→Prop)(x0 x1:D)(S:b7):Prop:=k9 Try.prog E w0 b1J (n9 29 [0,1] [x0,x1]) S (b0K E w0 Q)
theorem a7T{E:m6}{w0:o3}{Q:D→b7→Prop}{x0 x1:D}{S:b7}(h:a4t E w0 Q x0 x1 S):R8 E w0 Q x0 x1 S:=l8 a4G a4S a4J o9 (by kernel_rfl) h
def a5M(E:m6)(w0:o3)(Q:D→b7→Prop)(a0 a1:D)(S:b7):Prop:=
 a9 (r6 a1) fun v9=>
 a9 (U4 a0) fun v10=>
 a9 (m8 0 v10) fun v11=>
 a9 (c9 S v11) fun v12=>
 a9 (r6 v12) fun v13=>
 a9 (d8 .sub (.int .i64 2097153) v13) fun v14=>
 a9 (d8 .gtr v9 v14) fun v15=>
 i9 v15
 (a9 (U4 a0) fun v16=>
 a9 (m8 0 v16) fun v17=>
 a9 (c9 S v17) fun v18=>
 a9 (r6 v18) fun v19=>
 a9 (d8 .sub (.int .i64 2097153) v19) fun v20=>
 b3n S 1 1 [(.int .u8 0)] v20 v20 fun v21 S22=>
 R8 E w0 Q a0 v21 S22)
 (R8 E w0 Q a0 a1 S)
theorem b0H{E:m6}{w0:o3}{Q:D→b7→Prop}{a0 a1:D}{S:b7}(h:a5M E w0 (d9 E Q) a0 a1 S):o4 Try.prog E w0 K0 [a0,a1] S Q:=
 m9 a4G a4S a4J (fn:=Try.f50) (c:=Try.f50.body.getD .skip) o9 Try.func50 (by kernel_rfl) (by kernel_rfl) h
def a9A:List (Nat×List Nat):=[]
def a9Z:List (Nat×List Nat):=[]
def a9c:List (Nat×Arr):=[]
def a3k(E:m6)(w0:o3)(Q:D→b7→Prop)(a0 a1:D)(S:b7):Prop:=
 a9 (I6 .u64 a1) fun v0=>
 o4 Try.prog E w0 b4g [v0] S fun v1 S2=>
 o4 Try.prog E w0 K0 [a0,v1] S2 fun v3 S4=>
 Q b8 S4
theorem a7m{E:m6}{w0:o3}{Q:D→b7→Prop}{a0 a1:D}{S:b7}(h:a3k E w0 (d9 E Q) a0 a1 S):o4 Try.prog E w0 s5 [a0,a1] S Q:=
 m9 a9A a9Z a9c (fn:=Try.f49) (c:=Try.f49.body.getD .skip) o9 Try.func49 (by kernel_rfl) (by kernel_rfl) h
def a4e:List (Nat×List Nat):=[]
def a4b:List (Nat×List Nat):=[(6,[0,1])]
def a4i:List (Nat×Arr):=[]
noncomputable def b0B:Code:=(l9 [1,1] (Try.f51.body.getD .skip))
def a8E(E:m6)(w0:o3)(Q:D→b7→Prop):r4→List D→b7→Prop:=
 (I4 Try.prog Try.f51 Q)
def a3q(E:m6)(w0:o3)(Q:D→b7→Prop)(x0 x1:D)(S:b7):Prop:=
 b9x S x1 fun v3 S4=>
 o4 Try.prog E w0 K0 [x0,v3] S4 fun v5 S6=>
 Q b8 S6
def a0G(E:m6)(w0:o3)(Q:D→b7→Prop)(x0 x1:D)(S:b7):Prop:=k9 Try.prog E w0 b0B (n9 17 [0,1] [x0,x1]) S (a8E E w0 Q)
theorem a7r{E:m6}{w0:o3}{Q:D→b7→Prop}{x0 x1:D}{S:b7}(h:a3q E w0 Q x0 x1 S):a0G E w0 Q x0 x1 S:=l8 a4e a4b a4i o9 (by kernel_rfl) h
def a4O(E:m6)(w0:o3)(Q:D→b7→Prop)(a0 a1:D)(S:b7):Prop:=
 a9 (a3M a1) fun v0=>
 o4 Try.prog E w0 s5 [a0,v0] S fun v1 S2=>
 a9 (a3M a1) fun v7=>
 a9 (d8 .gtr v7 (.int .i64 2097152)) fun v8=>
 i9 v8
 (a9 (b9H a1 none (some (.int .i64 2097152))) fun v9=>
 a0G E w0 Q a0 v9 S2)
 (a0G E w0 Q a0 a1 S2)
theorem a8O{E:m6}{w0:o3}{Q:D→b7→Prop}{a0 a1:D}{S:b7}(h:a4O E w0 (d9 E Q) a0 a1 S):o4 Try.prog E w0 F5 [a0,a1] S Q:=
 m9 a4e a4b a4i (fn:=Try.f51) (c:=Try.f51.body.getD .skip) o9 Try.func51 (by kernel_rfl) (by kernel_rfl) h
def a2l:List (Nat×List Nat):=[(4,[0,10,11,12])]
def a2h:List (Nat×List Nat):=[]
def a2k:List (Nat×Arr):=[]
noncomputable def V0:Code:=(l9 [1,1,0,0] (Try.f52.body.getD .skip))
def W4(E:m6)(w0:o3)(Q:D→b7→Prop):r4→List D→b7→Prop:=
 (t7 0 (I4 Try.prog Try.f52 Q))
def U9(E:m6)(w0:o3)(N0:D→D→D→D→b7→Prop)(Q:D→b7→Prop)(x0 x10 x11 x12:D)(S:b7):Prop:=
 a9 (d8 .lss x12 x11) fun v4=>
 i9 v4
 (a9 (A7 1 x10 x12) fun v5=>
 a9 (c9 S v5) fun v6=>
 o4 Try.prog E w0 s5 [x0,v6] S fun v7 S8=>
 a9 (d8 .add x12 (.int .i64 1)) fun v9=>
 N0 x0 x10 x11 v9 S8)
 (Q b8 S)
theorem a5a{E:m6}{w0:o3}{N0:D→D→D→D→b7→Prop}{Q:D→b7→Prop}{x0 x10 x11 x12:D}{S:b7}(h:U9 E w0 N0 Q x0 x10 x11 x12 S):
  k9 Try.prog E w0 V0 (n9 20 [0,10,11,12] [x0,x10,x11,x12]) S (C0 (fun T S=>N0 (T.getD 0 b8) (T.getD 10 b8) (T.getD 11 b8) (T.getD 12 b8) S) (W4 E w0 Q)):=l8 a2l a2h a2k o9 (by kernel_rfl) h
theorem a5i{E:m6}{w0:o3}{Q:D→b7→Prop}(I:Nat→D→D→D→D→b7→Prop)
  (step:∀n x0 x10 x11 x12 S,I n x0 x10 x11 x12 S→U9 E w0 (fun x0 x10 x11 x12 S=>∃m,m<n∧I m x0 x10 x11 x12 S) Q x0 x10 x11 x12 S)
  {n:Nat} {x0 x10 x11 x12:D} {S:b7} (h:I n x0 x10 x11 x12 S):k9 Try.prog E w0 (.loop V0) (n9 20 [0,10,11,12] [x0,x10,x11,x12]) S (W4 E w0 Q):=
 r8 (k:=20) (n:=n) (I:=fun n T S=>I n (T.getD 0 b8) (T.getD 10 b8) (T.getD 11 b8) (T.getD 12 b8) S) (fun n T S hl hI=>s6 [0,10,11,12] hl (k9.mono (a5a (step n _ _ _ _ S hI)) fun ex T' S' _ hq=>by cases ex<;>exact hq)) (o7 ..) (Eq.mp (by kernel_rfl) h)
def a2S(E:m6)(w0:o3)(Q:D→b7→Prop)(a0 a1:D)(S:b7):Prop:=
 a9 (r6 a1) fun v0=>
 o4 Try.prog E w0 s5 [a0,v0] S fun v1 S2=>
 a9 (r6 a1) fun v3=>
 k9 Try.prog E w0 (.loop V0) (n9 20 [0,10,11,12] [a0,a1,v3,(.int .i64 0)]) S2 (W4 E w0 Q)
theorem a6E{E:m6}{w0:o3}{Q:D→b7→Prop}{a0 a1:D}{S:b7}(h:a2S E w0 (d9 E Q) a0 a1 S):o4 Try.prog E w0 N7 [a0,a1] S Q:=
 m9 a2l a2h a2k (fn:=Try.f52) (c:=Try.f52.body.getD .skip) o9 Try.func52 (by kernel_rfl) (by kernel_rfl) h
def E7:List (Nat×List Nat):=[(8,[1,3,19,20,21]),(22,[1,3,19,20,21,43,44,45]),(44,[1,3,76,77,78]),(56,[3,92,93,94])]
def E9:List (Nat×List Nat):=[]
def E8:List (Nat×Arr):=[]
noncomputable def a6o:Code:=(l9 [1,1,1,0,1,0,0,1,1,0,0,1,1,0,1,0,1,1,0,1,0,0] (Try.f23.body.getD .skip))
def a5S(E:m6)(w0:o3)(N0:D→D→D→D→D→b7→Prop)(Q:D→b7→Prop):r4→List D→b7→Prop:=
 (t7 2 (I5 Try.prog E w0 E7 E9 E8 (l9 [1,1,1,0,1,0,0,1,1,0,0,1,1,0,1,0,1,1,1] (Try.f23.body.getD .skip)) (I5 Try.prog E w0 E7 E9 E8 (l9 [1,1,1,0,1,0,0,1,1,0,0,1,1,1] (Try.f23.body.getD .skip)) (t7 1 (I5 Try.prog E w0 E7 E9 E8 (l9 [1,1,1,0,1,0,0,1,1,1] (Try.f23.body.getD .skip)) (C0 (fun T S=>N0 (T.getD 1 b8) (T.getD 3 b8) (T.getD 19 b8) (T.getD 20 b8) (T.getD 21 b8) S) (t7 0 (I5 Try.prog E w0 E7 E9 E8 (l9 [1,1,1,1] (Try.f23.body.getD .skip)) (I4 Try.prog Try.f23 Q)))))))))
def a5W(E:m6)(w0:o3)(N0:D→D→D→D→D→b7→Prop)(N1:D→D→D→D→D→D→D→D→b7→Prop)(Q:D→b7→Prop)(x1 x3 x19 x20 x21 x43 x44 x45:D)(S:b7):Prop:=
 a9 (d8 .lss x45 x44) fun v40=>
 i9 v40
 (a9 (A7 2 x43 x45) fun v41=>
 a9 (j0 S 2 v41) fun v42=>
 o6 S [(.str []),(.int .i64 0)] fun v43 S44=>
 f0 S44 2 v43 v42 fun v45 S46=>
 a9 (m8 0 v43) fun v47=>
 a9 (c9 S46 v47) fun v48=>
 o4 Try.prog E w0 F5 [x3,v48] S46 fun v49 S50=>
 a9 (m8 1 v43) fun v51=>
 a9 (c9 S50 v51) fun v52=>
 o4 Try.prog E w0 s5 [x3,v52] S50 fun v53 S54=>
 a9 (d8 .add x45 (.int .i64 1)) fun v55=>
 N1 x1 x3 x19 x20 x21 x43 x44 v55 S54)
 (a9 (d8 .add x21 (.int .i64 1)) fun v56=>
 N0 x1 x3 x19 x20 v56 S)
theorem b5n{E:m6}{w0:o3}{N0:D→D→D→D→D→b7→Prop}{N1:D→D→D→D→D→D→D→D→b7→Prop}{Q:D→b7→Prop}{x1 x3 x19 x20 x21 x43 x44 x45:D}{S:b7}(h:a5W E w0 N0 N1 Q x1 x3 x19 x20 x21 x43 x44 x45 S):
  k9 Try.prog E w0 a6o (n9 128 [1,3,19,20,21,43,44,45] [x1,x3,x19,x20,x21,x43,x44,x45]) S (C0 (fun T S=>N1 (T.getD 1 b8) (T.getD 3 b8) (T.getD 19 b8) (T.getD 20 b8) (T.getD 21 b8) (T.getD 43 b8) (T.getD 44 b8) (T.getD 45 b8) S) (a5S E w0 N0 Q)):=l8 E7 E9 E8 o9 (by kernel_rfl) h
theorem b5w{E:m6}{w0:o3}{N0:D→D→D→D→D→b7→Prop}{Q:D→b7→Prop}(I:Nat→D→D→D→D→D→D→D→D→b7→Prop)
  (step:∀n x1 x3 x19 x20 x21 x43 x44 x45 S,I n x1 x3 x19 x20 x21 x43 x44 x45 S→a5W E w0 N0 (fun x1 x3 x19 x20 x21 x43 x44 x45 S=>∃m,m<n∧I m x1 x3 x19 x20 x21 x43 x44 x45 S) Q x1 x3 x19 x20 x21 x43 x44 x45 S)
  {n:Nat} {x1 x3 x19 x20 x21 x43 x44 x45:D} {S:b7} (h:I n x1 x3 x19 x20 x21 x43 x44 x45 S):k9 Try.prog E w0 (.loop a6o) (n9 128 [1,3,19,20,21,43,44,45] [x1,x3,x19,x20,x21,x43,x44,x45]) S (a5S E w0 N0 Q):=
 r8 (k:=128) (n:=n) (I:=fun n T S=>I n (T.getD 1 b8) (T.getD 3 b8) (T.getD 19 b8) (T.getD 20 b8) (T.getD 21 b8) (T.getD 43 b8) (T.getD 44 b8) (T.getD 45 b8) S) (fun n T S hl hI=>s6 [1,3,19,20,21,43,44,45] hl (k9.mono (b5n (step n _ _ _ _ _ _ _ _ S hI)) fun ex T' S' _ hq=>by cases ex<;>exact hq)) (o7 ..) (Eq.mp (by kernel_rfl) h)
noncomputable def a5B:Code:=(l9 [1,1,1,1,1,1,1,0,1,0,0] (Try.f23.body.getD .skip))
def a5p(E:m6)(w0:o3)(Q:D→b7→Prop):r4→List D→b7→Prop:=
 (t7 6 (I5 Try.prog E w0 E7 E9 E8 (l9 [1,1,1,1,1,1,1,1] (Try.f23.body.getD .skip)) (I4 Try.prog Try.f23 Q)))
def a6q(E:m6)(w0:o3)(N3:D→D→D→D→b7→Prop)(Q:D→b7→Prop)(x3 x92 x93 x94:D)(S:b7):Prop:=
 a9 (d8 .lss x94 x93) fun v92=>
 i9 v92
 (a9 (A7 6 x92 x94) fun v93=>
 a9 (j0 S 6 v93) fun v94=>
 o6 S [(.str []), .nilSlc, .nilSlc,(.int .i64 0),(.int .i64 0), .nilSlc] fun v95 S96=>
 f0 S96 6 v95 v94 fun v97 S98=>
 a9 (m8 0 v95) fun v99=>
 a9 (c9 S98 v99) fun v100=>
 o4 Try.prog E w0 F5 [x3,v100] S98 fun v101 S102=>
 a9 (m8 1 v95) fun v103=>
 a9 (c9 S102 v103) fun v104=>
 o4 Try.prog E w0 N7 [x3,v104] S102 fun v105 S106=>
 a9 (m8 2 v95) fun v107=>
 a9 (c9 S106 v107) fun v108=>
 o4 Try.prog E w0 N7 [x3,v108] S106 fun v109 S110=>
 a9 (m8 3 v95) fun v111=>
 a9 (c9 S110 v111) fun v112=>
 o4 Try.prog E w0 s5 [x3,v112] S110 fun v113 S114=>
 a9 (m8 4 v95) fun v115=>
 a9 (c9 S114 v115) fun v116=>
 o4 Try.prog E w0 s5 [x3,v116] S114 fun v117 S118=>
 a9 (m8 5 v95) fun v119=>
 a9 (c9 S118 v119) fun v120=>
 a9 (b3I S118 v120) fun v121=>
 o4 Try.prog E w0 F5 [x3,v121] S118 fun v122 S123=>
 a9 (d8 .add x94 (.int .i64 1)) fun v124=>
 N3 x3 x92 x93 v124 S123)
 (a9 (U4 x3) fun v125=>
 a9 (m8 0 v125) fun v126=>
 a9 (c9 S v126) fun v127=>
 Q v127 S)
theorem b5P{E:m6}{w0:o3}{N3:D→D→D→D→b7→Prop}{Q:D→b7→Prop}{x3 x92 x93 x94:D}{S:b7}(h:a6q E w0 N3 Q x3 x92 x93 x94 S):
  k9 Try.prog E w0 a5B (n9 128 [3,92,93,94] [x3,x92,x93,x94]) S (C0 (fun T S=>N3 (T.getD 3 b8) (T.getD 92 b8) (T.getD 93 b8) (T.getD 94 b8) S) (a5p E w0 Q)):=l8 E7 E9 E8 o9 (by kernel_rfl) h
theorem b5W{E:m6}{w0:o3}{Q:D→b7→Prop}(I:Nat→D→D→D→D→b7→Prop)
  (step:∀n x3 x92 x93 x94 S,I n x3 x92 x93 x94 S→a6q E w0 (fun x3 x92 x93 x94 S=>∃m,m<n∧I m x3 x92 x93 x94 S) Q x3 x92 x93 x94 S)
  {n:Nat} {x3 x92 x93 x94:D} {S:b7} (h:I n x3 x92 x93 x94 S):k9 Try.prog E w0 (.loop a5B) (n9 128 [3,92,93,94] [x3,x92,x93,x94]) S (a5p E w0 Q):=
 r8 (k:=128) (n:=n) (I:=fun n T S=>I n (T.getD 3 b8) (T.getD 92 b8) (T.getD 93 b8) (T.getD 94 b8) S) (fun n T S hl hI=>s6 [3,92,93,94] hl (k9.mono (b5P (step n _ _ _ _ S hI)) fun ex T' S' _ hq=>by cases ex<;>exact hq)) (o7 ..) (Eq.mp (by kernel_rfl) h)
noncomputable def a5F:Code:=(l9 [1,1,1,1,1,0,1,0,0] (Try.f23.body.getD .skip))
def a5T(E:m6)(w0:o3)(Q:D→b7→Prop):r4→List D→b7→Prop:=
 (t7 4 (I5 Try.prog E w0 E7 E9 E8 (l9 [1,1,1,1,1,1] (Try.f23.body.getD .skip)) (I4 Try.prog Try.f23 Q)))
def a6w(E:m6)(w0:o3)(N2:D→D→D→D→D→b7→Prop)(Q:D→b7→Prop)(x1 x3 x76 x77 x78:D)(S:b7):Prop:=
 a9 (d8 .lss x78 x77) fun v78=>
 i9 v78
 (a9 (A7 1 x76 x78) fun v79=>
 a9 (c9 S v79) fun v80=>
 o4 Try.prog E w0 F5 [x3,v80] S fun v81 S82=>
 a9 (d8 .add x78 (.int .i64 1)) fun v83=>
 N2 x1 x3 x76 x77 v83 S82)
 (a9 (m8 2 x1) fun v84=>
 a9 (c9 S v84) fun v85=>
 a9 (r6 v85) fun v86=>
 o4 Try.prog E w0 s5 [x3,v86] S fun v87 S88=>
 a9 (m8 2 x1) fun v89=>
 a9 (c9 S88 v89) fun v90=>
 a9 (r6 v90) fun v91=>
 k9 Try.prog E w0 (.loop a5B) (n9 128 [3,92,93,94] [x3,v90,v91,(.int .i64 0)]) S88 (a5p E w0 Q))
theorem b5M{E:m6}{w0:o3}{N2:D→D→D→D→D→b7→Prop}{Q:D→b7→Prop}{x1 x3 x76 x77 x78:D}{S:b7}(h:a6w E w0 N2 Q x1 x3 x76 x77 x78 S):
  k9 Try.prog E w0 a5F (n9 128 [1,3,76,77,78] [x1,x3,x76,x77,x78]) S (C0 (fun T S=>N2 (T.getD 1 b8) (T.getD 3 b8) (T.getD 76 b8) (T.getD 77 b8) (T.getD 78 b8) S) (a5T E w0 Q)):=l8 E7 E9 E8 o9 (by kernel_rfl) h
theorem b6i{E:m6}{w0:o3}{Q:D→b7→Prop}(I:Nat→D→D→D→D→D→b7→Prop)
  (step:∀n x1 x3 x76 x77 x78 S,I n x1 x3 x76 x77 x78 S→a6w E w0 (fun x1 x3 x76 x77 x78 S=>∃m,m<n∧I m x1 x3 x76 x77 x78 S) Q x1 x3 x76 x77 x78 S)
  {n:Nat} {x1 x3 x76 x77 x78:D} {S:b7} (h:I n x1 x3 x76 x77 x78 S):k9 Try.prog E w0 (.loop a5F) (n9 128 [1,3,76,77,78] [x1,x3,x76,x77,x78]) S (a5T E w0 Q):=
 r8 (k:=128) (n:=n) (I:=fun n T S=>I n (T.getD 1 b8) (T.getD 3 b8) (T.getD 76 b8) (T.getD 77 b8) (T.getD 78 b8) S) (fun n T S hl hI=>s6 [1,3,76,77,78] hl (k9.mono (b5M (step n _ _ _ _ _ S hI)) fun ex T' S' _ hq=>by cases ex<;>exact hq)) (o7 ..) (Eq.mp (by kernel_rfl) h)
noncomputable def a5J:Code:=(l9 [1,1,1,0,1,0,0] (Try.f23.body.getD .skip))
def a5o(E:m6)(w0:o3)(Q:D→b7→Prop):r4→List D→b7→Prop:=
 (t7 0 (I5 Try.prog E w0 E7 E9 E8 (l9 [1,1,1,1] (Try.f23.body.getD .skip)) (I4 Try.prog Try.f23 Q)))
def a5r(E:m6)(w0:o3)(N0:D→D→D→D→D→b7→Prop)(Q:D→b7→Prop)(x1 x3 x19 x20 x21:D)(S:b7):Prop:=
 a9 (d8 .lss x21 x20) fun v12=>
 i9 v12
 (a9 (A7 5 x19 x21) fun v13=>
 a9 (j0 S 5 v13) fun v14=>
 o6 S [(.int .u8 0),(.str []), .nilSlc,(.int .i64 0),(.int .i64 0)] fun v15 S16=>
 f0 S16 5 v15 v14 fun v17 S18=>
 a9 (m8 0 v15) fun v19=>
 a9 (c9 S18 v19) fun v20=>
 u6 S18 1 (p9 1 (List.replicate 1 [(.int .u8 0)]) [(0,v20)]) 1 fun v21 S22=>
 o4 Try.prog E w0 K0 [x3,v21] S22 fun v23 S24=>
 a9 (m8 0 v15) fun v25=>
 a9 (c9 S24 v25) fun v26=>
 a9 (d8 .eql v26 (.int .u8 6)) fun v27=>
 i9 v27
 (a9 (m8 1 v15) fun v28=>
 a9 (c9 S24 v28) fun v29=>
 o4 Try.prog E w0 F5 [x3,v29] S24 fun v30 S31=>
 a9 (m8 2 v15) fun v32=>
 a9 (c9 S31 v32) fun v33=>
 a9 (r6 v33) fun v34=>
 o4 Try.prog E w0 s5 [x3,v34] S31 fun v35 S36=>
 a9 (m8 2 v15) fun v37=>
 a9 (c9 S36 v37) fun v38=>
 a9 (r6 v38) fun v39=>
 k9 Try.prog E w0 (.loop a6o) (n9 128 [1,3,19,20,21,43,44,45] [x1,x3,x19,x20,x21,v38,v39,(.int .i64 0)]) S36 (a5S E w0 N0 Q))
 (a9 (m8 3 v15) fun v57=>
 a9 (c9 S24 v57) fun v58=>
 o4 Try.prog E w0 s5 [x3,v58] S24 fun v59 S60=>
 a9 (m8 0 v15) fun v61=>
 a9 (c9 S60 v61) fun v62=>
 a9 (d8 .eql v62 (.int .u8 7)) fun v63=>
 i9 v63
 (a9 (m8 4 v15) fun v64=>
 a9 (c9 S60 v64) fun v65=>
 o4 Try.prog E w0 s5 [x3,v65] S60 fun v66 S67=>
 a9 (d8 .add x21 (.int .i64 1)) fun v68=>
 N0 x1 x3 x19 x20 v68 S67)
 (a9 (d8 .add x21 (.int .i64 1)) fun v69=>
 N0 x1 x3 x19 x20 v69 S60)))
 (a9 (m8 1 x1) fun v70=>
 a9 (c9 S v70) fun v71=>
 a9 (r6 v71) fun v72=>
 o4 Try.prog E w0 s5 [x3,v72] S fun v73 S74=>
 a9 (m8 1 x1) fun v75=>
 a9 (c9 S74 v75) fun v76=>
 a9 (r6 v76) fun v77=>
 k9 Try.prog E w0 (.loop a5F) (n9 128 [1,3,76,77,78] [x1,x3,v76,v77,(.int .i64 0)]) S74 (a5T E w0 Q))
theorem b5h{E:m6}{w0:o3}{N0:D→D→D→D→D→b7→Prop}{Q:D→b7→Prop}{x1 x3 x19 x20 x21:D}{S:b7}(h:a5r E w0 N0 Q x1 x3 x19 x20 x21 S):
  k9 Try.prog E w0 a5J (n9 128 [1,3,19,20,21] [x1,x3,x19,x20,x21]) S (C0 (fun T S=>N0 (T.getD 1 b8) (T.getD 3 b8) (T.getD 19 b8) (T.getD 20 b8) (T.getD 21 b8) S) (a5o E w0 Q)):=l8 E7 E9 E8 o9 (by kernel_rfl) h
theorem b6n{E:m6}{w0:o3}{Q:D→b7→Prop}(I:Nat→D→D→D→D→D→b7→Prop)
  (step:∀n x1 x3 x19 x20 x21 S,I n x1 x3 x19 x20 x21 S→a5r E w0 (fun x1 x3 x19 x20 x21 S=>∃m,m<n∧I m x1 x3 x19 x20 x21 S) Q x1 x3 x19 x20 x21 S)
  {n:Nat} {x1 x3 x19 x20 x21:D} {S:b7} (h:I n x1 x3 x19 x20 x21 S):k9 Try.prog E w0 (.loop a5J) (n9 128 [1,3,19,20,21] [x1,x3,x19,x20,x21]) S (a5o E w0 Q):=
 r8 (k:=128) (n:=n) (I:=fun n T S=>I n (T.getD 1 b8) (T.getD 3 b8) (T.getD 19 b8) (T.getD 20 b8) (T.getD 21 b8) S) (fun n T S hl hI=>s6 [1,3,19,20,21] hl (k9.mono (b5h (step n _ _ _ _ _ S hI)) fun ex T' S' _ hq=>by cases ex<;>exact hq)) (o7 ..) (Eq.mp (by kernel_rfl) h)
def b5O(E:m6)(w0:o3)(Q:D→b7→Prop)(a0:D)(S:b7):Prop:=
 a9 (r7 a0) fun cs=>o6 S cs fun v0 S1=>
 o6 S1 [.nilSlc] fun v2 S3=>
 a9 (m8 0 v0) fun v4=>
 a9 (c9 S3 v4) fun v5=>
 a9 (r6 v5) fun v6=>
 o4 Try.prog E w0 s5 [v2,v6] S3 fun v7 S8=>
 a9 (m8 0 v0) fun v9=>
 a9 (c9 S8 v9) fun v10=>
 a9 (r6 v10) fun v11=>
 k9 Try.prog E w0 (.loop a5J) (n9 128 [1,3,19,20,21] [v0,v2,v10,v11,(.int .i64 0)]) S8 (a5o E w0 Q)
theorem b8M{E:m6}{w0:o3}{Q:D→b7→Prop}{a0:D}{S:b7}(h:b5O E w0 (d9 E Q) a0 S):o4 Try.prog E w0 b0h [a0] S Q:=
 m9 E7 E9 E8 (fn:=Try.f23) (c:=Try.f23.body.getD .skip) o9 Try.func23 (by kernel_rfl) (by kernel_rfl) h
def b8o:List (Nat×List Nat):=[]
def b8E:List (Nat×List Nat):=[]
def b8v:List (Nat×Arr):=[]
def b1R(E:m6)(w0:o3)(Q:D→b7→Prop)(a0:D)(S:b7):Prop:=
 a9 (r7 a0) fun cs=>o6 S cs fun v0 S1=>
 a9 (j0 S1 3 v0) fun v2=>
 o4 Try.prog E w0 R6 [v2] S1 fun v3 S4=>
 a9 (d8 .neq v3 (.int .i64 0)) fun v5=>
 i9 v5
 (Q (.tup [.nilSlc,v3]) S4)
 (a9 (j0 S4 3 v0) fun v6=>
 o4 Try.prog E w0 b0h [v6] S4 fun v7 S8=>
 a9 (r6 v7) fun v9=>
 a9 (d8 .gtr v9 (.int .i64 2097140)) fun v10=>
 i9 v10
 (Q (.tup [.nilSlc,(.int .i64 3)]) S8)
 (u6 S8 1 (p9 1 (List.replicate 4 [(.int .u8 0)]) [(0,(.int .u8 84)),(1,(.int .u8 82)),(2,(.int .u8 77)),(3,(.int .u8 1))]) 4 fun v11 S12=>
 c3k S12 v11 fun v13 S14=>
 a9 (r6 v7) fun v15=>
 a9 (I6 .u64 v15) fun v16=>
 o4 Try.prog E w0 a1q [v16,(.int .i64 4)] S14 fun v17 S18=>
 o4 Try.prog E w0 a9m [v7] S18 fun v19 S20=>
 a9 (I6 .u64 v19) fun v21=>
 o4 Try.prog E w0 a1q [v21,(.int .i64 4)] S20 fun v22 S23=>
 u6 S23 1 (p9 1 (List.replicate 4 [.nilSlc]) [(0,v13),(1,v17),(2,v7),(3,v22)]) 4 fun v24 S25=>
 o4 Try.prog E w0 L0 [v24] S25 fun v26 S27=>
 Q (.tup [v26,(.int .i64 0)]) S27))
theorem b5e{E:m6}{w0:o3}{Q:D→b7→Prop}{a0:D}{S:b7}(h:b1R E w0 (d9 E Q) a0 S):o4 Try.prog E w0 a0W [a0] S Q:=
 m9 b8o b8E b8v (fn:=Try.f11) (c:=Try.f11.body.getD .skip) o9 Try.func11 (by kernel_rfl) (by kernel_rfl) h
end Go.Proofs.Ytchnpgddpaonhaa.d
end
section
open Go.Proofs Go Go.Am Go.Op
namespace Go.Proofs.Ytchnpgddpaonhaa.d
def a4c:Nat→Nat→List Int
 |0,n=>[(n:Int)]
 |f+1,n=>if n<128 then[(n:Int)]else((n % 128+128:Nat):Int)::a4c f (n / 128)
def d0t(n:Nat):List Int:=a4c 9 n
def F7(n:Int):List Int:=d0t (n % 18446744073709551616).toNat
def d2z(a b:Int):Int:=IntKind.u32.wrap (BitVec.ofInt IntKind.u32.bits a &&& BitVec.ofInt IntKind.u32.bits b).toNat
def d1z(a b:Int):Int:=IntKind.u32.wrap (BitVec.ofInt IntKind.u32.bits a ^^^ BitVec.ofInt IntKind.u32.bits b).toNat
def c7M(s:Int):Int:=d1z (s.fdiv (2^(min (1:Int).toNat IntKind.u32.bits))) (d2z 3988292384 (IntKind.u32.wrap (0 - d2z s 1)))
def a3x(s b:Int):Int:=Nat.repeat c7M 8 (d1z s (IntKind.u32.wrap b))
def M1(bs:List Int):Int:=IntKind.u32.wrap (BitVec.ofInt IntKind.u32.bits IntKind.u32.max ^^^ BitVec.ofInt IntKind.u32.bits (bs.foldl a3x 4294967295)).toNat
def GrZ(S0:b7)(t:D)(rows:List (List D))(sz:Nat)(S:b7):Prop:=Grw S0 t rows sz S∨(rows=[]∧∃k cap ex zr acs,S0 k=none∧t= .raw k 0 0 cap ex sz∧S=S0.set k ⟨sz,zr,acs⟩)
section
variable{S0 S:b7}{t:D}{rows:List (List D)}{sz:Nat}
theorem GrZ.push(h:GrZ S0 t rows sz S){bytes:Nat}{v:D}{news:List (List D)}(hv:rowsS S sz v=some news)(hn:news≠[])(hb:0<bytes∧(2*(rows.length+news.length)+768)*bytes≤2^47){K:D→b7→Prop}(hK:∀t' S',Grw S0 t' (rows++news) sz S'→K t' S'):y9 S sz bytes t v K:=by
 rcases h with h|⟨rfl,k,cap,ex,zr,acs,h0,rfl,rfl⟩
 ·exact h.push hv hb hK
 ·simp only[y9,hv,a4P]
  rw[if_neg hn,b7.set_same]
  simp only
  rw[if_pos ⟨by trivial,by trivial,by omega⟩]
  refine⟨by simpa using hb, .inr fun k' acs' hk'=> ?_⟩
  rw[b7.erase_set _ _ _ h0]at hk' ⊢
  refine hK _ _ (.inr ⟨k',acs',hk', ?_, ?_⟩)<;>simp
theorem GrZ.last(h:GrZ S0 t rows sz S){bytes:Nat}{v:D}{news:List (List D)}(hv:rowsS S sz v=some news)(hn:news≠[])(hb:0<bytes∧(2*(rows.length+news.length)+768)*bytes≤2^47){K:D→b7→Prop}(hK:K (.lst (rows++news) sz) S0):y9 S sz bytes t v K:=by
 rcases h with h|⟨rfl,k,cap,ex,zr,acs,h0,rfl,rfl⟩
 ·exact h.last hv hn hb hK
 ·simp only[y9,hv,a4P]
  rw[if_neg hn,b7.set_same]
  simp only
  rw[if_pos ⟨by trivial,by trivial,by omega⟩]
  refine⟨by simpa using hb, .inl ?_⟩
  rw[b7.erase_set _ _ _ h0,List.take_of_length_le (by simp)]
  simpa using hK
end
section
variable{E:m6}{w0:o3}
theorem d5e(n:Nat):d8 .or (.int .u8 (IntKind.u8.wrap (n:Int))) (.int .u8 128)=some (.int .u8 ((n % 128+128:Nat):Int)):=by
 rw[d4W,b6m,b6m]
 have h8:IntKind.u8.bits=8:=rfl
 rw[h8]
 have e1:((n:Int) % 256)=((n % 256:Nat):Int):=by omega
 rw[e1]
 have e2:(BitVec.ofInt 8 ((n % 256:Nat):Int) ||| BitVec.ofInt 8 128).toNat=n % 128+128:=by
  rw[BitVec.toNat_or,a4o]
  have:(BitVec.ofInt 8 128).toNat=128:=rfl
  rw[this]
  have h:=c7O (a:=n % 128) (b:=1) (i:=7) (by omega)
  have:n % 256 % 2^8=n % 256:=by omega
  rw[this]
  rcases Nat.lt_or_ge (n % 256) 128 with hl|hl
  ·rw[show n % 256=n % 128 by omega];simpa using h
  ·have e3:n % 256=n % 128+128:=by omega
   have h':n % 128+128=n % 128 ||| 128:=by simpa using h.symm
   rw[e3,h',Nat.or_assoc,Nat.or_self]
 rw[e2]
 congr 1
 congr 1
 omega
theorem c6I{n0:Nat}(hn:n0<2^64):Y7 Try.prog E w0 b4g [.int .u64 (n0:Int)] (bD (d0t n0)):=fun S=>by
 refine c2q ?_
 unfold b9J
 simp only[b3n]
 rw[if_pos (by decide)]
 refine .inr fun k acs hk=> ?_
 refine b8n (I:=fun m x0 x3 T=>∃(f n:Nat) (acc:List Int),f=m∧x0= .int .u64 (n:Int)∧n<2^(7*f+1)∧n<2^64∧f≤9∧acc.length+f=9∧GrZ S x3 (u4 (acc.map (D.int .u8))) 1 T∧acc++a4c f n=a4c 9 n0) ?_ (n:=9)
  ⟨9,n0,[],rfl,rfl,hn,hn,by omega,by simp, .inr ⟨rfl,k,10,true,_,acs,hk,rfl,rfl⟩,rfl⟩
 rintro m0 _ x3 T ⟨f,n,acc,rfl,rfl,hnf,hn64,hf9,hacc,hg,hput⟩
 unfold a9S
 rw[b2j,oD,M6]
 refine⟨fun hge=> ?_,fun hlt=> ?_⟩
 ·have hge:128≤n:=by omega
  obtain⟨f,rfl⟩:∃f',f=f'+1:=⟨f - 1,by
   rcases f with _|f
   ·simp at hnf;omega
   ·rfl⟩
  rw[a4c,if_neg (by omega)]at hput
  rw[cvI,oD,d5e,oD,show p9 1 (List.replicate 1 [D.int .u8 0]) [(0, .int .u8 ((n % 128+128:Nat):Int))]=some (u4 [D.int .u8 ((n % 128+128:Nat):Int)]) from rfl]
  refine M7 rfl ?_
  refine hg.push (news:=u4 [D.int .u8 ((n % 128+128:Nat):Int)]) rfl (by simp[u4]) (by simp;omega) fun t' T' hg'=> ?_
  rw[d1w _ _ _ _ (by omega),oD]
  have e:((n:Int).fdiv (2^(min (7:Int).toNat IntKind.u64.bits)))=((n / 128:Nat):Int):=by
   rw[show min (7:Int).toNat IntKind.u64.bits=7 from rfl,Int.fdiv_eq_ediv_of_nonneg _ (by decide)]
   omega
  rw[e]
  refine⟨f,by omega,f,n / 128,acc++[((n % 128+128:Nat):Int)],rfl,rfl, ?_,by omega,by omega,by simp;omega, .inl ?_,by rw[←hput];simp⟩
  ·have:2^(7*(f+1)+1)=2^(7*f+1)*128:=by rw[show 7*(f+1)+1=(7*f+1)+7 by omega,Nat.pow_add]
   omega
  ·have:u4 ((acc++[((n % 128+128:Nat):Int)]).map (D.int .u8))=u4 (acc.map (D.int .u8))++u4 [D.int .u8 ((n % 128+128:Nat):Int)]:=by rw[List.map_append,a2t];rfl
   rw[this];exact hg'
 ·have hlt:n<128:=by omega
  have hpn:a4c f n=[(n:Int)]:=by
   cases f with
   |zero=>rfl
   |succ f=>rw[a4c,if_pos hlt]
  rw[hpn]at hput
  have hw:IntKind.u8.wrap (n:Int)=n:=by rw[b6m];omega
  rw[cvI,oD,hw,show p9 1 (List.replicate 1 [D.int .u8 0]) [(0, .int .u8 (n:Int))]=some (u4 [D.int .u8 (n:Int)]) from rfl]
  refine M7 rfl ?_
  refine hg.last (news:=u4 [D.int .u8 (n:Int)]) rfl (by simp[u4]) (by simp;omega) ?_
  have:(.lst (u4 (acc.map (D.int .u8))++u4 [D.int .u8 (n:Int)]) 1:D)=bD (d0t n0):=by
   unfold bD d0t
   rw[←hput,List.map_append,a2t];rfl
  rw[this]
  exact d9.pure
theorem b7K{bs:List Int}(hl:bs.length<2^60):Y7 Try.prog E w0 a9m [bD bs] (.int .u32 (M1 bs)):=fun S=>by
 refine c2x ?_
 unfold b9E
 rw[L9,oD]
 refine b8W (I:=fun n x3 x6 x7 x8 T=>S=T∧x6=bD bs∧x7= .int .i64 (bs.length:Int)∧∃i:Nat,x8= .int .i64 (i:Int)∧i+n=bs.length∧x3= .int .u32 ((bs.take i).foldl a3x 4294967295)) ?_ (n:=bs.length)
  ⟨rfl,rfl,rfl,0,rfl,by omega,rfl⟩
 rintro n _ _ _ _ _ ⟨rfl,rfl,rfl,i,rfl,hi,rfl⟩
 unfold a9q
 rw[K3,oD,M6]
 refine⟨fun hlt=> ?_,fun hge=> ?_⟩
 ·have hlt:i<bs.length:=by omega
  rw[b5G (List.getElem?_eq_getElem hlt),oD,lsE,List.getElem?_cons_zero,oD,cvI,oD,d3x,oD]
  refine b8U (I:=fun m x3 x6 x7 x8 x16 T=>S=T∧x6=bD bs∧x7= .int .i64 (bs.length:Int)∧x8= .int .i64 (i:Int)∧∃j:Nat,x16= .int .i64 (j:Int)∧j+m=8∧x3= .int .u32 (Nat.repeat c7M j (d1z ((bs.take i).foldl a3x 4294967295) (IntKind.u32.wrap bs[i])))) ?_ (n:=8)
   ⟨rfl,rfl,rfl,rfl,0,rfl,rfl,rfl⟩
  rintro m _ _ _ _ _ _ ⟨rfl,rfl,rfl,rfl,j,rfl,hj,rfl⟩
  unfold a9T
  rw[K3,oD,M6]
  refine⟨fun hjl=> ?_,fun hjg=> ?_⟩
  ·rw[d1w _ _ _ _ (by decide),oD,c3d,oD,unM,oD,c3d,oD,d3x,oD,E2,oD,m7 (by omega) (by omega)]
   exact⟨m - 1,by omega,rfl,rfl,rfl,rfl,j+1,rfl,by omega,rfl⟩
  ·have hj8:j=8:=by omega
   subst hj8
   rw[E2,oD,m7 (by omega) (by omega)]
   refine⟨n - 1,by omega,rfl,rfl,rfl,i+1,rfl,by omega, ?_⟩
   rw[List.take_add_one,List.getElem?_eq_getElem hlt,List.foldl_append]
   rfl
 ·have hi:i=bs.length:=by omega
  subst hi
  rw[List.take_length]
  have e:unD .xor (.int .u32 (bs.foldl a3x 4294967295))=some (.int .u32 (M1 bs)):=rfl
  rw[e,oD]
  exact d9.pure
theorem d2Y{n:Nat}(hn:n<2^40){S:b7}:o4 Try.prog E w0 a2c [.nilSlc, .int .i64 (n:Int)] S fun v S'=>GrZ S v [] 1 S':=by
 refine b0M ?_
 unfold a5x
 rw[K3,oD,decide_eq_false (by omega),cdF]
 rw[show c6f .nilSlc=some (.int .i64 0) from rfl,oD,lnN,oD,b0s,oD,m7 (by omega) (by omega),b0s,oD,m7 (by omega) (by omega),a3z,oD,M6]
 refine⟨fun h=> ?_,fun h=>d9.here (.inl (Grw.nil _ _))⟩
 rw[oD,show Q1 1 .nilSlc none (some (.int .i64 0)) none=some .nilSlc from rfl,oD]
 have e:((n:Int) - (0 - 0))=(n:Int):=by omega
 rw[e]at h ⊢
 simp only[b1M]
 rw[if_pos ⟨m7 (by omega) (by omega),by omega,by omega⟩]
 simp only[a4P]
 have hr:List.replicate ((n:Int)).toNat [D.int .u8 0]≠[]:=by rw[Int.toNat_natCast];intro h';have:=congrArg List.length h';simp at this;omega
 rw[if_neg hr]
 refine⟨⟨by decide,by simp;omega⟩, .inr fun k acs hk=> ?_⟩
 have:Q1 1 (.raw k 0 (List.replicate ((n:Int)).toNat [D.int .u8 0]).length (List.replicate ((n:Int)).toNat [D.int .u8 0]).length false 1) none (some (.int .i64 0)) none=some (.raw k 0 0 (List.replicate ((n:Int)).toNat [D.int .u8 0]).length false 1):=by
  have hb:E3 (.int .i64 0) (List.replicate ((n:Int)).toNat [D.int .u8 0]).length=some 0:=by simp[E3]
  simp only[Q1,N5,c4E,b1n,b8t,if_true,Option.bind_some,hb,Option.map_some]
  rfl
 show a9 (some _) _
 rw[oD,this,oD]
 exact d9.here (.inr ⟨rfl,k,_,_,_,acs,hk,rfl,rfl⟩)
def b2e(l:List (List Int)):D:= .lst (l.map fun b=>[bD b]) 1
theorem c2P{l:List (List Int)}{i:Nat}{b:List Int}(h:l[i]? =some b):A7 1 (b2e l) (.int .i64 (i:Int))=some (.elt [bD b] 0):=b5S (by rw[List.getElem?_map,h];rfl)
theorem b5s{l:List (List Int)}{i:Nat}(hi:i<l.length):(l.take (i+1)).flatten=(l.take i).flatten++l[i]:=by
 rw[List.take_add_one,List.getElem?_eq_getElem hi,List.flatten_append];simp
theorem b9p{l:List (List Int)}(i:Nat):(l.take i).flatten.length≤l.flatten.length:=by
 have:l.flatten=(l.take i).flatten++(l.drop i).flatten:=by rw[←List.flatten_append,List.take_append_drop]
 rw[this,List.length_append];omega
theorem c7Z{l:List (List Int)}(hl:l.flatten.length<2^40)(hn:l.length<2^40){S:b7}:o4 Try.prog E w0 L0 [b2e l] S fun v T=>GrZ S v (u4 (l.flatten.map (D.int .u8))) 1 T:=by
 refine a7J ?_
 unfold a4q
 have hlen:r6 (b2e l)=some (.int .i64 (l.length:Int)):=by simp[b2e]
 rw[hlen,oD]
 refine a6M (I:=fun n x0 x3 x9 x10 x11 T=>S=T∧x0=b2e l∧x9=b2e l∧x10= .int .i64 (l.length:Int)∧∃i:Nat,x11= .int .i64 (i:Int)∧i+n=l.length∧x3= .int .i64 ((l.take i).flatten.length:Int)) ?_ (n:=l.length)
  ⟨rfl,rfl,rfl,rfl,0,rfl,by omega,rfl⟩
 rintro n _ _ _ _ _ _ ⟨rfl,rfl,rfl,rfl,i,rfl,hi,rfl⟩
 unfold a0g
 rw[K3,oD,M6]
 have hfl:=b9p (l:=l) i
 refine⟨fun hlt=> ?_,fun hge=> ?_⟩
 ·have hlt:i<l.length:=by omega
  have h1:=b9p (l:=l) (i+1)
  rw[b5s hlt,List.length_append]at h1
  rw[c2P (List.getElem?_eq_getElem hlt),oD,lsE,List.getElem?_cons_zero,oD,L9,oD,E2,oD,m7 (by omega) (by omega),K3,oD,decide_eq_false (by omega),cdF,E2,oD,m7 (by omega) (by omega)]
  exact⟨n - 1,by omega,rfl,rfl,rfl,rfl,i+1,rfl,by omega,by rw[b5s hlt,List.length_append];rfl⟩
 ·refine(d2Y (by omega)).use fun v T hg=> ?_
  rw[hlen,oD]
  refine a6J (I:=fun n x6 x25 x26 x27 T=>x25=b2e l∧x26= .int .i64 (l.length:Int)∧∃i:Nat,x27= .int .i64 (i:Int)∧i+n=l.length∧GrZ S x6 (u4 ((l.take i).flatten.map (D.int .u8))) 1 T) ?_ (n:=l.length)
   ⟨rfl,rfl,0,rfl,by omega,hg⟩
  rintro n x6 _ _ _ T ⟨rfl,rfl,i,rfl,hi,hg⟩
  unfold a0i
  rw[K3,oD,M6]
  have hfl:=b9p (l:=l) i
  refine⟨fun hlt=> ?_,fun hge=> ?_⟩
  ·have hlt:i<l.length:=by omega
   have h1:=b9p (l:=l) (i+1)
   rw[b5s hlt,List.length_append]at h1
   rw[c2P (List.getElem?_eq_getElem hlt),oD,lsE,List.getElem?_cons_zero,oD]
   have hnext:u4 ((l.take (i+1)).flatten.map (D.int .u8))=u4 ((l.take i).flatten.map (D.int .u8))++u4 (l[i].map (D.int .u8)):=by rw[b5s hlt,List.map_append,a2t]
   by_cases he:l[i]=[]
   ·rw[he,List.map_nil]at hnext
    have hskip:∀K:D→b7→Prop,K x6 T→y9 T 1 1 x6 (bD l[i]) K:=fun K hK=>by
     rw[he]
     simp only[y9,b4L]
     rcases hg with (⟨rfl,_,rfl⟩|⟨k,acs,_,rfl,rfl⟩)|⟨_,k,cap,ex,zr,acs,_,rfl,rfl⟩<;>exact hK
    refine hskip _ ?_
    rw[E2,oD,m7 (by omega) (by omega)]
    exact⟨n - 1,by omega,rfl,rfl,i+1,rfl,by omega,by rw[hnext];simpa [u4]using hg⟩
   ·refine hg.push (b4L _ _) (by simpa [u4]using he) (by simp only[b2t,List.length_map];omega) fun t' T' hg'=> ?_
    rw[E2,oD,m7 (by omega) (by omega)]
    exact⟨n - 1,by omega,rfl,rfl,i+1,rfl,by omega, .inl (by rw[hnext];exact hg')⟩
  ·have hi:i=l.length:=by omega
   subst hi
   rw[List.take_length]at hg
   exact d9.here hg
end
end Go.Proofs.Ytchnpgddpaonhaa.d
end
