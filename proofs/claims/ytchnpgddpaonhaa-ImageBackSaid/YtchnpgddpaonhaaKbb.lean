/-
  ImageBackSaid: part Kbb of its proof.
-/
import Derived.Test.YtchnpgddpaonhaaRows
import Derived.Test.YtchnpgddpaonhaaKaq
import Derived.KernelRfl
import Derived.Test.YtchnpgddpaonhaaKas
import Derived.Test.YtchnpgddpaonhaaKau
import Derived.Test.YtchnpgddpaonhaaKaw
set_option linter.unusedVariables false
set_option linter.unusedSimpArgs false
set_option maxRecDepth 100000
section
open Go.Proofs Go Go.Am
namespace Go.Proofs.Ytchnpgddpaonhaa.d
def b2h:List (Nat×List Nat):=[(4,[0,3])]
def b2j:List (Nat×List Nat):=[]
def b2P:List (Nat×X5):=[]
noncomputable def a9N:Code:=(l9 [1,1,0,0,0] (Try.f78.body.getD .skip))
def a9e(E:m7)(w0:o0)(Q:D→b7→Prop):r6→List D→b7→Prop:=
 (s8 0 (G7 Try.prog E w0 b2h b2j b2P (l9 [1,1,1] (Try.f78.body.getD .skip)) (G8 Try.prog Try.f78 Q)))
def b0o(E:m7)(w0:o0)(N0:D→D→b7→Prop)(Q:D→b7→Prop)(x0 x3:D)(S:b7):Prop:=
 a9 (d8 .geq x0 (.int .u64 128)) fun v2=>
 j8 v2
 (a9 (I8 .u8 x0) fun v3=>
 a9 (d8 .or v3 (.int .u8 128)) fun v4=>
 u6 S 1 (q9 1 (List.replicate 1 [(.int .u8 0)]) [(0,v4)]) 1 fun v5 S6=>
 A1 S6 1 1 x3 v5 fun v7 S8=>
 a9 (d8 .shr x0 (.int .u64 7)) fun v9=>
 N0 v9 v7 S8)
 (a9 (I8 .u8 x0) fun v10=>
 u6 S 1 (q9 1 (List.replicate 1 [(.int .u8 0)]) [(0,v10)]) 1 fun v11 S12=>
 A1 S12 1 1 x3 v11 fun v13 S14=>
 Q v13 S14)
theorem b9U{E:m7}{w0:o0}{N0:D→D→b7→Prop}{Q:D→b7→Prop}{x0 x3:D}{S:b7}(h:b0o E w0 N0 Q x0 x3 S):
  j9 Try.prog E w0 a9N (n9 20 [0,3] [x0,x3]) S (A8 (fun T S=>N0 (T.getD 0 b8) (T.getD 3 b8) S) (a9e E w0 Q)):=l8 b2h b2j b2P o7 (by kernel_rfl) h
theorem b9x{E:m7}{w0:o0}{Q:D→b7→Prop}(I:Nat→D→D→b7→Prop)
  (step:∀n x0 x3 S,I n x0 x3 S→b0o E w0 (fun x0 x3 S=>∃m,m<n∧I m x0 x3 S) Q x0 x3 S)
  {n:Nat} {x0 x3:D} {S:b7} (h:I n x0 x3 S):j9 Try.prog E w0 (.loop a9N) (n9 20 [0,3] [x0,x3]) S (a9e E w0 Q):=
 r0 (k:=20) (n:=n) (I:=fun n T S=>I n (T.getD 0 b8) (T.getD 3 b8) S) (fun n T S hl hI=>r9 [0,3] hl (j9.mono (b9U (step n _ _ S hI)) fun ex T' S' _ hq=>by cases ex<;>exact hq)) (o3 ..) (Eq.mp (by kernel_rfl) h)
def c1Q(E:m7)(w0:o0)(Q:D→b7→Prop)(a0:D)(S:b7):Prop:=
 b4g S 1 1 [(.int .u8 0)] (.int .i64 0) (.int .i64 10) fun v0 S1=>
 j9 Try.prog E w0 (.loop a9N) (n9 20 [0,3] [a0,v0]) S1 (a9e E w0 Q)
theorem c3l{E:m7}{w0:o0}{Q:D→b7→Prop}{a0:D}{S:b7}(h:c1Q E w0 (d9 E Q) a0 S):o5 Try.prog E w0 b5m [a0] S Q:=
 m9 b2h b2j b2P (fn:=Try.f78) (c:=Try.f78.body.getD .skip) o7 Try.func78 (by kernel_rfl) (by kernel_rfl) h
def a2G:List (Nat×List Nat):=[(6,[3,6,7,8]),(14,[3,6,7,8,16])]
def a2y:List (Nat×List Nat):=[]
def a2x:List (Nat×X5):=[]
noncomputable def a9D:Code:=(l9 [1,1,0,1,0,0,1,1,0,0,1,1,1,0,0] (Try.f26.body.getD .skip))
def a9Q(E:m7)(w0:o0)(N0:D→D→D→D→b7→Prop)(Q:D→b7→Prop):r6→List D→b7→Prop:=
 (s8 2 (s8 1 (G7 Try.prog E w0 a2G a2y a2x (l9 [1,1,0,1,0,0,1,1,1] (Try.f26.body.getD .skip)) (A8 (fun T S=>N0 (T.getD 3 b8) (T.getD 6 b8) (T.getD 7 b8) (T.getD 8 b8) S) (s8 0 (G7 Try.prog E w0 a2G a2y a2x (l9 [1,1,1] (Try.f26.body.getD .skip)) (G8 Try.prog Try.f26 Q)))))))
def a9v(E:m7)(w0:o0)(N0:D→D→D→D→b7→Prop)(N1:D→D→D→D→D→b7→Prop)(Q:D→b7→Prop)(x3 x6 x7 x8 x16:D)(S:b7):Prop:=
 a9 (d8 .lss x16 (.int .i64 8)) fun v6=>
 j8 v6
 (a9 (d8 .shr x3 (.int .u64 1)) fun v7=>
 a9 (d8 .and x3 (.int .u32 1)) fun v8=>
 a9 (unD .neg v8) fun v9=>
 a9 (d8 .and (.int .u32 3988292384) v9) fun v10=>
 a9 (d8 .xor v7 v10) fun v11=>
 a9 (d8 .add x16 (.int .i64 1)) fun v12=>
 N1 v11 x6 x7 x8 v12 S)
 (a9 (d8 .add x8 (.int .i64 1)) fun v13=>
 N0 x3 x6 x7 v13 S)
theorem b9T{E:m7}{w0:o0}{N0:D→D→D→D→b7→Prop}{N1:D→D→D→D→D→b7→Prop}{Q:D→b7→Prop}{x3 x6 x7 x8 x16:D}{S:b7}(h:a9v E w0 N0 N1 Q x3 x6 x7 x8 x16 S):
  j9 Try.prog E w0 a9D (n9 29 [3,6,7,8,16] [x3,x6,x7,x8,x16]) S (A8 (fun T S=>N1 (T.getD 3 b8) (T.getD 6 b8) (T.getD 7 b8) (T.getD 8 b8) (T.getD 16 b8) S) (a9Q E w0 N0 Q)):=l8 a2G a2y a2x o7 (by kernel_rfl) h
theorem b9G{E:m7}{w0:o0}{N0:D→D→D→D→b7→Prop}{Q:D→b7→Prop}(I:Nat→D→D→D→D→D→b7→Prop)
  (step:∀n x3 x6 x7 x8 x16 S,I n x3 x6 x7 x8 x16 S→a9v E w0 N0 (fun x3 x6 x7 x8 x16 S=>∃m,m<n∧I m x3 x6 x7 x8 x16 S) Q x3 x6 x7 x8 x16 S)
  {n:Nat} {x3 x6 x7 x8 x16:D} {S:b7} (h:I n x3 x6 x7 x8 x16 S):j9 Try.prog E w0 (.loop a9D) (n9 29 [3,6,7,8,16] [x3,x6,x7,x8,x16]) S (a9Q E w0 N0 Q):=
 r0 (k:=29) (n:=n) (I:=fun n T S=>I n (T.getD 3 b8) (T.getD 6 b8) (T.getD 7 b8) (T.getD 8 b8) (T.getD 16 b8) S) (fun n T S hl hI=>r9 [3,6,7,8,16] hl (j9.mono (b9T (step n _ _ _ _ _ S hI)) fun ex T' S' _ hq=>by cases ex<;>exact hq)) (o3 ..) (Eq.mp (by kernel_rfl) h)
noncomputable def b0s:Code:=(l9 [1,1,0,1,0,0] (Try.f26.body.getD .skip))
def a9d(E:m7)(w0:o0)(Q:D→b7→Prop):r6→List D→b7→Prop:=
 (s8 0 (G7 Try.prog E w0 a2G a2y a2x (l9 [1,1,1] (Try.f26.body.getD .skip)) (G8 Try.prog Try.f26 Q)))
def a9n(E:m7)(w0:o0)(N0:D→D→D→D→b7→Prop)(Q:D→b7→Prop)(x3 x6 x7 x8:D)(S:b7):Prop:=
 a9 (d8 .lss x8 x7) fun v1=>
 j8 v1
 (a9 (A0 1 x6 x8) fun v2=>
 a9 (b9 S v2) fun v3=>
 a9 (I8 .u32 v3) fun v4=>
 a9 (d8 .xor x3 v4) fun v5=>
 j9 Try.prog E w0 (.loop a9D) (n9 29 [3,6,7,8,16] [v5,x6,x7,x8,(.int .i64 0)]) S (a9Q E w0 N0 Q))
 (a9 (unD .xor x3) fun v14=>
 Q v14 S)
theorem c0a{E:m7}{w0:o0}{N0:D→D→D→D→b7→Prop}{Q:D→b7→Prop}{x3 x6 x7 x8:D}{S:b7}(h:a9n E w0 N0 Q x3 x6 x7 x8 S):
  j9 Try.prog E w0 b0s (n9 29 [3,6,7,8] [x3,x6,x7,x8]) S (A8 (fun T S=>N0 (T.getD 3 b8) (T.getD 6 b8) (T.getD 7 b8) (T.getD 8 b8) S) (a9d E w0 Q)):=l8 a2G a2y a2x o7 (by kernel_rfl) h
theorem b9I{E:m7}{w0:o0}{Q:D→b7→Prop}(I:Nat→D→D→D→D→b7→Prop)
  (step:∀n x3 x6 x7 x8 S,I n x3 x6 x7 x8 S→a9n E w0 (fun x3 x6 x7 x8 S=>∃m,m<n∧I m x3 x6 x7 x8 S) Q x3 x6 x7 x8 S)
  {n:Nat} {x3 x6 x7 x8:D} {S:b7} (h:I n x3 x6 x7 x8 S):j9 Try.prog E w0 (.loop b0s) (n9 29 [3,6,7,8] [x3,x6,x7,x8]) S (a9d E w0 Q):=
 r0 (k:=29) (n:=n) (I:=fun n T S=>I n (T.getD 3 b8) (T.getD 6 b8) (T.getD 7 b8) (T.getD 8 b8) S) (fun n T S hl hI=>r9 [3,6,7,8] hl (j9.mono (c0a (step n _ _ _ _ S hI)) fun ex T' S' _ hq=>by cases ex<;>exact hq)) (o3 ..) (Eq.mp (by kernel_rfl) h)
def c2v(E:m7)(w0:o0)(Q:D→b7→Prop)(a0:D)(S:b7):Prop:=
 a9 (p7 a0) fun v0=>
 j9 Try.prog E w0 (.loop b0s) (n9 29 [3,6,7,8] [(.int .u32 4294967295),a0,v0,(.int .i64 0)]) S (a9d E w0 Q)
theorem c2O{E:m7}{w0:o0}{Q:D→b7→Prop}{a0:D}{S:b7}(h:c2v E w0 (d9 E Q) a0 S):o5 Try.prog E w0 a9A [a0] S Q:=
 m9 a2G a2y a2x (fn:=Try.f26) (c:=Try.f26.body.getD .skip) o7 Try.func26 (by kernel_rfl) (by kernel_rfl) h
def b3Q:List (Nat×List Nat):=[]
def b3F:List (Nat×List Nat):=[]
def b3G:List (Nat×X5):=[]
def a6u(E:m7)(w0:o0)(Q:D→b7→Prop)(a0 a1:D)(S:b7):Prop:=
 a9 (d8 .lss a1 (.int .i64 0)) fun v0=>
 j8 v0
 (a9 (some (D.ifc 9 (.str [99,97,110,110,111,116,32,98,101,32,110,101,103,97,116,105,118,101]))) fun v1=>
 a1h E w0 v1 S)
 (a9 (c6u a0) fun v2=>
 a9 (p7 a0) fun v3=>
 a9 (d8 .sub v2 v3) fun v4=>
 a9 (d8 .sub a1 v4) fun v5=>
 a9 (d8 .gtr v5 (.int .i64 0)) fun v6=>
 j8 v6
 (a9 (c6u a0) fun v7=>
 a9 (X7 1 a0 none (some v7) none) fun v8=>
 b2M S 1 1 [(.int .u8 0)] v8 v5 fun v9 S10=>
 a9 (p7 a0) fun v11=>
 a9 (X7 1 v9 none (some v11) none) fun v12=>
 Q v12 S10)
 (Q a0 S))
theorem b1n{E:m7}{w0:o0}{Q:D→b7→Prop}{a0 a1:D}{S:b7}(h:a6u E w0 (d9 E Q) a0 a1 S):o5 Try.prog E w0 a2p [a0,a1] S Q:=
 m9 b3Q b3F b3G (fn:=Try.f53) (c:=Try.f53.body.getD .skip) o7 Try.func53 (by kernel_rfl) (by kernel_rfl) h
def J5:List (Nat×List Nat):=[(6,[0,3,9,10,11]),(22,[6,25,26,27])]
def J2:List (Nat×List Nat):=[]
def J4:List (Nat×X5):=[]
noncomputable def a0i:Code:=(l9 [1,1,1,1,0,1,0,0] (Try.f24.body.getD .skip))
def a0r(E:m7)(w0:o0)(Q:D→b7→Prop):r6→List D→b7→Prop:=
 (s8 2 (G7 Try.prog E w0 J5 J2 J4 (l9 [1,1,1,1,1] (Try.f24.body.getD .skip)) (G8 Try.prog Try.f24 Q)))
def a0o(E:m7)(w0:o0)(N1:D→D→D→D→b7→Prop)(Q:D→b7→Prop)(x6 x25 x26 x27:D)(S:b7):Prop:=
 a9 (d8 .lss x27 x26) fun v12=>
 j8 v12
 (a9 (A0 1 x25 x27) fun v13=>
 a9 (b9 S v13) fun v14=>
 A1 S 1 1 x6 v14 fun v15 S16=>
 a9 (d8 .add x27 (.int .i64 1)) fun v17=>
 N1 v15 x25 x26 v17 S16)
 (Q x6 S)
theorem a7c{E:m7}{w0:o0}{N1:D→D→D→D→b7→Prop}{Q:D→b7→Prop}{x6 x25 x26 x27:D}{S:b7}(h:a0o E w0 N1 Q x6 x25 x26 x27 S):
  j9 Try.prog E w0 a0i (n9 36 [6,25,26,27] [x6,x25,x26,x27]) S (A8 (fun T S=>N1 (T.getD 6 b8) (T.getD 25 b8) (T.getD 26 b8) (T.getD 27 b8) S) (a0r E w0 Q)):=l8 J5 J2 J4 o7 (by kernel_rfl) h
theorem a7a{E:m7}{w0:o0}{Q:D→b7→Prop}(I:Nat→D→D→D→D→b7→Prop)
  (step:∀n x6 x25 x26 x27 S,I n x6 x25 x26 x27 S→a0o E w0 (fun x6 x25 x26 x27 S=>∃m,m<n∧I m x6 x25 x26 x27 S) Q x6 x25 x26 x27 S)
  {n:Nat} {x6 x25 x26 x27:D} {S:b7} (h:I n x6 x25 x26 x27 S):j9 Try.prog E w0 (.loop a0i) (n9 36 [6,25,26,27] [x6,x25,x26,x27]) S (a0r E w0 Q):=
 r0 (k:=36) (n:=n) (I:=fun n T S=>I n (T.getD 6 b8) (T.getD 25 b8) (T.getD 26 b8) (T.getD 27 b8) S) (fun n T S hl hI=>r9 [6,25,26,27] hl (j9.mono (a7c (step n _ _ _ _ S hI)) fun ex T' S' _ hq=>by cases ex<;>exact hq)) (o3 ..) (Eq.mp (by kernel_rfl) h)
noncomputable def a0f:Code:=(l9 [1,1,0,1,0,0] (Try.f24.body.getD .skip))
def a0n(E:m7)(w0:o0)(Q:D→b7→Prop):r6→List D→b7→Prop:=
 (s8 0 (G7 Try.prog E w0 J5 J2 J4 (l9 [1,1,1] (Try.f24.body.getD .skip)) (G8 Try.prog Try.f24 Q)))
def a0p(E:m7)(w0:o0)(N0:D→D→D→D→D→b7→Prop)(Q:D→b7→Prop)(x0 x3 x9 x10 x11:D)(S:b7):Prop:=
 a9 (d8 .lss x11 x10) fun v1=>
 j8 v1
 (a9 (A0 1 x9 x11) fun v2=>
 a9 (b9 S v2) fun v3=>
 a9 (p7 v3) fun v4=>
 a9 (d8 .add x3 v4) fun v5=>
 a9 (d8 .lss v5 (.int .i64 0)) fun v6=>
 j8 v6
 (a9 (some (D.ifc 9 (.str [108,101,110,32,111,117,116,32,111,102,32,114,97,110,103,101]))) fun v7=>
 a1h E w0 v7 S)
 (a9 (d8 .add x11 (.int .i64 1)) fun v8=>
 N0 x0 v5 x9 x10 v8 S))
 (o5 Try.prog E w0 a2p [.nilSlc,x3] S fun v9 S10=>
 a9 (p7 x0) fun v11=>
 j9 Try.prog E w0 (.loop a0i) (n9 36 [6,25,26,27] [v9,x0,v11,(.int .i64 0)]) S10 (a0r E w0 Q))
theorem a7e{E:m7}{w0:o0}{N0:D→D→D→D→D→b7→Prop}{Q:D→b7→Prop}{x0 x3 x9 x10 x11:D}{S:b7}(h:a0p E w0 N0 Q x0 x3 x9 x10 x11 S):
  j9 Try.prog E w0 a0f (n9 36 [0,3,9,10,11] [x0,x3,x9,x10,x11]) S (A8 (fun T S=>N0 (T.getD 0 b8) (T.getD 3 b8) (T.getD 9 b8) (T.getD 10 b8) (T.getD 11 b8) S) (a0n E w0 Q)):=l8 J5 J2 J4 o7 (by kernel_rfl) h
theorem a7h{E:m7}{w0:o0}{Q:D→b7→Prop}(I:Nat→D→D→D→D→D→b7→Prop)
  (step:∀n x0 x3 x9 x10 x11 S,I n x0 x3 x9 x10 x11 S→a0p E w0 (fun x0 x3 x9 x10 x11 S=>∃m,m<n∧I m x0 x3 x9 x10 x11 S) Q x0 x3 x9 x10 x11 S)
  {n:Nat} {x0 x3 x9 x10 x11:D} {S:b7} (h:I n x0 x3 x9 x10 x11 S):j9 Try.prog E w0 (.loop a0f) (n9 36 [0,3,9,10,11] [x0,x3,x9,x10,x11]) S (a0n E w0 Q):=
 r0 (k:=36) (n:=n) (I:=fun n T S=>I n (T.getD 0 b8) (T.getD 3 b8) (T.getD 9 b8) (T.getD 10 b8) (T.getD 11 b8) S) (fun n T S hl hI=>r9 [0,3,9,10,11] hl (j9.mono (a7e (step n _ _ _ _ _ S hI)) fun ex T' S' _ hq=>by cases ex<;>exact hq)) (o3 ..) (Eq.mp (by kernel_rfl) h)
def a4S(E:m7)(w0:o0)(Q:D→b7→Prop)(a0:D)(S:b7):Prop:=
 a9 (p7 a0) fun v0=>
 j9 Try.prog E w0 (.loop a0f) (n9 36 [0,3,9,10,11] [a0,(.int .i64 0),a0,v0,(.int .i64 0)]) S (a0n E w0 Q)
theorem a8n{E:m7}{w0:o0}{Q:D→b7→Prop}{a0:D}{S:b7}(h:a4S E w0 (d9 E Q) a0 S):o5 Try.prog E w0 L3 [a0] S Q:=
 m9 J5 J2 J4 (fn:=Try.f24) (c:=Try.f24.body.getD .skip) o7 Try.func24 (by kernel_rfl) (by kernel_rfl) h
def a5l:List (Nat×List Nat):=[]
def a5h:List (Nat×List Nat):=[(4,[0,1])]
def a5r:List (Nat×X5):=[]
noncomputable def b1S:Code:=(l9 [1] (Try.f50.body.getD .skip))
def b1c(E:m7)(w0:o0)(Q:D→b7→Prop):r6→List D→b7→Prop:=
 (G8 Try.prog Try.f50 Q)
def a4D(E:m7)(w0:o0)(Q:D→b7→Prop)(x0 x1:D)(S:b7):Prop:=
 a9 (W6 x0) fun v0=>
 a9 (m6 0 v0) fun v1=>
 a9 (b9 S v1) fun v2=>
 A1 S 1 1 v2 x1 fun v3 S4=>
 a9 (W6 x0) fun v5=>
 a9 (m6 0 v5) fun v6=>
 i9 S4 1 v6 v3 fun v7 S8=>
 Q b8 S8
def U2(E:m7)(w0:o0)(Q:D→b7→Prop)(x0 x1:D)(S:b7):Prop:=j9 Try.prog E w0 b1S (n9 29 [0,1] [x0,x1]) S (b1c E w0 Q)
theorem a8o{E:m7}{w0:o0}{Q:D→b7→Prop}{x0 x1:D}{S:b7}(h:a4D E w0 Q x0 x1 S):U2 E w0 Q x0 x1 S:=l8 a5l a5h a5r o7 (by kernel_rfl) h
def a6I(E:m7)(w0:o0)(Q:D→b7→Prop)(a0 a1:D)(S:b7):Prop:=
 a9 (p7 a1) fun v9=>
 a9 (W6 a0) fun v10=>
 a9 (m6 0 v10) fun v11=>
 a9 (b9 S v11) fun v12=>
 a9 (p7 v12) fun v13=>
 a9 (d8 .sub (.int .i64 2097153) v13) fun v14=>
 a9 (d8 .gtr v9 v14) fun v15=>
 j8 v15
 (a9 (W6 a0) fun v16=>
 a9 (m6 0 v16) fun v17=>
 a9 (b9 S v17) fun v18=>
 a9 (p7 v18) fun v19=>
 a9 (d8 .sub (.int .i64 2097153) v19) fun v20=>
 b4g S 1 1 [(.int .u8 0)] v20 v20 fun v21 S22=>
 U2 E w0 Q a0 v21 S22)
 (U2 E w0 Q a0 a1 S)
theorem b0W{E:m7}{w0:o0}{Q:D→b7→Prop}{a0 a1:D}{S:b7}(h:a6I E w0 (d9 E Q) a0 a1 S):o5 Try.prog E w0 J8 [a0,a1] S Q:=
 m9 a5l a5h a5r (fn:=Try.f50) (c:=Try.f50.body.getD .skip) o7 Try.func50 (by kernel_rfl) (by kernel_rfl) h
def a9U:List (Nat×List Nat):=[]
def b0v:List (Nat×List Nat):=[]
def b0t:List (Nat×X5):=[]
def a3E(E:m7)(w0:o0)(Q:D→b7→Prop)(a0 a1:D)(S:b7):Prop:=
 a9 (I8 .u64 a1) fun v0=>
 o5 Try.prog E w0 b5m [v0] S fun v1 S2=>
 o5 Try.prog E w0 J8 [a0,v1] S2 fun v3 S4=>
 Q b8 S4
theorem a7O{E:m7}{w0:o0}{Q:D→b7→Prop}{a0 a1:D}{S:b7}(h:a3E E w0 (d9 E Q) a0 a1 S):o5 Try.prog E w0 s6 [a0,a1] S Q:=
 m9 a9U b0v b0t (fn:=Try.f49) (c:=Try.f49.body.getD .skip) o7 Try.func49 (by kernel_rfl) (by kernel_rfl) h
def a4y:List (Nat×List Nat):=[]
def a4w:List (Nat×List Nat):=[(6,[0,1])]
def a4P:List (Nat×X5):=[]
noncomputable def b1q:Code:=(l9 [1,1] (Try.f51.body.getD .skip))
def b0A(E:m7)(w0:o0)(Q:D→b7→Prop):r6→List D→b7→Prop:=
 (G8 Try.prog Try.f51 Q)
def a3G(E:m7)(w0:o0)(Q:D→b7→Prop)(x0 x1:D)(S:b7):Prop:=
 c2H S x1 fun v3 S4=>
 o5 Try.prog E w0 J8 [x0,v3] S4 fun v5 S6=>
 Q b8 S6
def a0I(E:m7)(w0:o0)(Q:D→b7→Prop)(x0 x1:D)(S:b7):Prop:=j9 Try.prog E w0 b1q (n9 17 [0,1] [x0,x1]) S (b0A E w0 Q)
theorem a7Z{E:m7}{w0:o0}{Q:D→b7→Prop}{x0 x1:D}{S:b7}(h:a3G E w0 Q x0 x1 S):a0I E w0 Q x0 x1 S:=l8 a4y a4w a4P o7 (by kernel_rfl) h
def a5j(E:m7)(w0:o0)(Q:D→b7→Prop)(a0 a1:D)(S:b7):Prop:=
 a9 (a3P a1) fun v0=>
 o5 Try.prog E w0 s6 [a0,v0] S fun v1 S2=>
 a9 (a3P a1) fun v7=>
 a9 (d8 .gtr v7 (.int .i64 2097152)) fun v8=>
 j8 v8
 (a9 (c1r a1 none (some (.int .i64 2097152))) fun v9=>
 a0I E w0 Q a0 v9 S2)
 (a0I E w0 Q a0 a1 S2)
theorem a9z{E:m7}{w0:o0}{Q:D→b7→Prop}{a0 a1:D}{S:b7}(h:a5j E w0 (d9 E Q) a0 a1 S):o5 Try.prog E w0 F7 [a0,a1] S Q:=
 m9 a4y a4w a4P (fn:=Try.f51) (c:=Try.f51.body.getD .skip) o7 Try.func51 (by kernel_rfl) (by kernel_rfl) h
def a2E:List (Nat×List Nat):=[(4,[0,10,11,12])]
def a2z:List (Nat×List Nat):=[]
def a2w:List (Nat×X5):=[]
noncomputable def W0:Code:=(l9 [1,1,0,0] (Try.f52.body.getD .skip))
def W8(E:m7)(w0:o0)(Q:D→b7→Prop):r6→List D→b7→Prop:=
 (s8 0 (G8 Try.prog Try.f52 Q))
def V0(E:m7)(w0:o0)(N0:D→D→D→D→b7→Prop)(Q:D→b7→Prop)(x0 x10 x11 x12:D)(S:b7):Prop:=
 a9 (d8 .lss x12 x11) fun v4=>
 j8 v4
 (a9 (A0 1 x10 x12) fun v5=>
 a9 (b9 S v5) fun v6=>
 o5 Try.prog E w0 s6 [x0,v6] S fun v7 S8=>
 a9 (d8 .add x12 (.int .i64 1)) fun v9=>
 N0 x0 x10 x11 v9 S8)
 (Q b8 S)
theorem a5z{E:m7}{w0:o0}{N0:D→D→D→D→b7→Prop}{Q:D→b7→Prop}{x0 x10 x11 x12:D}{S:b7}(h:V0 E w0 N0 Q x0 x10 x11 x12 S):
  j9 Try.prog E w0 W0 (n9 20 [0,10,11,12] [x0,x10,x11,x12]) S (A8 (fun T S=>N0 (T.getD 0 b8) (T.getD 10 b8) (T.getD 11 b8) (T.getD 12 b8) S) (W8 E w0 Q)):=l8 a2E a2z a2w o7 (by kernel_rfl) h
theorem a5D{E:m7}{w0:o0}{Q:D→b7→Prop}(I:Nat→D→D→D→D→b7→Prop)
  (step:∀n x0 x10 x11 x12 S,I n x0 x10 x11 x12 S→V0 E w0 (fun x0 x10 x11 x12 S=>∃m,m<n∧I m x0 x10 x11 x12 S) Q x0 x10 x11 x12 S)
  {n:Nat} {x0 x10 x11 x12:D} {S:b7} (h:I n x0 x10 x11 x12 S):j9 Try.prog E w0 (.loop W0) (n9 20 [0,10,11,12] [x0,x10,x11,x12]) S (W8 E w0 Q):=
 r0 (k:=20) (n:=n) (I:=fun n T S=>I n (T.getD 0 b8) (T.getD 10 b8) (T.getD 11 b8) (T.getD 12 b8) S) (fun n T S hl hI=>r9 [0,10,11,12] hl (j9.mono (a5z (step n _ _ _ _ S hI)) fun ex T' S' _ hq=>by cases ex<;>exact hq)) (o3 ..) (Eq.mp (by kernel_rfl) h)
def a2X(E:m7)(w0:o0)(Q:D→b7→Prop)(a0 a1:D)(S:b7):Prop:=
 a9 (p7 a1) fun v0=>
 o5 Try.prog E w0 s6 [a0,v0] S fun v1 S2=>
 a9 (p7 a1) fun v3=>
 j9 Try.prog E w0 (.loop W0) (n9 20 [0,10,11,12] [a0,a1,v3,(.int .i64 0)]) S2 (W8 E w0 Q)
theorem a7f{E:m7}{w0:o0}{Q:D→b7→Prop}{a0 a1:D}{S:b7}(h:a2X E w0 (d9 E Q) a0 a1 S):o5 Try.prog E w0 N7 [a0,a1] S Q:=
 m9 a2E a2z a2w (fn:=Try.f52) (c:=Try.f52.body.getD .skip) o7 Try.func52 (by kernel_rfl) (by kernel_rfl) h
def E8:List (Nat×List Nat):=[(8,[1,3,19,20,21]),(22,[1,3,19,20,21,43,44,45]),(44,[1,3,76,77,78]),(56,[3,92,93,94])]
def E9:List (Nat×List Nat):=[]
def E7:List (Nat×X5):=[]
noncomputable def a6A:Code:=(l9 [1,1,1,0,1,0,0,1,1,0,0,1,1,0,1,0,1,1,0,1,0,0] (Try.f23.body.getD .skip))
def a6D(E:m7)(w0:o0)(N0:D→D→D→D→D→b7→Prop)(Q:D→b7→Prop):r6→List D→b7→Prop:=
 (s8 2 (G7 Try.prog E w0 E8 E9 E7 (l9 [1,1,1,0,1,0,0,1,1,0,0,1,1,0,1,0,1,1,1] (Try.f23.body.getD .skip)) (G7 Try.prog E w0 E8 E9 E7 (l9 [1,1,1,0,1,0,0,1,1,0,0,1,1,1] (Try.f23.body.getD .skip)) (s8 1 (G7 Try.prog E w0 E8 E9 E7 (l9 [1,1,1,0,1,0,0,1,1,1] (Try.f23.body.getD .skip)) (A8 (fun T S=>N0 (T.getD 1 b8) (T.getD 3 b8) (T.getD 19 b8) (T.getD 20 b8) (T.getD 21 b8) S) (s8 0 (G7 Try.prog E w0 E8 E9 E7 (l9 [1,1,1,1] (Try.f23.body.getD .skip)) (G8 Try.prog Try.f23 Q)))))))))
def a5Z(E:m7)(w0:o0)(N0:D→D→D→D→D→b7→Prop)(N1:D→D→D→D→D→D→D→D→b7→Prop)(Q:D→b7→Prop)(x1 x3 x19 x20 x21 x43 x44 x45:D)(S:b7):Prop:=
 a9 (d8 .lss x45 x44) fun v40=>
 j8 v40
 (a9 (A0 2 x43 x45) fun v41=>
 a9 (j0 S 2 v41) fun v42=>
 o6 S [(.str []),(.int .i64 0)] fun v43 S44=>
 i9 S44 2 v43 v42 fun v45 S46=>
 a9 (m6 0 v43) fun v47=>
 a9 (b9 S46 v47) fun v48=>
 o5 Try.prog E w0 F7 [x3,v48] S46 fun v49 S50=>
 a9 (m6 1 v43) fun v51=>
 a9 (b9 S50 v51) fun v52=>
 o5 Try.prog E w0 s6 [x3,v52] S50 fun v53 S54=>
 a9 (d8 .add x45 (.int .i64 1)) fun v55=>
 N1 x1 x3 x19 x20 x21 x43 x44 v55 S54)
 (a9 (d8 .add x21 (.int .i64 1)) fun v56=>
 N0 x1 x3 x19 x20 v56 S)
theorem b5X{E:m7}{w0:o0}{N0:D→D→D→D→D→b7→Prop}{N1:D→D→D→D→D→D→D→D→b7→Prop}{Q:D→b7→Prop}{x1 x3 x19 x20 x21 x43 x44 x45:D}{S:b7}(h:a5Z E w0 N0 N1 Q x1 x3 x19 x20 x21 x43 x44 x45 S):
  j9 Try.prog E w0 a6A (n9 128 [1,3,19,20,21,43,44,45] [x1,x3,x19,x20,x21,x43,x44,x45]) S (A8 (fun T S=>N1 (T.getD 1 b8) (T.getD 3 b8) (T.getD 19 b8) (T.getD 20 b8) (T.getD 21 b8) (T.getD 43 b8) (T.getD 44 b8) (T.getD 45 b8) S) (a6D E w0 N0 Q)):=l8 E8 E9 E7 o7 (by kernel_rfl) h
theorem b5v{E:m7}{w0:o0}{N0:D→D→D→D→D→b7→Prop}{Q:D→b7→Prop}(I:Nat→D→D→D→D→D→D→D→D→b7→Prop)
  (step:∀n x1 x3 x19 x20 x21 x43 x44 x45 S,I n x1 x3 x19 x20 x21 x43 x44 x45 S→a5Z E w0 N0 (fun x1 x3 x19 x20 x21 x43 x44 x45 S=>∃m,m<n∧I m x1 x3 x19 x20 x21 x43 x44 x45 S) Q x1 x3 x19 x20 x21 x43 x44 x45 S)
  {n:Nat} {x1 x3 x19 x20 x21 x43 x44 x45:D} {S:b7} (h:I n x1 x3 x19 x20 x21 x43 x44 x45 S):j9 Try.prog E w0 (.loop a6A) (n9 128 [1,3,19,20,21,43,44,45] [x1,x3,x19,x20,x21,x43,x44,x45]) S (a6D E w0 N0 Q):=
 r0 (k:=128) (n:=n) (I:=fun n T S=>I n (T.getD 1 b8) (T.getD 3 b8) (T.getD 19 b8) (T.getD 20 b8) (T.getD 21 b8) (T.getD 43 b8) (T.getD 44 b8) (T.getD 45 b8) S) (fun n T S hl hI=>r9 [1,3,19,20,21,43,44,45] hl (j9.mono (b5X (step n _ _ _ _ _ _ _ _ S hI)) fun ex T' S' _ hq=>by cases ex<;>exact hq)) (o3 ..) (Eq.mp (by kernel_rfl) h)
noncomputable def a6k:Code:=(l9 [1,1,1,1,1,1,1,0,1,0,0] (Try.f23.body.getD .skip))
def a6v(E:m7)(w0:o0)(Q:D→b7→Prop):r6→List D→b7→Prop:=
 (s8 6 (G7 Try.prog E w0 E8 E9 E7 (l9 [1,1,1,1,1,1,1,1] (Try.f23.body.getD .skip)) (G8 Try.prog Try.f23 Q)))
def a6f(E:m7)(w0:o0)(N3:D→D→D→D→b7→Prop)(Q:D→b7→Prop)(x3 x92 x93 x94:D)(S:b7):Prop:=
 a9 (d8 .lss x94 x93) fun v92=>
 j8 v92
 (a9 (A0 6 x92 x94) fun v93=>
 a9 (j0 S 6 v93) fun v94=>
 o6 S [(.str []), .nilSlc, .nilSlc,(.int .i64 0),(.int .i64 0), .nilSlc] fun v95 S96=>
 i9 S96 6 v95 v94 fun v97 S98=>
 a9 (m6 0 v95) fun v99=>
 a9 (b9 S98 v99) fun v100=>
 o5 Try.prog E w0 F7 [x3,v100] S98 fun v101 S102=>
 a9 (m6 1 v95) fun v103=>
 a9 (b9 S102 v103) fun v104=>
 o5 Try.prog E w0 N7 [x3,v104] S102 fun v105 S106=>
 a9 (m6 2 v95) fun v107=>
 a9 (b9 S106 v107) fun v108=>
 o5 Try.prog E w0 N7 [x3,v108] S106 fun v109 S110=>
 a9 (m6 3 v95) fun v111=>
 a9 (b9 S110 v111) fun v112=>
 o5 Try.prog E w0 s6 [x3,v112] S110 fun v113 S114=>
 a9 (m6 4 v95) fun v115=>
 a9 (b9 S114 v115) fun v116=>
 o5 Try.prog E w0 s6 [x3,v116] S114 fun v117 S118=>
 a9 (m6 5 v95) fun v119=>
 a9 (b9 S118 v119) fun v120=>
 a9 (b0x S118 v120) fun v121=>
 o5 Try.prog E w0 F7 [x3,v121] S118 fun v122 S123=>
 a9 (d8 .add x94 (.int .i64 1)) fun v124=>
 N3 x3 x92 x93 v124 S123)
 (a9 (W6 x3) fun v125=>
 a9 (m6 0 v125) fun v126=>
 a9 (b9 S v126) fun v127=>
 Q v127 S)
theorem b6a{E:m7}{w0:o0}{N3:D→D→D→D→b7→Prop}{Q:D→b7→Prop}{x3 x92 x93 x94:D}{S:b7}(h:a6f E w0 N3 Q x3 x92 x93 x94 S):
  j9 Try.prog E w0 a6k (n9 128 [3,92,93,94] [x3,x92,x93,x94]) S (A8 (fun T S=>N3 (T.getD 3 b8) (T.getD 92 b8) (T.getD 93 b8) (T.getD 94 b8) S) (a6v E w0 Q)):=l8 E8 E9 E7 o7 (by kernel_rfl) h
theorem b5W{E:m7}{w0:o0}{Q:D→b7→Prop}(I:Nat→D→D→D→D→b7→Prop)
  (step:∀n x3 x92 x93 x94 S,I n x3 x92 x93 x94 S→a6f E w0 (fun x3 x92 x93 x94 S=>∃m,m<n∧I m x3 x92 x93 x94 S) Q x3 x92 x93 x94 S)
  {n:Nat} {x3 x92 x93 x94:D} {S:b7} (h:I n x3 x92 x93 x94 S):j9 Try.prog E w0 (.loop a6k) (n9 128 [3,92,93,94] [x3,x92,x93,x94]) S (a6v E w0 Q):=
 r0 (k:=128) (n:=n) (I:=fun n T S=>I n (T.getD 3 b8) (T.getD 92 b8) (T.getD 93 b8) (T.getD 94 b8) S) (fun n T S hl hI=>r9 [3,92,93,94] hl (j9.mono (b6a (step n _ _ _ _ S hI)) fun ex T' S' _ hq=>by cases ex<;>exact hq)) (o3 ..) (Eq.mp (by kernel_rfl) h)
noncomputable def a6P:Code:=(l9 [1,1,1,1,1,0,1,0,0] (Try.f23.body.getD .skip))
def a6E(E:m7)(w0:o0)(Q:D→b7→Prop):r6→List D→b7→Prop:=
 (s8 4 (G7 Try.prog E w0 E8 E9 E7 (l9 [1,1,1,1,1,1] (Try.f23.body.getD .skip)) (G8 Try.prog Try.f23 Q)))
def a6d(E:m7)(w0:o0)(N2:D→D→D→D→D→b7→Prop)(Q:D→b7→Prop)(x1 x3 x76 x77 x78:D)(S:b7):Prop:=
 a9 (d8 .lss x78 x77) fun v78=>
 j8 v78
 (a9 (A0 1 x76 x78) fun v79=>
 a9 (b9 S v79) fun v80=>
 o5 Try.prog E w0 F7 [x3,v80] S fun v81 S82=>
 a9 (d8 .add x78 (.int .i64 1)) fun v83=>
 N2 x1 x3 x76 x77 v83 S82)
 (a9 (m6 2 x1) fun v84=>
 a9 (b9 S v84) fun v85=>
 a9 (p7 v85) fun v86=>
 o5 Try.prog E w0 s6 [x3,v86] S fun v87 S88=>
 a9 (m6 2 x1) fun v89=>
 a9 (b9 S88 v89) fun v90=>
 a9 (p7 v90) fun v91=>
 j9 Try.prog E w0 (.loop a6k) (n9 128 [3,92,93,94] [x3,v90,v91,(.int .i64 0)]) S88 (a6v E w0 Q))
theorem b6v{E:m7}{w0:o0}{N2:D→D→D→D→D→b7→Prop}{Q:D→b7→Prop}{x1 x3 x76 x77 x78:D}{S:b7}(h:a6d E w0 N2 Q x1 x3 x76 x77 x78 S):
  j9 Try.prog E w0 a6P (n9 128 [1,3,76,77,78] [x1,x3,x76,x77,x78]) S (A8 (fun T S=>N2 (T.getD 1 b8) (T.getD 3 b8) (T.getD 76 b8) (T.getD 77 b8) (T.getD 78 b8) S) (a6E E w0 Q)):=l8 E8 E9 E7 o7 (by kernel_rfl) h
theorem b5D{E:m7}{w0:o0}{Q:D→b7→Prop}(I:Nat→D→D→D→D→D→b7→Prop)
  (step:∀n x1 x3 x76 x77 x78 S,I n x1 x3 x76 x77 x78 S→a6d E w0 (fun x1 x3 x76 x77 x78 S=>∃m,m<n∧I m x1 x3 x76 x77 x78 S) Q x1 x3 x76 x77 x78 S)
  {n:Nat} {x1 x3 x76 x77 x78:D} {S:b7} (h:I n x1 x3 x76 x77 x78 S):j9 Try.prog E w0 (.loop a6P) (n9 128 [1,3,76,77,78] [x1,x3,x76,x77,x78]) S (a6E E w0 Q):=
 r0 (k:=128) (n:=n) (I:=fun n T S=>I n (T.getD 1 b8) (T.getD 3 b8) (T.getD 76 b8) (T.getD 77 b8) (T.getD 78 b8) S) (fun n T S hl hI=>r9 [1,3,76,77,78] hl (j9.mono (b6v (step n _ _ _ _ _ S hI)) fun ex T' S' _ hq=>by cases ex<;>exact hq)) (o3 ..) (Eq.mp (by kernel_rfl) h)
noncomputable def a5T:Code:=(l9 [1,1,1,0,1,0,0] (Try.f23.body.getD .skip))
def a6i(E:m7)(w0:o0)(Q:D→b7→Prop):r6→List D→b7→Prop:=
 (s8 0 (G7 Try.prog E w0 E8 E9 E7 (l9 [1,1,1,1] (Try.f23.body.getD .skip)) (G8 Try.prog Try.f23 Q)))
def a6l(E:m7)(w0:o0)(N0:D→D→D→D→D→b7→Prop)(Q:D→b7→Prop)(x1 x3 x19 x20 x21:D)(S:b7):Prop:=
 a9 (d8 .lss x21 x20) fun v12=>
 j8 v12
 (a9 (A0 5 x19 x21) fun v13=>
 a9 (j0 S 5 v13) fun v14=>
 o6 S [(.int .u8 0),(.str []), .nilSlc,(.int .i64 0),(.int .i64 0)] fun v15 S16=>
 i9 S16 5 v15 v14 fun v17 S18=>
 a9 (m6 0 v15) fun v19=>
 a9 (b9 S18 v19) fun v20=>
 u6 S18 1 (q9 1 (List.replicate 1 [(.int .u8 0)]) [(0,v20)]) 1 fun v21 S22=>
 o5 Try.prog E w0 J8 [x3,v21] S22 fun v23 S24=>
 a9 (m6 0 v15) fun v25=>
 a9 (b9 S24 v25) fun v26=>
 a9 (d8 .eql v26 (.int .u8 6)) fun v27=>
 j8 v27
 (a9 (m6 1 v15) fun v28=>
 a9 (b9 S24 v28) fun v29=>
 o5 Try.prog E w0 F7 [x3,v29] S24 fun v30 S31=>
 a9 (m6 2 v15) fun v32=>
 a9 (b9 S31 v32) fun v33=>
 a9 (p7 v33) fun v34=>
 o5 Try.prog E w0 s6 [x3,v34] S31 fun v35 S36=>
 a9 (m6 2 v15) fun v37=>
 a9 (b9 S36 v37) fun v38=>
 a9 (p7 v38) fun v39=>
 j9 Try.prog E w0 (.loop a6A) (n9 128 [1,3,19,20,21,43,44,45] [x1,x3,x19,x20,x21,v38,v39,(.int .i64 0)]) S36 (a6D E w0 N0 Q))
 (a9 (m6 3 v15) fun v57=>
 a9 (b9 S24 v57) fun v58=>
 o5 Try.prog E w0 s6 [x3,v58] S24 fun v59 S60=>
 a9 (m6 0 v15) fun v61=>
 a9 (b9 S60 v61) fun v62=>
 a9 (d8 .eql v62 (.int .u8 7)) fun v63=>
 j8 v63
 (a9 (m6 4 v15) fun v64=>
 a9 (b9 S60 v64) fun v65=>
 o5 Try.prog E w0 s6 [x3,v65] S60 fun v66 S67=>
 a9 (d8 .add x21 (.int .i64 1)) fun v68=>
 N0 x1 x3 x19 x20 v68 S67)
 (a9 (d8 .add x21 (.int .i64 1)) fun v69=>
 N0 x1 x3 x19 x20 v69 S60)))
 (a9 (m6 1 x1) fun v70=>
 a9 (b9 S v70) fun v71=>
 a9 (p7 v71) fun v72=>
 o5 Try.prog E w0 s6 [x3,v72] S fun v73 S74=>
 a9 (m6 1 x1) fun v75=>
 a9 (b9 S74 v75) fun v76=>
 a9 (p7 v76) fun v77=>
 j9 Try.prog E w0 (.loop a6P) (n9 128 [1,3,76,77,78] [x1,x3,v76,v77,(.int .i64 0)]) S74 (a6E E w0 Q))
theorem b5F{E:m7}{w0:o0}{N0:D→D→D→D→D→b7→Prop}{Q:D→b7→Prop}{x1 x3 x19 x20 x21:D}{S:b7}(h:a6l E w0 N0 Q x1 x3 x19 x20 x21 S):
  j9 Try.prog E w0 a5T (n9 128 [1,3,19,20,21] [x1,x3,x19,x20,x21]) S (A8 (fun T S=>N0 (T.getD 1 b8) (T.getD 3 b8) (T.getD 19 b8) (T.getD 20 b8) (T.getD 21 b8) S) (a6i E w0 Q)):=l8 E8 E9 E7 o7 (by kernel_rfl) h
theorem b6q{E:m7}{w0:o0}{Q:D→b7→Prop}(I:Nat→D→D→D→D→D→b7→Prop)
  (step:∀n x1 x3 x19 x20 x21 S,I n x1 x3 x19 x20 x21 S→a6l E w0 (fun x1 x3 x19 x20 x21 S=>∃m,m<n∧I m x1 x3 x19 x20 x21 S) Q x1 x3 x19 x20 x21 S)
  {n:Nat} {x1 x3 x19 x20 x21:D} {S:b7} (h:I n x1 x3 x19 x20 x21 S):j9 Try.prog E w0 (.loop a5T) (n9 128 [1,3,19,20,21] [x1,x3,x19,x20,x21]) S (a6i E w0 Q):=
 r0 (k:=128) (n:=n) (I:=fun n T S=>I n (T.getD 1 b8) (T.getD 3 b8) (T.getD 19 b8) (T.getD 20 b8) (T.getD 21 b8) S) (fun n T S hl hI=>r9 [1,3,19,20,21] hl (j9.mono (b5F (step n _ _ _ _ _ S hI)) fun ex T' S' _ hq=>by cases ex<;>exact hq)) (o3 ..) (Eq.mp (by kernel_rfl) h)
def b6R(E:m7)(w0:o0)(Q:D→b7→Prop)(a0:D)(S:b7):Prop:=
 a9 (r4 a0) fun cs=>o6 S cs fun v0 S1=>
 o6 S1 [.nilSlc] fun v2 S3=>
 a9 (m6 0 v0) fun v4=>
 a9 (b9 S3 v4) fun v5=>
 a9 (p7 v5) fun v6=>
 o5 Try.prog E w0 s6 [v2,v6] S3 fun v7 S8=>
 a9 (m6 0 v0) fun v9=>
 a9 (b9 S8 v9) fun v10=>
 a9 (p7 v10) fun v11=>
 j9 Try.prog E w0 (.loop a5T) (n9 128 [1,3,19,20,21] [v0,v2,v10,v11,(.int .i64 0)]) S8 (a6i E w0 Q)
theorem b9k{E:m7}{w0:o0}{Q:D→b7→Prop}{a0:D}{S:b7}(h:b6R E w0 (d9 E Q) a0 S):o5 Try.prog E w0 b0h [a0] S Q:=
 m9 E8 E9 E7 (fn:=Try.f23) (c:=Try.f23.body.getD .skip) o7 Try.func23 (by kernel_rfl) (by kernel_rfl) h
def b9r:List (Nat×List Nat):=[]
def b9M:List (Nat×List Nat):=[]
def b9Z:List (Nat×X5):=[]
def b2l(E:m7)(w0:o0)(Q:D→b7→Prop)(a0:D)(S:b7):Prop:=
 a9 (r4 a0) fun cs=>o6 S cs fun v0 S1=>
 a9 (j0 S1 3 v0) fun v2=>
 o5 Try.prog E w0 R8 [v2] S1 fun v3 S4=>
 a9 (d8 .neq v3 (.int .i64 0)) fun v5=>
 j8 v5
 (Q (.tup [.nilSlc,v3]) S4)
 (a9 (j0 S4 3 v0) fun v6=>
 o5 Try.prog E w0 b0h [v6] S4 fun v7 S8=>
 a9 (p7 v7) fun v9=>
 a9 (d8 .gtr v9 (.int .i64 2097140)) fun v10=>
 j8 v10
 (Q (.tup [.nilSlc,(.int .i64 3)]) S8)
 (u6 S8 1 (q9 1 (List.replicate 4 [(.int .u8 0)]) [(0,(.int .u8 84)),(1,(.int .u8 82)),(2,(.int .u8 77)),(3,(.int .u8 1))]) 4 fun v11 S12=>
 c3v S12 v11 fun v13 S14=>
 a9 (p7 v7) fun v15=>
 a9 (I8 .u64 v15) fun v16=>
 o5 Try.prog E w0 a1z [v16,(.int .i64 4)] S14 fun v17 S18=>
 o5 Try.prog E w0 a9A [v7] S18 fun v19 S20=>
 a9 (I8 .u64 v19) fun v21=>
 o5 Try.prog E w0 a1z [v21,(.int .i64 4)] S20 fun v22 S23=>
 u6 S23 1 (q9 1 (List.replicate 4 [.nilSlc]) [(0,v13),(1,v17),(2,v7),(3,v22)]) 4 fun v24 S25=>
 o5 Try.prog E w0 L3 [v24] S25 fun v26 S27=>
 Q (.tup [v26,(.int .i64 0)]) S27))
theorem b5E{E:m7}{w0:o0}{Q:D→b7→Prop}{a0:D}{S:b7}(h:b2l E w0 (d9 E Q) a0 S):o5 Try.prog E w0 Y1 [a0] S Q:=
 m9 b9r b9M b9Z (fn:=Try.f11) (c:=Try.f11.body.getD .skip) o7 Try.func11 (by kernel_rfl) (by kernel_rfl) h
def c2h:List (Nat×List Nat):=[]
def c2z:List (Nat×List Nat):=[]
def c1M:List (Nat×X5):=[]
def b4p(E:m7)(w0:o0)(Q:D→b7→Prop)(a0:D)(S:b7):Prop:=
 a9 (r4 a0) fun cs=>o6 S cs fun v0 S1=>
 a9 (j0 S1 3 v0) fun v2=>
 o5 Try.prog E w0 Y1 [v2] S1 fun v3 S4=>
 a9 (o9 v3 0) fun v5=>
 a9 (o9 v3 1) fun v6=>
 Q v6 S4
theorem b7L{E:m7}{w0:o0}{Q:D→b7→Prop}{a0:D}{S:b7}(h:b4p E w0 (d9 E Q) a0 S):o5 Try.prog E w0 a4m [a0] S Q:=
 m9 c2h c2z c1M (fn:=Try.f17) (c:=Try.f17.body.getD .skip) o7 Try.func17 (by kernel_rfl) (by kernel_rfl) h
end Go.Proofs.Ytchnpgddpaonhaa.d
end
section
open Go.Proofs Go Go.Am Go.Op
namespace Go.Proofs.Ytchnpgddpaonhaa.d
def b1P:Nat→Nat→List Int
 |0,n=>[(n:Int)]
 |f+1,n=>if n<128 then[(n:Int)]else((n % 128+128:Nat):Int)::b1P f (n / 128)
def d2w(n:Nat):List Int:=b1P 9 n
def Z1(n:Int):List Int:=d2w (n % 18446744073709551616).toNat
def d5T(a b:Int):Int:=IntKind.u32.wrap (BitVec.ofInt IntKind.u32.bits a &&& BitVec.ofInt IntKind.u32.bits b).toNat
def d4N(a b:Int):Int:=IntKind.u32.wrap (BitVec.ofInt IntKind.u32.bits a ^^^ BitVec.ofInt IntKind.u32.bits b).toNat
def d5I(s:Int):Int:=d4N (s.fdiv (2^(min (1:Int).toNat IntKind.u32.bits))) (d5T 3988292384 (IntKind.u32.wrap (0 - d5T s 1)))
def c5s(s b:Int):Int:=Nat.repeat d5I 8 (d4N s (IntKind.u32.wrap b))
def a5A(bs:List Int):Int:=IntKind.u32.wrap (BitVec.ofInt IntKind.u32.bits IntKind.u32.max ^^^ BitVec.ofInt IntKind.u32.bits (bs.foldl c5s 4294967295)).toNat
def GrZ(S0:b7)(t:D)(rows:List (List D))(sz:Nat)(S:b7):Prop:=Grw S0 t rows sz S∨(rows=[]∧∃k cap ex zr acs,S0 k=none∧t= .raw k 0 0 cap ex sz∧S=S0.set k ⟨sz,zr,acs⟩)
section
variable{S0 S:b7}{t:D}{rows:List (List D)}{sz:Nat}
theorem GrZ.push(h:GrZ S0 t rows sz S){bytes:Nat}{v:D}{news:List (List D)}(hv:rowsS S sz v=some news)(hn:news≠[])(hb:0<bytes∧(2*(rows.length+news.length)+768)*bytes≤2^47){K:D→b7→Prop}(hK:∀t' S',Grw S0 t' (rows++news) sz S'→K t' S'):A1 S sz bytes t v K:=by
 rcases h with h|⟨rfl,k,cap,ex,zr,acs,h0,rfl,rfl⟩
 ·exact h.push hv hb hK
 ·simp only[A1,hv,a5m]
  rw[if_neg hn,b7.set_same]
  simp only
  rw[if_pos ⟨by trivial,by trivial,by omega⟩]
  refine⟨by simpa using hb, .inr fun k' acs' hk'=> ?_⟩
  rw[b7.erase_set _ _ _ h0]at hk' ⊢
  refine hK _ _ (.inr ⟨k',acs',hk', ?_, ?_⟩)<;>simp
theorem GrZ.last(h:GrZ S0 t rows sz S){bytes:Nat}{v:D}{news:List (List D)}(hv:rowsS S sz v=some news)(hn:news≠[])(hb:0<bytes∧(2*(rows.length+news.length)+768)*bytes≤2^47){K:D→b7→Prop}(hK:K (.lst (rows++news) sz) S0):A1 S sz bytes t v K:=by
 rcases h with h|⟨rfl,k,cap,ex,zr,acs,h0,rfl,rfl⟩
 ·exact h.last hv hn hb hK
 ·simp only[A1,hv,a5m]
  rw[if_neg hn,b7.set_same]
  simp only
  rw[if_pos ⟨by trivial,by trivial,by omega⟩]
  refine⟨by simpa using hb, .inl ?_⟩
  rw[b7.erase_set _ _ _ h0,List.take_of_length_le (by simp)]
  simpa using hK
end
section
variable{E:m7}{w0:o0}
theorem d5t(n:Nat):d8 .or (.int .u8 (IntKind.u8.wrap (n:Int))) (.int .u8 128)=some (.int .u8 ((n % 128+128:Nat):Int)):=by
 rw[d5p,b5Y,b5Y]
 have h8:IntKind.u8.bits=8:=rfl
 rw[h8]
 have e1:((n:Int) % 256)=((n % 256:Nat):Int):=by omega
 rw[e1]
 have e2:(BitVec.ofInt 8 ((n % 256:Nat):Int) ||| BitVec.ofInt 8 128).toNat=n % 128+128:=by
  rw[BitVec.toNat_or,a4B]
  have:(BitVec.ofInt 8 128).toNat=128:=rfl
  rw[this]
  have h:=c8Y (a:=n % 128) (b:=1) (i:=7) (by omega)
  have:n % 256 % 2^8=n % 256:=by omega
  rw[this]
  rcases Nat.lt_or_ge (n % 256) 128 with hl|hl
  ·rw[show n % 256=n % 128 by omega];simpa using h
  ·have e3:n % 256=n % 128+128:=by omega
   have h':n % 128+128=n % 128 ||| 128:=by simpa using h.symm
   rw[e3,h',Nat.or_assoc,Nat.or_self]
 rw[e2]
 congr 1
 congr 1
 omega
theorem c6q{n0:Nat}(hn:n0<2^64):X6 Try.prog E w0 b5m [.int .u64 (n0:Int)] (bD (d2w n0)):=fun S=>by
 refine c3l ?_
 unfold c1Q
 simp only[b4g]
 rw[if_pos (by decide)]
 refine .inr fun k acs hk=> ?_
 refine b9x (I:=fun m x0 x3 T=>∃(f n:Nat) (acc:List Int),f=m∧x0= .int .u64 (n:Int)∧n<2^(7*f+1)∧n<2^64∧f≤9∧acc.length+f=9∧GrZ S x3 (B0 (acc.map (D.int .u8))) 1 T∧acc++b1P f n=b1P 9 n0) ?_ (n:=9)
  ⟨9,n0,[],rfl,rfl,hn,hn,by omega,by simp, .inr ⟨rfl,k,10,true,_,acs,hk,rfl,rfl⟩,rfl⟩
 rintro m0 _ x3 T ⟨f,n,acc,rfl,rfl,hnf,hn64,hf9,hacc,hg,hput⟩
 unfold b0o
 rw[b3b,oD,J6]
 refine⟨fun hge=> ?_,fun hlt=> ?_⟩
 ·have hge:128≤n:=by omega
  obtain⟨f,rfl⟩:∃f',f=f'+1:=⟨f - 1,by
   rcases f with _|f
   ·simp at hnf;omega
   ·rfl⟩
  rw[b1P,if_neg (by omega)]at hput
  rw[cvI,oD,d5t,oD,show q9 1 (List.replicate 1 [D.int .u8 0]) [(0, .int .u8 ((n % 128+128:Nat):Int))]=some (B0 [D.int .u8 ((n % 128+128:Nat):Int)]) from rfl]
  refine P8 rfl ?_
  refine hg.push (news:=B0 [D.int .u8 ((n % 128+128:Nat):Int)]) rfl (by simp[B0]) (by simp;omega) fun t' T' hg'=> ?_
  rw[d2K _ _ _ _ (by omega),oD]
  have e:((n:Int).fdiv (2^(min (7:Int).toNat IntKind.u64.bits)))=((n / 128:Nat):Int):=by
   rw[show min (7:Int).toNat IntKind.u64.bits=7 from rfl,Int.fdiv_eq_ediv_of_nonneg _ (by decide)]
   omega
  rw[e]
  refine⟨f,by omega,f,n / 128,acc++[((n % 128+128:Nat):Int)],rfl,rfl, ?_,by omega,by omega,by simp;omega, .inl ?_,by rw[←hput];simp⟩
  ·have:2^(7*(f+1)+1)=2^(7*f+1)*128:=by rw[show 7*(f+1)+1=(7*f+1)+7 by omega,Nat.pow_add]
   omega
  ·have:B0 ((acc++[((n % 128+128:Nat):Int)]).map (D.int .u8))=B0 (acc.map (D.int .u8))++B0 [D.int .u8 ((n % 128+128:Nat):Int)]:=by rw[List.map_append,a2F];rfl
   rw[this];exact hg'
 ·have hlt:n<128:=by omega
  have hpn:b1P f n=[(n:Int)]:=by
   cases f with
   |zero=>rfl
   |succ f=>rw[b1P,if_pos hlt]
  rw[hpn]at hput
  have hw:IntKind.u8.wrap (n:Int)=n:=by rw[b5Y];omega
  rw[cvI,oD,hw,show q9 1 (List.replicate 1 [D.int .u8 0]) [(0, .int .u8 (n:Int))]=some (B0 [D.int .u8 (n:Int)]) from rfl]
  refine P8 rfl ?_
  refine hg.last (news:=B0 [D.int .u8 (n:Int)]) rfl (by simp[B0]) (by simp;omega) ?_
  have:(.lst (B0 (acc.map (D.int .u8))++B0 [D.int .u8 (n:Int)]) 1:D)=bD (d2w n0):=by
   unfold bD d2w
   rw[←hput,List.map_append,a2F];rfl
  rw[this]
  exact d9.pure
theorem b8E{bs:List Int}(hl:bs.length<2^60):X6 Try.prog E w0 a9A [bD bs] (.int .u32 (a5A bs)):=fun S=>by
 refine c2O ?_
 unfold c2v
 rw[M6,oD]
 refine b9I (I:=fun n x3 x6 x7 x8 T=>S=T∧x6=bD bs∧x7= .int .i64 (bs.length:Int)∧∃i:Nat,x8= .int .i64 (i:Int)∧i+n=bs.length∧x3= .int .u32 ((bs.take i).foldl c5s 4294967295)) ?_ (n:=bs.length)
  ⟨rfl,rfl,rfl,0,rfl,by omega,rfl⟩
 rintro n _ _ _ _ _ ⟨rfl,rfl,rfl,i,rfl,hi,rfl⟩
 unfold a9n
 rw[J0,oD,J6]
 refine⟨fun hlt=> ?_,fun hge=> ?_⟩
 ·have hlt:i<bs.length:=by omega
  rw[b8C (List.getElem?_eq_getElem hlt),oD,lsE,List.getElem?_cons_zero,oD,cvI,oD,d3Y,oD]
  refine b9G (I:=fun m x3 x6 x7 x8 x16 T=>S=T∧x6=bD bs∧x7= .int .i64 (bs.length:Int)∧x8= .int .i64 (i:Int)∧∃j:Nat,x16= .int .i64 (j:Int)∧j+m=8∧x3= .int .u32 (Nat.repeat d5I j (d4N ((bs.take i).foldl c5s 4294967295) (IntKind.u32.wrap bs[i])))) ?_ (n:=8)
   ⟨rfl,rfl,rfl,rfl,0,rfl,rfl,rfl⟩
  rintro m _ _ _ _ _ _ ⟨rfl,rfl,rfl,rfl,j,rfl,hj,rfl⟩
  unfold a9v
  rw[J0,oD,J6]
  refine⟨fun hjl=> ?_,fun hjg=> ?_⟩
  ·rw[d2K _ _ _ _ (by decide),oD,c3U,oD,unM,oD,c3U,oD,d3Y,oD,C4,oD,m8 (by omega) (by omega)]
   exact⟨m - 1,by omega,rfl,rfl,rfl,rfl,j+1,rfl,by omega,rfl⟩
  ·have hj8:j=8:=by omega
   subst hj8
   rw[C4,oD,m8 (by omega) (by omega)]
   refine⟨n - 1,by omega,rfl,rfl,rfl,i+1,rfl,by omega, ?_⟩
   rw[List.take_add_one,List.getElem?_eq_getElem hlt,List.foldl_append]
   rfl
 ·have hi:i=bs.length:=by omega
  subst hi
  rw[List.take_length]
  have e:unD .xor (.int .u32 (bs.foldl c5s 4294967295))=some (.int .u32 (a5A bs)):=rfl
  rw[e,oD]
  exact d9.pure
theorem d3h{n:Nat}(hn:n<2^40){S:b7}:o5 Try.prog E w0 a2p [.nilSlc, .int .i64 (n:Int)] S fun v S'=>GrZ S v [] 1 S':=by
 refine b1n ?_
 unfold a6u
 rw[J0,oD,decide_eq_false (by omega),cdF]
 rw[show c6u .nilSlc=some (.int .i64 0) from rfl,oD,lnN,oD,b0O,oD,m8 (by omega) (by omega),b0O,oD,m8 (by omega) (by omega),a3U,oD,J6]
 refine⟨fun h=> ?_,fun h=>d9.here (.inl (Grw.nil _ _))⟩
 rw[oD,show X7 1 .nilSlc none (some (.int .i64 0)) none=some .nilSlc from rfl,oD]
 have e:((n:Int) - (0 - 0))=(n:Int):=by omega
 rw[e]at h ⊢
 simp only[b2M]
 rw[if_pos ⟨m8 (by omega) (by omega),by omega,by omega⟩]
 simp only[a5m]
 have hr:List.replicate ((n:Int)).toNat [D.int .u8 0]≠[]:=by rw[Int.toNat_natCast];intro h';have:=congrArg List.length h';simp at this;omega
 rw[if_neg hr]
 refine⟨⟨by decide,by simp;omega⟩, .inr fun k acs hk=> ?_⟩
 have:X7 1 (.raw k 0 (List.replicate ((n:Int)).toNat [D.int .u8 0]).length (List.replicate ((n:Int)).toNat [D.int .u8 0]).length false 1) none (some (.int .i64 0)) none=some (.raw k 0 0 (List.replicate ((n:Int)).toNat [D.int .u8 0]).length false 1):=by
  have hb:E3 (.int .i64 0) (List.replicate ((n:Int)).toNat [D.int .u8 0]).length=some 0:=by simp[E3]
  simp only[X7,N4,c4G,b2e,b9j,if_true,Option.bind_some,hb,Option.map_some]
  rfl
 show a9 (some _) _
 rw[oD,this,oD]
 exact d9.here (.inr ⟨rfl,k,_,_,_,acs,hk,rfl,rfl⟩)
def b2D(l:List (List Int)):D:= .lst (l.map fun b=>[bD b]) 1
theorem c3Q{l:List (List Int)}{i:Nat}{b:List Int}(h:l[i]? =some b):A0 1 (b2D l) (.int .i64 (i:Int))=some (.elt [bD b] 0):=b5P (by rw[List.getElem?_map,h];rfl)
theorem b7g{l:List (List Int)}{i:Nat}(hi:i<l.length):(l.take (i+1)).flatten=(l.take i).flatten++l[i]:=by
 rw[List.take_add_one,List.getElem?_eq_getElem hi,List.flatten_append];simp
theorem c0r{l:List (List Int)}(i:Nat):(l.take i).flatten.length≤l.flatten.length:=by
 have:l.flatten=(l.take i).flatten++(l.drop i).flatten:=by rw[←List.flatten_append,List.take_append_drop]
 rw[this,List.length_append];omega
theorem c8P{l:List (List Int)}(hl:l.flatten.length<2^40)(hn:l.length<2^40){S:b7}:o5 Try.prog E w0 L3 [b2D l] S fun v T=>GrZ S v (B0 (l.flatten.map (D.int .u8))) 1 T:=by
 refine a8n ?_
 unfold a4S
 have hlen:p7 (b2D l)=some (.int .i64 (l.length:Int)):=by simp[b2D]
 rw[hlen,oD]
 refine a7h (I:=fun n x0 x3 x9 x10 x11 T=>S=T∧x0=b2D l∧x9=b2D l∧x10= .int .i64 (l.length:Int)∧∃i:Nat,x11= .int .i64 (i:Int)∧i+n=l.length∧x3= .int .i64 ((l.take i).flatten.length:Int)) ?_ (n:=l.length)
  ⟨rfl,rfl,rfl,rfl,0,rfl,by omega,rfl⟩
 rintro n _ _ _ _ _ _ ⟨rfl,rfl,rfl,rfl,i,rfl,hi,rfl⟩
 unfold a0p
 rw[J0,oD,J6]
 have hfl:=c0r (l:=l) i
 refine⟨fun hlt=> ?_,fun hge=> ?_⟩
 ·have hlt:i<l.length:=by omega
  have h1:=c0r (l:=l) (i+1)
  rw[b7g hlt,List.length_append]at h1
  rw[c3Q (List.getElem?_eq_getElem hlt),oD,lsE,List.getElem?_cons_zero,oD,M6,oD,C4,oD,m8 (by omega) (by omega),J0,oD,decide_eq_false (by omega),cdF,C4,oD,m8 (by omega) (by omega)]
  exact⟨n - 1,by omega,rfl,rfl,rfl,rfl,i+1,rfl,by omega,by rw[b7g hlt,List.length_append];rfl⟩
 ·refine(d3h (by omega)).use fun v T hg=> ?_
  rw[hlen,oD]
  refine a7a (I:=fun n x6 x25 x26 x27 T=>x25=b2D l∧x26= .int .i64 (l.length:Int)∧∃i:Nat,x27= .int .i64 (i:Int)∧i+n=l.length∧GrZ S x6 (B0 ((l.take i).flatten.map (D.int .u8))) 1 T) ?_ (n:=l.length)
   ⟨rfl,rfl,0,rfl,by omega,hg⟩
  rintro n x6 _ _ _ T ⟨rfl,rfl,i,rfl,hi,hg⟩
  unfold a0o
  rw[J0,oD,J6]
  have hfl:=c0r (l:=l) i
  refine⟨fun hlt=> ?_,fun hge=> ?_⟩
  ·have hlt:i<l.length:=by omega
   have h1:=c0r (l:=l) (i+1)
   rw[b7g hlt,List.length_append]at h1
   rw[c3Q (List.getElem?_eq_getElem hlt),oD,lsE,List.getElem?_cons_zero,oD]
   have hnext:B0 ((l.take (i+1)).flatten.map (D.int .u8))=B0 ((l.take i).flatten.map (D.int .u8))++B0 (l[i].map (D.int .u8)):=by rw[b7g hlt,List.map_append,a2F]
   by_cases he:l[i]=[]
   ·rw[he,List.map_nil]at hnext
    have hskip:∀K:D→b7→Prop,K x6 T→A1 T 1 1 x6 (bD l[i]) K:=fun K hK=>by
     rw[he]
     simp only[A1,b6C]
     rcases hg with (⟨rfl,_,rfl⟩|⟨k,acs,_,rfl,rfl⟩)|⟨_,k,cap,ex,zr,acs,_,rfl,rfl⟩<;>exact hK
    refine hskip _ ?_
    rw[C4,oD,m8 (by omega) (by omega)]
    exact⟨n - 1,by omega,rfl,rfl,i+1,rfl,by omega,by rw[hnext];simpa [B0]using hg⟩
   ·refine hg.push (b6C _ _) (by simpa [B0]using he) (by simp only[b2f,List.length_map];omega) fun t' T' hg'=> ?_
    rw[C4,oD,m8 (by omega) (by omega)]
    exact⟨n - 1,by omega,rfl,rfl,i+1,rfl,by omega, .inl (by rw[hnext];exact hg')⟩
  ·have hi:i=l.length:=by omega
   subst hi
   rw[List.take_length]at hg
   exact d9.here hg
end
end Go.Proofs.Ytchnpgddpaonhaa.d
end
