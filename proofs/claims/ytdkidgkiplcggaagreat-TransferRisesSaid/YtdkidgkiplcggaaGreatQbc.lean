/-
  TransferRisesSaid: part Qbc of its proof.
-/
import Derived.Test.YtdkidgkiplcggaaGreatRows
import Derived.Test.YtdkidgkiplcggaaGreatQar
import Derived.KernelRfl
import Derived.Test.YtdkidgkiplcggaaGreatQat
import Derived.Test.YtdkidgkiplcggaaGreatQav
import Derived.Test.YtdkidgkiplcggaaGreatQax
set_option linter.unusedVariables false
set_option linter.unusedSimpArgs false
set_option maxRecDepth 100000
section
open Go.Proofs Go Go.Am
namespace Go.Proofs.YtdkidgkiplcggaaGreat.d
def b2B:List (Nat×List Nat):=[(4,[0,3])]
def b1E:List (Nat×List Nat):=[]
def b3o:List (Nat×O6):=[]
noncomputable def b0p:Code:=(j7 [1,1,0,0,0] (Tryz.f157.body.getD .skip))
def a9m(E:j2)(w0:j9)(Q:D→b8→Prop):o8→List D→b8→Prop:=
 (q8 0 (H4 Tryz.prog E w0 b2B b1E b3o (j7 [1,1,1] (Tryz.f157.body.getD .skip)) (F5 Tryz.prog Tryz.f157 Q)))
def b0E(E:j2)(w0:j9)(N0:D→D→b8→Prop)(Q:D→b8→Prop)(x0 x3:D)(S:b8):Prop:=
 b7 (i4 .geq x0 (.int .u64 128)) fun v2=>
 i6 v2
 (b7 (J9 .u8 x0) fun v3=>
 b7 (i4 .or v3 (.int .u8 128)) fun v4=>
 r9 S 1 (m8 1 (List.replicate 1 [(.int .u8 0)]) [(0,v4)]) 1 fun v5 S6=>
 w9 S6 1 1 x3 v5 fun v7 S8=>
 b7 (i4 .shr x0 (.int .u64 7)) fun v9=>
 N0 v9 v7 S8)
 (b7 (J9 .u8 x0) fun v10=>
 r9 S 1 (m8 1 (List.replicate 1 [(.int .u8 0)]) [(0,v10)]) 1 fun v11 S12=>
 w9 S12 1 1 x3 v11 fun v13 S14=>
 Q v13 S14)
theorem c0o{E:j2}{w0:j9}{N0:D→D→b8→Prop}{Q:D→b8→Prop}{x0 x3:D}{S:b8}(h:b0E E w0 N0 Q x0 x3 S):
  j1 Tryz.prog E w0 b0p (m6 20 [0,3] [x0,x3]) S (B0 (fun T S=>N0 (T.getD 0 b9) (T.getD 3 b9) S) (a9m E w0 Q)):=j3 b2B b1E b3o mixed (by kernel_rfl) h
theorem c0L{E:j2}{w0:j9}{Q:D→b8→Prop}(I:Nat→D→D→b8→Prop)
  (step:∀n x0 x3 S,I n x0 x3 S→b0E E w0 (fun x0 x3 S=>∃m,m<n∧I m x0 x3 S) Q x0 x3 S)
  {n:Nat} {x0 x3:D} {S:b8} (h:I n x0 x3 S):j1 Tryz.prog E w0 (.loop b0p) (m6 20 [0,3] [x0,x3]) S (a9m E w0 Q):=
 o7 (k:=20) (n:=n) (I:=fun n T S=>I n (T.getD 0 b9) (T.getD 3 b9) S) (fun n T S hl hI=>p8 [0,3] hl (j1.mono (c0o (step n _ _ S hI)) fun ex T' S' _ hq=>by cases ex<;>exact hq)) (m7 ..) (Eq.mp (by kernel_rfl) h)
def c3Y(E:j2)(w0:j9)(Q:D→b8→Prop)(a0:D)(S:b8):Prop:=
 a6o S 1 1 [(.int .u8 0)] (.int .i64 0) (.int .i64 10) fun v0 S1=>
 j1 Tryz.prog E w0 (.loop b0p) (m6 20 [0,3] [a0,v0]) S1 (a9m E w0 Q)
theorem c4u{E:j2}{w0:j9}{Q:D→b8→Prop}{a0:D}{S:b8}(h:c3Y E w0 (d9 E Q) a0 S):j8 Tryz.prog E w0 b5w [a0] S Q:=
 j0 b2B b1E b3o (fn:=Tryz.f157) (c:=Tryz.f157.body.getD .skip) mixed Tryz.func157 (by kernel_rfl) (by kernel_rfl) h
def a2O:List (Nat×List Nat):=[(6,[3,6,7,8]),(14,[3,6,7,8,16])]
def a2M:List (Nat×List Nat):=[]
def a2F:List (Nat×O6):=[]
noncomputable def a9T:Code:=(j7 [1,1,0,1,0,0,1,1,0,0,1,1,1,0,0] (Tryz.f98.body.getD .skip))
def b0w(E:j2)(w0:j9)(N0:D→D→D→D→b8→Prop)(Q:D→b8→Prop):o8→List D→b8→Prop:=
 (q8 2 (q8 1 (H4 Tryz.prog E w0 a2O a2M a2F (j7 [1,1,0,1,0,0,1,1,1] (Tryz.f98.body.getD .skip)) (B0 (fun T S=>N0 (T.getD 3 b9) (T.getD 6 b9) (T.getD 7 b9) (T.getD 8 b9) S) (q8 0 (H4 Tryz.prog E w0 a2O a2M a2F (j7 [1,1,1] (Tryz.f98.body.getD .skip)) (F5 Tryz.prog Tryz.f98 Q)))))))
def a9s(E:j2)(w0:j9)(N0:D→D→D→D→b8→Prop)(N1:D→D→D→D→D→b8→Prop)(Q:D→b8→Prop)(x3 x6 x7 x8 x16:D)(S:b8):Prop:=
 b7 (i4 .lss x16 (.int .i64 8)) fun v6=>
 i6 v6
 (b7 (i4 .shr x3 (.int .u64 1)) fun v7=>
 b7 (i4 .and x3 (.int .u32 1)) fun v8=>
 b7 (unD .neg v8) fun v9=>
 b7 (i4 .and (.int .u32 3988292384) v9) fun v10=>
 b7 (i4 .xor v7 v10) fun v11=>
 b7 (i4 .add x16 (.int .i64 1)) fun v12=>
 N1 v11 x6 x7 x8 v12 S)
 (b7 (i4 .add x8 (.int .i64 1)) fun v13=>
 N0 x3 x6 x7 v13 S)
theorem c0W{E:j2}{w0:j9}{N0:D→D→D→D→b8→Prop}{N1:D→D→D→D→D→b8→Prop}{Q:D→b8→Prop}{x3 x6 x7 x8 x16:D}{S:b8}(h:a9s E w0 N0 N1 Q x3 x6 x7 x8 x16 S):
  j1 Tryz.prog E w0 a9T (m6 29 [3,6,7,8,16] [x3,x6,x7,x8,x16]) S (B0 (fun T S=>N1 (T.getD 3 b9) (T.getD 6 b9) (T.getD 7 b9) (T.getD 8 b9) (T.getD 16 b9) S) (b0w E w0 N0 Q)):=j3 a2O a2M a2F mixed (by kernel_rfl) h
theorem c0l{E:j2}{w0:j9}{N0:D→D→D→D→b8→Prop}{Q:D→b8→Prop}(I:Nat→D→D→D→D→D→b8→Prop)
  (step:∀n x3 x6 x7 x8 x16 S,I n x3 x6 x7 x8 x16 S→a9s E w0 N0 (fun x3 x6 x7 x8 x16 S=>∃m,m<n∧I m x3 x6 x7 x8 x16 S) Q x3 x6 x7 x8 x16 S)
  {n:Nat} {x3 x6 x7 x8 x16:D} {S:b8} (h:I n x3 x6 x7 x8 x16 S):j1 Tryz.prog E w0 (.loop a9T) (m6 29 [3,6,7,8,16] [x3,x6,x7,x8,x16]) S (b0w E w0 N0 Q):=
 o7 (k:=29) (n:=n) (I:=fun n T S=>I n (T.getD 3 b9) (T.getD 6 b9) (T.getD 7 b9) (T.getD 8 b9) (T.getD 16 b9) S) (fun n T S hl hI=>p8 [3,6,7,8,16] hl (j1.mono (c0W (step n _ _ _ _ _ S hI)) fun ex T' S' _ hq=>by cases ex<;>exact hq)) (m7 ..) (Eq.mp (by kernel_rfl) h)
noncomputable def b0g:Code:=(j7 [1,1,0,1,0,0] (Tryz.f98.body.getD .skip))
def b0A(E:j2)(w0:j9)(Q:D→b8→Prop):o8→List D→b8→Prop:=
 (q8 0 (H4 Tryz.prog E w0 a2O a2M a2F (j7 [1,1,1] (Tryz.f98.body.getD .skip)) (F5 Tryz.prog Tryz.f98 Q)))
def a9K(E:j2)(w0:j9)(N0:D→D→D→D→b8→Prop)(Q:D→b8→Prop)(x3 x6 x7 x8:D)(S:b8):Prop:=
 b7 (i4 .lss x8 x7) fun v1=>
 i6 v1
 (b7 (o6 1 x6 x8) fun v2=>
 b7 (c9 S v2) fun v3=>
 b7 (J9 .u32 v3) fun v4=>
 b7 (i4 .xor x3 v4) fun v5=>
 j1 Tryz.prog E w0 (.loop a9T) (m6 29 [3,6,7,8,16] [v5,x6,x7,x8,(.int .i64 0)]) S (b0w E w0 N0 Q))
 (b7 (unD .xor x3) fun v14=>
 Q v14 S)
theorem c0U{E:j2}{w0:j9}{N0:D→D→D→D→b8→Prop}{Q:D→b8→Prop}{x3 x6 x7 x8:D}{S:b8}(h:a9K E w0 N0 Q x3 x6 x7 x8 S):
  j1 Tryz.prog E w0 b0g (m6 29 [3,6,7,8] [x3,x6,x7,x8]) S (B0 (fun T S=>N0 (T.getD 3 b9) (T.getD 6 b9) (T.getD 7 b9) (T.getD 8 b9) S) (b0A E w0 Q)):=j3 a2O a2M a2F mixed (by kernel_rfl) h
theorem c0g{E:j2}{w0:j9}{Q:D→b8→Prop}(I:Nat→D→D→D→D→b8→Prop)
  (step:∀n x3 x6 x7 x8 S,I n x3 x6 x7 x8 S→a9K E w0 (fun x3 x6 x7 x8 S=>∃m,m<n∧I m x3 x6 x7 x8 S) Q x3 x6 x7 x8 S)
  {n:Nat} {x3 x6 x7 x8:D} {S:b8} (h:I n x3 x6 x7 x8 S):j1 Tryz.prog E w0 (.loop b0g) (m6 29 [3,6,7,8] [x3,x6,x7,x8]) S (b0A E w0 Q):=
 o7 (k:=29) (n:=n) (I:=fun n T S=>I n (T.getD 3 b9) (T.getD 6 b9) (T.getD 7 b9) (T.getD 8 b9) S) (fun n T S hl hI=>p8 [3,6,7,8] hl (j1.mono (c0U (step n _ _ _ _ S hI)) fun ex T' S' _ hq=>by cases ex<;>exact hq)) (m7 ..) (Eq.mp (by kernel_rfl) h)
def c3r(E:j2)(w0:j9)(Q:D→b8→Prop)(a0:D)(S:b8):Prop:=
 b7 (m9 a0) fun v0=>
 j1 Tryz.prog E w0 (.loop b0g) (m6 29 [3,6,7,8] [(.int .u32 4294967295),a0,v0,(.int .i64 0)]) S (b0A E w0 Q)
theorem c4E{E:j2}{w0:j9}{Q:D→b8→Prop}{a0:D}{S:b8}(h:c3r E w0 (d9 E Q) a0 S):j8 Tryz.prog E w0 b5u [a0] S Q:=
 j0 a2O a2M a2F (fn:=Tryz.f98) (c:=Tryz.f98.body.getD .skip) mixed Tryz.func98 (by kernel_rfl) (by kernel_rfl) h
def b4p:List (Nat×List Nat):=[]
def b3T:List (Nat×List Nat):=[]
def b3Z:List (Nat×O6):=[]
def a6F(E:j2)(w0:j9)(Q:D→b8→Prop)(a0 a1:D)(S:b8):Prop:=
 b7 (i4 .lss a1 (.int .i64 0)) fun v0=>
 i6 v0
 (b7 (some (D.ifc 9 (.str [99,97,110,110,111,116,32,98,101,32,110,101,103,97,116,105,118,101]))) fun v1=>
 b1P E w0 v1 S)
 (b7 (c8w a0) fun v2=>
 b7 (m9 a0) fun v3=>
 b7 (i4 .sub v2 v3) fun v4=>
 b7 (i4 .sub a1 v4) fun v5=>
 b7 (i4 .gtr v5 (.int .i64 0)) fun v6=>
 i6 v6
 (b7 (c8w a0) fun v7=>
 b7 (a1a 1 a0 none (some v7) none) fun v8=>
 b2f S 1 1 [(.int .u8 0)] v8 v5 fun v9 S10=>
 b7 (m9 a0) fun v11=>
 b7 (a1a 1 v9 none (some v11) none) fun v12=>
 Q v12 S10)
 (Q a0 S))
theorem b1o{E:j2}{w0:j9}{Q:D→b8→Prop}{a0 a1:D}{S:b8}(h:a6F E w0 (d9 E Q) a0 a1 S):j8 Tryz.prog E w0 a2B [a0,a1] S Q:=
 j0 b4p b3T b3Z (fn:=Tryz.f134) (c:=Tryz.f134.body.getD .skip) mixed Tryz.func134 (by kernel_rfl) (by kernel_rfl) h
def I5:List (Nat×List Nat):=[(6,[0,3,9,10,11]),(22,[6,25,26,27])]
def I3:List (Nat×List Nat):=[]
def I2:List (Nat×O6):=[]
noncomputable def Z6:Code:=(j7 [1,1,1,1,0,1,0,0] (Tryz.f96.body.getD .skip))
def a0k(E:j2)(w0:j9)(Q:D→b8→Prop):o8→List D→b8→Prop:=
 (q8 2 (H4 Tryz.prog E w0 I5 I3 I2 (j7 [1,1,1,1,1] (Tryz.f96.body.getD .skip)) (F5 Tryz.prog Tryz.f96 Q)))
def a0m(E:j2)(w0:j9)(N1:D→D→D→D→b8→Prop)(Q:D→b8→Prop)(x6 x25 x26 x27:D)(S:b8):Prop:=
 b7 (i4 .lss x27 x26) fun v12=>
 i6 v12
 (b7 (o6 1 x25 x27) fun v13=>
 b7 (c9 S v13) fun v14=>
 w9 S 1 1 x6 v14 fun v15 S16=>
 b7 (i4 .add x27 (.int .i64 1)) fun v17=>
 N1 v15 x25 x26 v17 S16)
 (Q x6 S)
theorem a7p{E:j2}{w0:j9}{N1:D→D→D→D→b8→Prop}{Q:D→b8→Prop}{x6 x25 x26 x27:D}{S:b8}(h:a0m E w0 N1 Q x6 x25 x26 x27 S):
  j1 Tryz.prog E w0 Z6 (m6 36 [6,25,26,27] [x6,x25,x26,x27]) S (B0 (fun T S=>N1 (T.getD 6 b9) (T.getD 25 b9) (T.getD 26 b9) (T.getD 27 b9) S) (a0k E w0 Q)):=j3 I5 I3 I2 mixed (by kernel_rfl) h
theorem a7x{E:j2}{w0:j9}{Q:D→b8→Prop}(I:Nat→D→D→D→D→b8→Prop)
  (step:∀n x6 x25 x26 x27 S,I n x6 x25 x26 x27 S→a0m E w0 (fun x6 x25 x26 x27 S=>∃m,m<n∧I m x6 x25 x26 x27 S) Q x6 x25 x26 x27 S)
  {n:Nat} {x6 x25 x26 x27:D} {S:b8} (h:I n x6 x25 x26 x27 S):j1 Tryz.prog E w0 (.loop Z6) (m6 36 [6,25,26,27] [x6,x25,x26,x27]) S (a0k E w0 Q):=
 o7 (k:=36) (n:=n) (I:=fun n T S=>I n (T.getD 6 b9) (T.getD 25 b9) (T.getD 26 b9) (T.getD 27 b9) S) (fun n T S hl hI=>p8 [6,25,26,27] hl (j1.mono (a7p (step n _ _ _ _ S hI)) fun ex T' S' _ hq=>by cases ex<;>exact hq)) (m7 ..) (Eq.mp (by kernel_rfl) h)
noncomputable def a0q:Code:=(j7 [1,1,0,1,0,0] (Tryz.f96.body.getD .skip))
def a0h(E:j2)(w0:j9)(Q:D→b8→Prop):o8→List D→b8→Prop:=
 (q8 0 (H4 Tryz.prog E w0 I5 I3 I2 (j7 [1,1,1] (Tryz.f96.body.getD .skip)) (F5 Tryz.prog Tryz.f96 Q)))
def a0o(E:j2)(w0:j9)(N0:D→D→D→D→D→b8→Prop)(Q:D→b8→Prop)(x0 x3 x9 x10 x11:D)(S:b8):Prop:=
 b7 (i4 .lss x11 x10) fun v1=>
 i6 v1
 (b7 (o6 1 x9 x11) fun v2=>
 b7 (c9 S v2) fun v3=>
 b7 (m9 v3) fun v4=>
 b7 (i4 .add x3 v4) fun v5=>
 b7 (i4 .lss v5 (.int .i64 0)) fun v6=>
 i6 v6
 (b7 (some (D.ifc 9 (.str [108,101,110,32,111,117,116,32,111,102,32,114,97,110,103,101]))) fun v7=>
 b1P E w0 v7 S)
 (b7 (i4 .add x11 (.int .i64 1)) fun v8=>
 N0 x0 v5 x9 x10 v8 S))
 (j8 Tryz.prog E w0 a2B [.nilSlc,x3] S fun v9 S10=>
 b7 (m9 x0) fun v11=>
 j1 Tryz.prog E w0 (.loop Z6) (m6 36 [6,25,26,27] [v9,x0,v11,(.int .i64 0)]) S10 (a0k E w0 Q))
theorem a7A{E:j2}{w0:j9}{N0:D→D→D→D→D→b8→Prop}{Q:D→b8→Prop}{x0 x3 x9 x10 x11:D}{S:b8}(h:a0o E w0 N0 Q x0 x3 x9 x10 x11 S):
  j1 Tryz.prog E w0 a0q (m6 36 [0,3,9,10,11] [x0,x3,x9,x10,x11]) S (B0 (fun T S=>N0 (T.getD 0 b9) (T.getD 3 b9) (T.getD 9 b9) (T.getD 10 b9) (T.getD 11 b9) S) (a0h E w0 Q)):=j3 I5 I3 I2 mixed (by kernel_rfl) h
theorem a7s{E:j2}{w0:j9}{Q:D→b8→Prop}(I:Nat→D→D→D→D→D→b8→Prop)
  (step:∀n x0 x3 x9 x10 x11 S,I n x0 x3 x9 x10 x11 S→a0o E w0 (fun x0 x3 x9 x10 x11 S=>∃m,m<n∧I m x0 x3 x9 x10 x11 S) Q x0 x3 x9 x10 x11 S)
  {n:Nat} {x0 x3 x9 x10 x11:D} {S:b8} (h:I n x0 x3 x9 x10 x11 S):j1 Tryz.prog E w0 (.loop a0q) (m6 36 [0,3,9,10,11] [x0,x3,x9,x10,x11]) S (a0h E w0 Q):=
 o7 (k:=36) (n:=n) (I:=fun n T S=>I n (T.getD 0 b9) (T.getD 3 b9) (T.getD 9 b9) (T.getD 10 b9) (T.getD 11 b9) S) (fun n T S hl hI=>p8 [0,3,9,10,11] hl (j1.mono (a7A (step n _ _ _ _ _ S hI)) fun ex T' S' _ hq=>by cases ex<;>exact hq)) (m7 ..) (Eq.mp (by kernel_rfl) h)
def a5f(E:j2)(w0:j9)(Q:D→b8→Prop)(a0:D)(S:b8):Prop:=
 b7 (m9 a0) fun v0=>
 j1 Tryz.prog E w0 (.loop a0q) (m6 36 [0,3,9,10,11] [a0,(.int .i64 0),a0,v0,(.int .i64 0)]) S (a0h E w0 Q)
theorem a8Y{E:j2}{w0:j9}{Q:D→b8→Prop}{a0:D}{S:b8}(h:a5f E w0 (d9 E Q) a0 S):j8 Tryz.prog E w0 K1 [a0] S Q:=
 j0 I5 I3 I2 (fn:=Tryz.f96) (c:=Tryz.f96.body.getD .skip) mixed Tryz.func96 (by kernel_rfl) (by kernel_rfl) h
def a5y:List (Nat×List Nat):=[]
def a5D:List (Nat×List Nat):=[(4,[0,1])]
def a5x:List (Nat×O6):=[]
noncomputable def b1B:Code:=(j7 [1] (Tryz.f131.body.getD .skip))
def b1p(E:j2)(w0:j9)(Q:D→b8→Prop):o8→List D→b8→Prop:=
 (F5 Tryz.prog Tryz.f131 Q)
def a5e(E:j2)(w0:j9)(Q:D→b8→Prop)(x0 x1:D)(S:b8):Prop:=
 b7 (a1h x0) fun v0=>
 b7 (j4 0 v0) fun v1=>
 b7 (c9 S v1) fun v2=>
 w9 S 1 1 v2 x1 fun v3 S4=>
 b7 (a1h x0) fun v5=>
 b7 (j4 0 v5) fun v6=>
 i7 S4 1 v6 v3 fun v7 S8=>
 Q b9 S8
def U0(E:j2)(w0:j9)(Q:D→b8→Prop)(x0 x1:D)(S:b8):Prop:=j1 Tryz.prog E w0 b1B (m6 29 [0,1] [x0,x1]) S (b1p E w0 Q)
theorem a8R{E:j2}{w0:j9}{Q:D→b8→Prop}{x0 x1:D}{S:b8}(h:a5e E w0 Q x0 x1 S):U0 E w0 Q x0 x1 S:=j3 a5y a5D a5x mixed (by kernel_rfl) h
def a6R(E:j2)(w0:j9)(Q:D→b8→Prop)(a0 a1:D)(S:b8):Prop:=
 b7 (m9 a1) fun v9=>
 b7 (a1h a0) fun v10=>
 b7 (j4 0 v10) fun v11=>
 b7 (c9 S v11) fun v12=>
 b7 (m9 v12) fun v13=>
 b7 (i4 .sub (.int .i64 2097153) v13) fun v14=>
 b7 (i4 .gtr v9 v14) fun v15=>
 i6 v15
 (b7 (a1h a0) fun v16=>
 b7 (j4 0 v16) fun v17=>
 b7 (c9 S v17) fun v18=>
 b7 (m9 v18) fun v19=>
 b7 (i4 .sub (.int .i64 2097153) v19) fun v20=>
 a6o S 1 1 [(.int .u8 0)] v20 v20 fun v21 S22=>
 U0 E w0 Q a0 v21 S22)
 (U0 E w0 Q a0 a1 S)
theorem b1g{E:j2}{w0:j9}{Q:D→b8→Prop}{a0 a1:D}{S:b8}(h:a6R E w0 (d9 E Q) a0 a1 S):j8 Tryz.prog E w0 J2 [a0,a1] S Q:=
 j0 a5y a5D a5x (fn:=Tryz.f131) (c:=Tryz.f131.body.getD .skip) mixed Tryz.func131 (by kernel_rfl) (by kernel_rfl) h
def b0u:List (Nat×List Nat):=[]
def a9B:List (Nat×List Nat):=[]
def a9v:List (Nat×O6):=[]
def a3K(E:j2)(w0:j9)(Q:D→b8→Prop)(a0 a1:D)(S:b8):Prop:=
 b7 (J9 .u64 a1) fun v0=>
 j8 Tryz.prog E w0 b5w [v0] S fun v1 S2=>
 j8 Tryz.prog E w0 J2 [a0,v1] S2 fun v3 S4=>
 Q b9 S4
theorem a7Y{E:j2}{w0:j9}{Q:D→b8→Prop}{a0 a1:D}{S:b8}(h:a3K E w0 (d9 E Q) a0 a1 S):j8 Tryz.prog E w0 p9 [a0,a1] S Q:=
 j0 b0u a9B a9v (fn:=Tryz.f130) (c:=Tryz.f130.body.getD .skip) mixed Tryz.func130 (by kernel_rfl) (by kernel_rfl) h
def a4X:List (Nat×List Nat):=[]
def a4H:List (Nat×List Nat):=[(6,[0,1])]
def a4N:List (Nat×O6):=[]
noncomputable def b1t:Code:=(j7 [1,1] (Tryz.f132.body.getD .skip))
def b0F(E:j2)(w0:j9)(Q:D→b8→Prop):o8→List D→b8→Prop:=
 (F5 Tryz.prog Tryz.f132 Q)
def a3U(E:j2)(w0:j9)(Q:D→b8→Prop)(x0 x1:D)(S:b8):Prop:=
 c3B S x1 fun v3 S4=>
 j8 Tryz.prog E w0 J2 [x0,v3] S4 fun v5 S6=>
 Q b9 S6
def a0T(E:j2)(w0:j9)(Q:D→b8→Prop)(x0 x1:D)(S:b8):Prop:=j1 Tryz.prog E w0 b1t (m6 17 [0,1] [x0,x1]) S (b0F E w0 Q)
theorem a8s{E:j2}{w0:j9}{Q:D→b8→Prop}{x0 x1:D}{S:b8}(h:a3U E w0 Q x0 x1 S):a0T E w0 Q x0 x1 S:=j3 a4X a4H a4N mixed (by kernel_rfl) h
def a5r(E:j2)(w0:j9)(Q:D→b8→Prop)(a0 a1:D)(S:b8):Prop:=
 b7 (a4b a1) fun v0=>
 j8 Tryz.prog E w0 p9 [a0,v0] S fun v1 S2=>
 b7 (a4b a1) fun v7=>
 b7 (i4 .gtr v7 (.int .i64 2097152)) fun v8=>
 i6 v8
 (b7 (c3I a1 none (some (.int .i64 2097152))) fun v9=>
 a0T E w0 Q a0 v9 S2)
 (a0T E w0 Q a0 a1 S2)
theorem b0k{E:j2}{w0:j9}{Q:D→b8→Prop}{a0 a1:D}{S:b8}(h:a5r E w0 (d9 E Q) a0 a1 S):j8 Tryz.prog E w0 E6 [a0,a1] S Q:=
 j0 a4X a4H a4N (fn:=Tryz.f132) (c:=Tryz.f132.body.getD .skip) mixed Tryz.func132 (by kernel_rfl) (by kernel_rfl) h
def a2E:List (Nat×List Nat):=[(4,[0,10,11,12])]
def a2J:List (Nat×List Nat):=[]
def a2P:List (Nat×O6):=[]
noncomputable def V0:Code:=(j7 [1,1,0,0] (Tryz.f133.body.getD .skip))
def V1(E:j2)(w0:j9)(Q:D→b8→Prop):o8→List D→b8→Prop:=
 (q8 0 (F5 Tryz.prog Tryz.f133 Q))
def V4(E:j2)(w0:j9)(N0:D→D→D→D→b8→Prop)(Q:D→b8→Prop)(x0 x10 x11 x12:D)(S:b8):Prop:=
 b7 (i4 .lss x12 x11) fun v4=>
 i6 v4
 (b7 (o6 1 x10 x12) fun v5=>
 b7 (c9 S v5) fun v6=>
 j8 Tryz.prog E w0 p9 [x0,v6] S fun v7 S8=>
 b7 (i4 .add x12 (.int .i64 1)) fun v9=>
 N0 x0 x10 x11 v9 S8)
 (Q b9 S)
theorem a5N{E:j2}{w0:j9}{N0:D→D→D→D→b8→Prop}{Q:D→b8→Prop}{x0 x10 x11 x12:D}{S:b8}(h:V4 E w0 N0 Q x0 x10 x11 x12 S):
  j1 Tryz.prog E w0 V0 (m6 20 [0,10,11,12] [x0,x10,x11,x12]) S (B0 (fun T S=>N0 (T.getD 0 b9) (T.getD 10 b9) (T.getD 11 b9) (T.getD 12 b9) S) (V1 E w0 Q)):=j3 a2E a2J a2P mixed (by kernel_rfl) h
theorem a5S{E:j2}{w0:j9}{Q:D→b8→Prop}(I:Nat→D→D→D→D→b8→Prop)
  (step:∀n x0 x10 x11 x12 S,I n x0 x10 x11 x12 S→V4 E w0 (fun x0 x10 x11 x12 S=>∃m,m<n∧I m x0 x10 x11 x12 S) Q x0 x10 x11 x12 S)
  {n:Nat} {x0 x10 x11 x12:D} {S:b8} (h:I n x0 x10 x11 x12 S):j1 Tryz.prog E w0 (.loop V0) (m6 20 [0,10,11,12] [x0,x10,x11,x12]) S (V1 E w0 Q):=
 o7 (k:=20) (n:=n) (I:=fun n T S=>I n (T.getD 0 b9) (T.getD 10 b9) (T.getD 11 b9) (T.getD 12 b9) S) (fun n T S hl hI=>p8 [0,10,11,12] hl (j1.mono (a5N (step n _ _ _ _ S hI)) fun ex T' S' _ hq=>by cases ex<;>exact hq)) (m7 ..) (Eq.mp (by kernel_rfl) h)
def a3u(E:j2)(w0:j9)(Q:D→b8→Prop)(a0 a1:D)(S:b8):Prop:=
 b7 (m9 a1) fun v0=>
 j8 Tryz.prog E w0 p9 [a0,v0] S fun v1 S2=>
 b7 (m9 a1) fun v3=>
 j1 Tryz.prog E w0 (.loop V0) (m6 20 [0,10,11,12] [a0,a1,v3,(.int .i64 0)]) S2 (V1 E w0 Q)
theorem a7q{E:j2}{w0:j9}{Q:D→b8→Prop}{a0 a1:D}{S:b8}(h:a3u E w0 (d9 E Q) a0 a1 S):j8 Tryz.prog E w0 N4 [a0,a1] S Q:=
 j0 a2E a2J a2P (fn:=Tryz.f133) (c:=Tryz.f133.body.getD .skip) mixed Tryz.func133 (by kernel_rfl) (by kernel_rfl) h
def D8:List (Nat×List Nat):=[(8,[1,3,19,20,21]),(22,[1,3,19,20,21,43,44,45]),(44,[1,3,76,77,78]),(56,[3,92,93,94])]
def E0:List (Nat×List Nat):=[]
def D9:List (Nat×O6):=[]
noncomputable def a6n:Code:=(j7 [1,1,1,0,1,0,0,1,1,0,0,1,1,0,1,0,1,1,0,1,0,0] (Tryz.f95.body.getD .skip))
def a6r(E:j2)(w0:j9)(N0:D→D→D→D→D→b8→Prop)(Q:D→b8→Prop):o8→List D→b8→Prop:=
 (q8 2 (H4 Tryz.prog E w0 D8 E0 D9 (j7 [1,1,1,0,1,0,0,1,1,0,0,1,1,0,1,0,1,1,1] (Tryz.f95.body.getD .skip)) (H4 Tryz.prog E w0 D8 E0 D9 (j7 [1,1,1,0,1,0,0,1,1,0,0,1,1,1] (Tryz.f95.body.getD .skip)) (q8 1 (H4 Tryz.prog E w0 D8 E0 D9 (j7 [1,1,1,0,1,0,0,1,1,1] (Tryz.f95.body.getD .skip)) (B0 (fun T S=>N0 (T.getD 1 b9) (T.getD 3 b9) (T.getD 19 b9) (T.getD 20 b9) (T.getD 21 b9) S) (q8 0 (H4 Tryz.prog E w0 D8 E0 D9 (j7 [1,1,1,1] (Tryz.f95.body.getD .skip)) (F5 Tryz.prog Tryz.f95 Q)))))))))
def a6I(E:j2)(w0:j9)(N0:D→D→D→D→D→b8→Prop)(N1:D→D→D→D→D→D→D→D→b8→Prop)(Q:D→b8→Prop)(x1 x3 x19 x20 x21 x43 x44 x45:D)(S:b8):Prop:=
 b7 (i4 .lss x45 x44) fun v40=>
 i6 v40
 (b7 (o6 2 x43 x45) fun v41=>
 b7 (i5 S 2 v41) fun v42=>
 j6 S [(.str []),(.int .i64 0)] fun v43 S44=>
 i7 S44 2 v43 v42 fun v45 S46=>
 b7 (j4 0 v43) fun v47=>
 b7 (c9 S46 v47) fun v48=>
 j8 Tryz.prog E w0 E6 [x3,v48] S46 fun v49 S50=>
 b7 (j4 1 v43) fun v51=>
 b7 (c9 S50 v51) fun v52=>
 j8 Tryz.prog E w0 p9 [x3,v52] S50 fun v53 S54=>
 b7 (i4 .add x45 (.int .i64 1)) fun v55=>
 N1 x1 x3 x19 x20 x21 x43 x44 v55 S54)
 (b7 (i4 .add x21 (.int .i64 1)) fun v56=>
 N0 x1 x3 x19 x20 v56 S)
theorem b7o{E:j2}{w0:j9}{N0:D→D→D→D→D→b8→Prop}{N1:D→D→D→D→D→D→D→D→b8→Prop}{Q:D→b8→Prop}{x1 x3 x19 x20 x21 x43 x44 x45:D}{S:b8}(h:a6I E w0 N0 N1 Q x1 x3 x19 x20 x21 x43 x44 x45 S):
  j1 Tryz.prog E w0 a6n (m6 128 [1,3,19,20,21,43,44,45] [x1,x3,x19,x20,x21,x43,x44,x45]) S (B0 (fun T S=>N1 (T.getD 1 b9) (T.getD 3 b9) (T.getD 19 b9) (T.getD 20 b9) (T.getD 21 b9) (T.getD 43 b9) (T.getD 44 b9) (T.getD 45 b9) S) (a6r E w0 N0 Q)):=j3 D8 E0 D9 mixed (by kernel_rfl) h
theorem b6W{E:j2}{w0:j9}{N0:D→D→D→D→D→b8→Prop}{Q:D→b8→Prop}(I:Nat→D→D→D→D→D→D→D→D→b8→Prop)
  (step:∀n x1 x3 x19 x20 x21 x43 x44 x45 S,I n x1 x3 x19 x20 x21 x43 x44 x45 S→a6I E w0 N0 (fun x1 x3 x19 x20 x21 x43 x44 x45 S=>∃m,m<n∧I m x1 x3 x19 x20 x21 x43 x44 x45 S) Q x1 x3 x19 x20 x21 x43 x44 x45 S)
  {n:Nat} {x1 x3 x19 x20 x21 x43 x44 x45:D} {S:b8} (h:I n x1 x3 x19 x20 x21 x43 x44 x45 S):j1 Tryz.prog E w0 (.loop a6n) (m6 128 [1,3,19,20,21,43,44,45] [x1,x3,x19,x20,x21,x43,x44,x45]) S (a6r E w0 N0 Q):=
 o7 (k:=128) (n:=n) (I:=fun n T S=>I n (T.getD 1 b9) (T.getD 3 b9) (T.getD 19 b9) (T.getD 20 b9) (T.getD 21 b9) (T.getD 43 b9) (T.getD 44 b9) (T.getD 45 b9) S) (fun n T S hl hI=>p8 [1,3,19,20,21,43,44,45] hl (j1.mono (b7o (step n _ _ _ _ _ _ _ _ S hI)) fun ex T' S' _ hq=>by cases ex<;>exact hq)) (m7 ..) (Eq.mp (by kernel_rfl) h)
noncomputable def a6w:Code:=(j7 [1,1,1,1,1,1,1,0,1,0,0] (Tryz.f95.body.getD .skip))
def a6x(E:j2)(w0:j9)(Q:D→b8→Prop):o8→List D→b8→Prop:=
 (q8 6 (H4 Tryz.prog E w0 D8 E0 D9 (j7 [1,1,1,1,1,1,1,1] (Tryz.f95.body.getD .skip)) (F5 Tryz.prog Tryz.f95 Q)))
def a6J(E:j2)(w0:j9)(N3:D→D→D→D→b8→Prop)(Q:D→b8→Prop)(x3 x92 x93 x94:D)(S:b8):Prop:=
 b7 (i4 .lss x94 x93) fun v92=>
 i6 v92
 (b7 (o6 6 x92 x94) fun v93=>
 b7 (i5 S 6 v93) fun v94=>
 j6 S [(.str []), .nilSlc, .nilSlc,(.int .i64 0),(.int .i64 0), .nilSlc] fun v95 S96=>
 i7 S96 6 v95 v94 fun v97 S98=>
 b7 (j4 0 v95) fun v99=>
 b7 (c9 S98 v99) fun v100=>
 j8 Tryz.prog E w0 E6 [x3,v100] S98 fun v101 S102=>
 b7 (j4 1 v95) fun v103=>
 b7 (c9 S102 v103) fun v104=>
 j8 Tryz.prog E w0 N4 [x3,v104] S102 fun v105 S106=>
 b7 (j4 2 v95) fun v107=>
 b7 (c9 S106 v107) fun v108=>
 j8 Tryz.prog E w0 N4 [x3,v108] S106 fun v109 S110=>
 b7 (j4 3 v95) fun v111=>
 b7 (c9 S110 v111) fun v112=>
 j8 Tryz.prog E w0 p9 [x3,v112] S110 fun v113 S114=>
 b7 (j4 4 v95) fun v115=>
 b7 (c9 S114 v115) fun v116=>
 j8 Tryz.prog E w0 p9 [x3,v116] S114 fun v117 S118=>
 b7 (j4 5 v95) fun v119=>
 b7 (c9 S118 v119) fun v120=>
 b7 (c2g S118 v120) fun v121=>
 j8 Tryz.prog E w0 E6 [x3,v121] S118 fun v122 S123=>
 b7 (i4 .add x94 (.int .i64 1)) fun v124=>
 N3 x3 x92 x93 v124 S123)
 (b7 (a1h x3) fun v125=>
 b7 (j4 0 v125) fun v126=>
 b7 (c9 S v126) fun v127=>
 Q v127 S)
theorem b7u{E:j2}{w0:j9}{N3:D→D→D→D→b8→Prop}{Q:D→b8→Prop}{x3 x92 x93 x94:D}{S:b8}(h:a6J E w0 N3 Q x3 x92 x93 x94 S):
  j1 Tryz.prog E w0 a6w (m6 128 [3,92,93,94] [x3,x92,x93,x94]) S (B0 (fun T S=>N3 (T.getD 3 b9) (T.getD 92 b9) (T.getD 93 b9) (T.getD 94 b9) S) (a6x E w0 Q)):=j3 D8 E0 D9 mixed (by kernel_rfl) h
theorem b6b{E:j2}{w0:j9}{Q:D→b8→Prop}(I:Nat→D→D→D→D→b8→Prop)
  (step:∀n x3 x92 x93 x94 S,I n x3 x92 x93 x94 S→a6J E w0 (fun x3 x92 x93 x94 S=>∃m,m<n∧I m x3 x92 x93 x94 S) Q x3 x92 x93 x94 S)
  {n:Nat} {x3 x92 x93 x94:D} {S:b8} (h:I n x3 x92 x93 x94 S):j1 Tryz.prog E w0 (.loop a6w) (m6 128 [3,92,93,94] [x3,x92,x93,x94]) S (a6x E w0 Q):=
 o7 (k:=128) (n:=n) (I:=fun n T S=>I n (T.getD 3 b9) (T.getD 92 b9) (T.getD 93 b9) (T.getD 94 b9) S) (fun n T S hl hI=>p8 [3,92,93,94] hl (j1.mono (b7u (step n _ _ _ _ S hI)) fun ex T' S' _ hq=>by cases ex<;>exact hq)) (m7 ..) (Eq.mp (by kernel_rfl) h)
noncomputable def a7i:Code:=(j7 [1,1,1,1,1,0,1,0,0] (Tryz.f95.body.getD .skip))
def a7c(E:j2)(w0:j9)(Q:D→b8→Prop):o8→List D→b8→Prop:=
 (q8 4 (H4 Tryz.prog E w0 D8 E0 D9 (j7 [1,1,1,1,1,1] (Tryz.f95.body.getD .skip)) (F5 Tryz.prog Tryz.f95 Q)))
def a6d(E:j2)(w0:j9)(N2:D→D→D→D→D→b8→Prop)(Q:D→b8→Prop)(x1 x3 x76 x77 x78:D)(S:b8):Prop:=
 b7 (i4 .lss x78 x77) fun v78=>
 i6 v78
 (b7 (o6 1 x76 x78) fun v79=>
 b7 (c9 S v79) fun v80=>
 j8 Tryz.prog E w0 E6 [x3,v80] S fun v81 S82=>
 b7 (i4 .add x78 (.int .i64 1)) fun v83=>
 N2 x1 x3 x76 x77 v83 S82)
 (b7 (j4 2 x1) fun v84=>
 b7 (c9 S v84) fun v85=>
 b7 (m9 v85) fun v86=>
 j8 Tryz.prog E w0 p9 [x3,v86] S fun v87 S88=>
 b7 (j4 2 x1) fun v89=>
 b7 (c9 S88 v89) fun v90=>
 b7 (m9 v90) fun v91=>
 j1 Tryz.prog E w0 (.loop a6w) (m6 128 [3,92,93,94] [x3,v90,v91,(.int .i64 0)]) S88 (a6x E w0 Q))
theorem b7S{E:j2}{w0:j9}{N2:D→D→D→D→D→b8→Prop}{Q:D→b8→Prop}{x1 x3 x76 x77 x78:D}{S:b8}(h:a6d E w0 N2 Q x1 x3 x76 x77 x78 S):
  j1 Tryz.prog E w0 a7i (m6 128 [1,3,76,77,78] [x1,x3,x76,x77,x78]) S (B0 (fun T S=>N2 (T.getD 1 b9) (T.getD 3 b9) (T.getD 76 b9) (T.getD 77 b9) (T.getD 78 b9) S) (a7c E w0 Q)):=j3 D8 E0 D9 mixed (by kernel_rfl) h
theorem b6f{E:j2}{w0:j9}{Q:D→b8→Prop}(I:Nat→D→D→D→D→D→b8→Prop)
  (step:∀n x1 x3 x76 x77 x78 S,I n x1 x3 x76 x77 x78 S→a6d E w0 (fun x1 x3 x76 x77 x78 S=>∃m,m<n∧I m x1 x3 x76 x77 x78 S) Q x1 x3 x76 x77 x78 S)
  {n:Nat} {x1 x3 x76 x77 x78:D} {S:b8} (h:I n x1 x3 x76 x77 x78 S):j1 Tryz.prog E w0 (.loop a7i) (m6 128 [1,3,76,77,78] [x1,x3,x76,x77,x78]) S (a7c E w0 Q):=
 o7 (k:=128) (n:=n) (I:=fun n T S=>I n (T.getD 1 b9) (T.getD 3 b9) (T.getD 76 b9) (T.getD 77 b9) (T.getD 78 b9) S) (fun n T S hl hI=>p8 [1,3,76,77,78] hl (j1.mono (b7S (step n _ _ _ _ _ S hI)) fun ex T' S' _ hq=>by cases ex<;>exact hq)) (m7 ..) (Eq.mp (by kernel_rfl) h)
noncomputable def a7g:Code:=(j7 [1,1,1,0,1,0,0] (Tryz.f95.body.getD .skip))
def a6X(E:j2)(w0:j9)(Q:D→b8→Prop):o8→List D→b8→Prop:=
 (q8 0 (H4 Tryz.prog E w0 D8 E0 D9 (j7 [1,1,1,1] (Tryz.f95.body.getD .skip)) (F5 Tryz.prog Tryz.f95 Q)))
def a6f(E:j2)(w0:j9)(N0:D→D→D→D→D→b8→Prop)(Q:D→b8→Prop)(x1 x3 x19 x20 x21:D)(S:b8):Prop:=
 b7 (i4 .lss x21 x20) fun v12=>
 i6 v12
 (b7 (o6 5 x19 x21) fun v13=>
 b7 (i5 S 5 v13) fun v14=>
 j6 S [(.int .u8 0),(.str []), .nilSlc,(.int .i64 0),(.int .i64 0)] fun v15 S16=>
 i7 S16 5 v15 v14 fun v17 S18=>
 b7 (j4 0 v15) fun v19=>
 b7 (c9 S18 v19) fun v20=>
 r9 S18 1 (m8 1 (List.replicate 1 [(.int .u8 0)]) [(0,v20)]) 1 fun v21 S22=>
 j8 Tryz.prog E w0 J2 [x3,v21] S22 fun v23 S24=>
 b7 (j4 0 v15) fun v25=>
 b7 (c9 S24 v25) fun v26=>
 b7 (i4 .eql v26 (.int .u8 6)) fun v27=>
 i6 v27
 (b7 (j4 1 v15) fun v28=>
 b7 (c9 S24 v28) fun v29=>
 j8 Tryz.prog E w0 E6 [x3,v29] S24 fun v30 S31=>
 b7 (j4 2 v15) fun v32=>
 b7 (c9 S31 v32) fun v33=>
 b7 (m9 v33) fun v34=>
 j8 Tryz.prog E w0 p9 [x3,v34] S31 fun v35 S36=>
 b7 (j4 2 v15) fun v37=>
 b7 (c9 S36 v37) fun v38=>
 b7 (m9 v38) fun v39=>
 j1 Tryz.prog E w0 (.loop a6n) (m6 128 [1,3,19,20,21,43,44,45] [x1,x3,x19,x20,x21,v38,v39,(.int .i64 0)]) S36 (a6r E w0 N0 Q))
 (b7 (j4 3 v15) fun v57=>
 b7 (c9 S24 v57) fun v58=>
 j8 Tryz.prog E w0 p9 [x3,v58] S24 fun v59 S60=>
 b7 (j4 0 v15) fun v61=>
 b7 (c9 S60 v61) fun v62=>
 b7 (i4 .eql v62 (.int .u8 7)) fun v63=>
 i6 v63
 (b7 (j4 4 v15) fun v64=>
 b7 (c9 S60 v64) fun v65=>
 j8 Tryz.prog E w0 p9 [x3,v65] S60 fun v66 S67=>
 b7 (i4 .add x21 (.int .i64 1)) fun v68=>
 N0 x1 x3 x19 x20 v68 S67)
 (b7 (i4 .add x21 (.int .i64 1)) fun v69=>
 N0 x1 x3 x19 x20 v69 S60)))
 (b7 (j4 1 x1) fun v70=>
 b7 (c9 S v70) fun v71=>
 b7 (m9 v71) fun v72=>
 j8 Tryz.prog E w0 p9 [x3,v72] S fun v73 S74=>
 b7 (j4 1 x1) fun v75=>
 b7 (c9 S74 v75) fun v76=>
 b7 (m9 v76) fun v77=>
 j1 Tryz.prog E w0 (.loop a7i) (m6 128 [1,3,76,77,78] [x1,x3,v76,v77,(.int .i64 0)]) S74 (a7c E w0 Q))
theorem b7U{E:j2}{w0:j9}{N0:D→D→D→D→D→b8→Prop}{Q:D→b8→Prop}{x1 x3 x19 x20 x21:D}{S:b8}(h:a6f E w0 N0 Q x1 x3 x19 x20 x21 S):
  j1 Tryz.prog E w0 a7g (m6 128 [1,3,19,20,21] [x1,x3,x19,x20,x21]) S (B0 (fun T S=>N0 (T.getD 1 b9) (T.getD 3 b9) (T.getD 19 b9) (T.getD 20 b9) (T.getD 21 b9) S) (a6X E w0 Q)):=j3 D8 E0 D9 mixed (by kernel_rfl) h
theorem b7A{E:j2}{w0:j9}{Q:D→b8→Prop}(I:Nat→D→D→D→D→D→b8→Prop)
  (step:∀n x1 x3 x19 x20 x21 S,I n x1 x3 x19 x20 x21 S→a6f E w0 (fun x1 x3 x19 x20 x21 S=>∃m,m<n∧I m x1 x3 x19 x20 x21 S) Q x1 x3 x19 x20 x21 S)
  {n:Nat} {x1 x3 x19 x20 x21:D} {S:b8} (h:I n x1 x3 x19 x20 x21 S):j1 Tryz.prog E w0 (.loop a7g) (m6 128 [1,3,19,20,21] [x1,x3,x19,x20,x21]) S (a6X E w0 Q):=
 o7 (k:=128) (n:=n) (I:=fun n T S=>I n (T.getD 1 b9) (T.getD 3 b9) (T.getD 19 b9) (T.getD 20 b9) (T.getD 21 b9) S) (fun n T S hl hI=>p8 [1,3,19,20,21] hl (j1.mono (b7U (step n _ _ _ _ _ S hI)) fun ex T' S' _ hq=>by cases ex<;>exact hq)) (m7 ..) (Eq.mp (by kernel_rfl) h)
def b6Q(E:j2)(w0:j9)(Q:D→b8→Prop)(a0:D)(S:b8):Prop:=
 b7 (o3 a0) fun cs=>j6 S cs fun v0 S1=>
 j6 S1 [.nilSlc] fun v2 S3=>
 b7 (j4 0 v0) fun v4=>
 b7 (c9 S3 v4) fun v5=>
 b7 (m9 v5) fun v6=>
 j8 Tryz.prog E w0 p9 [v2,v6] S3 fun v7 S8=>
 b7 (j4 0 v0) fun v9=>
 b7 (c9 S8 v9) fun v10=>
 b7 (m9 v10) fun v11=>
 j1 Tryz.prog E w0 (.loop a7g) (m6 128 [1,3,19,20,21] [v0,v2,v10,v11,(.int .i64 0)]) S8 (a6X E w0 Q)
theorem c0f{E:j2}{w0:j9}{Q:D→b8→Prop}{a0:D}{S:b8}(h:b6Q E w0 (d9 E Q) a0 S):j8 Tryz.prog E w0 a9J [a0] S Q:=
 j0 D8 E0 D9 (fn:=Tryz.f95) (c:=Tryz.f95.body.getD .skip) mixed Tryz.func95 (by kernel_rfl) (by kernel_rfl) h
def c0d:List (Nat×List Nat):=[]
def c0H:List (Nat×List Nat):=[]
def c1e:List (Nat×O6):=[]
def b1V(E:j2)(w0:j9)(Q:D→b8→Prop)(a0:D)(S:b8):Prop:=
 b7 (o3 a0) fun cs=>j6 S cs fun v0 S1=>
 b7 (i5 S1 3 v0) fun v2=>
 j8 Tryz.prog E w0 a3g [v2] S1 fun v3 S4=>
 b7 (i4 .neq v3 (.int .i64 0)) fun v5=>
 i6 v5
 (Q (.tup [.nilSlc,v3]) S4)
 (b7 (i5 S4 3 v0) fun v6=>
 j8 Tryz.prog E w0 a9J [v6] S4 fun v7 S8=>
 b7 (m9 v7) fun v9=>
 b7 (i4 .gtr v9 (.int .i64 2097140)) fun v10=>
 i6 v10
 (Q (.tup [.nilSlc,(.int .i64 3)]) S8)
 (r9 S8 1 (m8 1 (List.replicate 4 [(.int .u8 0)]) [(0,(.int .u8 84)),(1,(.int .u8 82)),(2,(.int .u8 77)),(3,(.int .u8 1))]) 4 fun v11 S12=>
 d1l S12 v11 fun v13 S14=>
 b7 (m9 v7) fun v15=>
 b7 (J9 .u64 v15) fun v16=>
 j8 Tryz.prog E w0 a1R [v16,(.int .i64 4)] S14 fun v17 S18=>
 j8 Tryz.prog E w0 b5u [v7] S18 fun v19 S20=>
 b7 (J9 .u64 v19) fun v21=>
 j8 Tryz.prog E w0 a1R [v21,(.int .i64 4)] S20 fun v22 S23=>
 r9 S23 1 (m8 1 (List.replicate 4 [.nilSlc]) [(0,v13),(1,v17),(2,v7),(3,v22)]) 4 fun v24 S25=>
 j8 Tryz.prog E w0 K1 [v24] S25 fun v26 S27=>
 Q (.tup [v26,(.int .i64 0)]) S27))
theorem b6O{E:j2}{w0:j9}{Q:D→b8→Prop}{a0:D}{S:b8}(h:b1V E w0 (d9 E Q) a0 S):j8 Tryz.prog E w0 a3b [a0] S Q:=
 j0 c0d c0H c1e (fn:=Tryz.f66) (c:=Tryz.f66.body.getD .skip) mixed Tryz.func66 (by kernel_rfl) (by kernel_rfl) h
def c2I:List (Nat×List Nat):=[]
def c2P:List (Nat×List Nat):=[]
def c3O:List (Nat×O6):=[]
def b4P(E:j2)(w0:j9)(Q:D→b8→Prop)(a0:D)(S:b8):Prop:=
 b7 (o3 a0) fun cs=>j6 S cs fun v0 S1=>
 b7 (i5 S1 3 v0) fun v2=>
 j8 Tryz.prog E w0 a3b [v2] S1 fun v3 S4=>
 b7 (j5 v3 0) fun v5=>
 b7 (j5 v3 1) fun v6=>
 Q v6 S4
theorem b8U{E:j2}{w0:j9}{Q:D→b8→Prop}{a0:D}{S:b8}(h:b4P E w0 (d9 E Q) a0 S):j8 Tryz.prog E w0 a8w [a0] S Q:=
 j0 c2I c2P c3O (fn:=Tryz.f39) (c:=Tryz.f39.body.getD .skip) mixed Tryz.func39 (by kernel_rfl) (by kernel_rfl) h
end Go.Proofs.YtdkidgkiplcggaaGreat.d
end
section
open Go.Proofs Go Go.Am Go.Op
namespace Go.Proofs.YtdkidgkiplcggaaGreat.d
def c4z:Nat→Nat→List Int
 |0,n=>[(n:Int)]
 |f+1,n=>if n<128 then[(n:Int)]else((n % 128+128:Nat):Int)::c4z f (n / 128)
def d5I(n:Nat):List Int:=c4z 9 n
def a2S(n:Int):List Int:=d5I (n % 18446744073709551616).toNat
def d8b(a b:Int):Int:=IntKind.u32.wrap (BitVec.ofInt IntKind.u32.bits a &&& BitVec.ofInt IntKind.u32.bits b).toNat
def d7u(a b:Int):Int:=IntKind.u32.wrap (BitVec.ofInt IntKind.u32.bits a ^^^ BitVec.ofInt IntKind.u32.bits b).toNat
def d7Y(s:Int):Int:=d7u (s.fdiv (2^(min (1:Int).toNat IntKind.u32.bits))) (d8b 3988292384 (IntKind.u32.wrap (0 - d8b s 1)))
def c6n(s b:Int):Int:=Nat.repeat d7Y 8 (d7u s (IntKind.u32.wrap b))
def c4m(bs:List Int):Int:=IntKind.u32.wrap (BitVec.ofInt IntKind.u32.bits IntKind.u32.max ^^^ BitVec.ofInt IntKind.u32.bits (bs.foldl c6n 4294967295)).toNat
def GrZ(S0:b8)(t:D)(rows:List (List D))(sz:Nat)(S:b8):Prop:=Grw S0 t rows sz S∨(rows=[]∧∃k cap ex zr acs,S0 k=none∧t= .raw k 0 0 cap ex sz∧S=S0.set k ⟨sz,zr,acs⟩)
section
variable{S0 S:b8}{t:D}{rows:List (List D)}{sz:Nat}
theorem GrZ.push(h:GrZ S0 t rows sz S){bytes:Nat}{v:D}{news:List (List D)}(hv:rowsS S sz v=some news)(hn:news≠[])(hb:0<bytes∧(2*(rows.length+news.length)+768)*bytes≤2^47){K:D→b8→Prop}(hK:∀t' S',Grw S0 t' (rows++news) sz S'→K t' S'):w9 S sz bytes t v K:=by
 rcases h with h|⟨rfl,k,cap,ex,zr,acs,h0,rfl,rfl⟩
 ·exact h.push hv hb hK
 ·simp only[w9,hv,a1d]
  rw[if_neg hn,b8.set_same]
  simp only
  rw[if_pos ⟨by trivial,by trivial,by omega⟩]
  refine⟨by simpa using hb, .inr fun k' acs' hk'=> ?_⟩
  rw[b8.erase_set _ _ _ h0]at hk' ⊢
  refine hK _ _ (.inr ⟨k',acs',hk', ?_, ?_⟩)<;>simp
theorem GrZ.last(h:GrZ S0 t rows sz S){bytes:Nat}{v:D}{news:List (List D)}(hv:rowsS S sz v=some news)(hn:news≠[])(hb:0<bytes∧(2*(rows.length+news.length)+768)*bytes≤2^47){K:D→b8→Prop}(hK:K (.lst (rows++news) sz) S0):w9 S sz bytes t v K:=by
 rcases h with h|⟨rfl,k,cap,ex,zr,acs,h0,rfl,rfl⟩
 ·exact h.last hv hn hb hK
 ·simp only[w9,hv,a1d]
  rw[if_neg hn,b8.set_same]
  simp only
  rw[if_pos ⟨by trivial,by trivial,by omega⟩]
  refine⟨by simpa using hb, .inl ?_⟩
  rw[b8.erase_set _ _ _ h0,List.take_of_length_le (by simp)]
  simpa using hK
end
section
variable{E:j2}{w0:j9}
theorem d8n(n:Nat):i4 .or (.int .u8 (IntKind.u8.wrap (n:Int))) (.int .u8 128)=some (.int .u8 ((n % 128+128:Nat):Int)):=by
 rw[d8m,c1r,c1r]
 have h8:IntKind.u8.bits=8:=rfl
 rw[h8]
 have e1:((n:Int) % 256)=((n % 256:Nat):Int):=by omega
 rw[e1]
 have e2:(BitVec.ofInt 8 ((n % 256:Nat):Int) ||| BitVec.ofInt 8 128).toNat=n % 128+128:=by
  rw[BitVec.toNat_or,b2l]
  have:(BitVec.ofInt 8 128).toNat=128:=rfl
  rw[this]
  have h:=d4v (a:=n % 128) (b:=1) (i:=7) (by omega)
  have:n % 256 % 2^8=n % 256:=by omega
  rw[this]
  rcases Nat.lt_or_ge (n % 256) 128 with hl|hl
  ·rw[show n % 256=n % 128 by omega];simpa using h
  ·have e3:n % 256=n % 128+128:=by omega
   have h':n % 128+128=n % 128 ||| 128:=by simpa using h.symm
   rw[e3,h',Nat.or_assoc,Nat.or_self]
 rw[e2]
 congr 1
 congr 1
 omega
theorem c8f{n0:Nat}(hn:n0<2^64):K9 Tryz.prog E w0 b5w [.int .u64 (n0:Int)] (bD (d5I n0)):=fun S=>by
 refine c4u ?_
 unfold c3Y
 simp only[a6o]
 rw[if_pos (by decide)]
 refine .inr fun k acs hk=> ?_
 refine c0L (I:=fun m x0 x3 T=>∃(f n:Nat) (acc:List Int),f=m∧x0= .int .u64 (n:Int)∧n<2^(7*f+1)∧n<2^64∧f≤9∧acc.length+f=9∧GrZ S x3 (B4 (acc.map (D.int .u8))) 1 T∧acc++c4z f n=c4z 9 n0) ?_ (n:=9)
  ⟨9,n0,[],rfl,rfl,hn,hn,by omega,by simp, .inr ⟨rfl,k,10,true,_,acs,hk,rfl,rfl⟩,rfl⟩
 rintro m0 _ x3 T ⟨f,n,acc,rfl,rfl,hnf,hn64,hf9,hacc,hg,hput⟩
 unfold b0E
 rw[a8S,oD,I6]
 refine⟨fun hge=> ?_,fun hlt=> ?_⟩
 ·have hge:128≤n:=by omega
  obtain⟨f,rfl⟩:∃f',f=f'+1:=⟨f - 1,by
   rcases f with _|f
   ·simp at hnf;omega
   ·rfl⟩
  rw[c4z,if_neg (by omega)]at hput
  rw[cvI,oD,d8n,oD,show m8 1 (List.replicate 1 [D.int .u8 0]) [(0, .int .u8 ((n % 128+128:Nat):Int))]=some (B4 [D.int .u8 ((n % 128+128:Nat):Int)]) from rfl]
  refine G6 rfl ?_
  refine hg.push (news:=B4 [D.int .u8 ((n % 128+128:Nat):Int)]) rfl (by simp[B4]) (by simp;omega) fun t' T' hg'=> ?_
  rw[d1o _ _ _ _ (by omega),oD]
  have e:((n:Int).fdiv (2^(min (7:Int).toNat IntKind.u64.bits)))=((n / 128:Nat):Int):=by
   rw[show min (7:Int).toNat IntKind.u64.bits=7 from rfl,Int.fdiv_eq_ediv_of_nonneg _ (by decide)]
   omega
  rw[e]
  refine⟨f,by omega,f,n / 128,acc++[((n % 128+128:Nat):Int)],rfl,rfl, ?_,by omega,by omega,by simp;omega, .inl ?_,by rw[←hput];simp⟩
  ·have:2^(7*(f+1)+1)=2^(7*f+1)*128:=by rw[show 7*(f+1)+1=(7*f+1)+7 by omega,Nat.pow_add]
   omega
  ·have:B4 ((acc++[((n % 128+128:Nat):Int)]).map (D.int .u8))=B4 (acc.map (D.int .u8))++B4 [D.int .u8 ((n % 128+128:Nat):Int)]:=by rw[List.map_append,a4S];rfl
   rw[this];exact hg'
 ·have hlt:n<128:=by omega
  have hpn:c4z f n=[(n:Int)]:=by
   cases f with
   |zero=>rfl
   |succ f=>rw[c4z,if_pos hlt]
  rw[hpn]at hput
  have hw:IntKind.u8.wrap (n:Int)=n:=by rw[c1r];omega
  rw[cvI,oD,hw,show m8 1 (List.replicate 1 [D.int .u8 0]) [(0, .int .u8 (n:Int))]=some (B4 [D.int .u8 (n:Int)]) from rfl]
  refine G6 rfl ?_
  refine hg.last (news:=B4 [D.int .u8 (n:Int)]) rfl (by simp[B4]) (by simp;omega) ?_
  have:(.lst (B4 (acc.map (D.int .u8))++B4 [D.int .u8 (n:Int)]) 1:D)=bD (d5I n0):=by
   unfold bD d5I
   rw[←hput,List.map_append,a4S];rfl
  rw[this]
  exact d9.pure
theorem c7Q{bs:List Int}(hl:bs.length<2^60):K9 Tryz.prog E w0 b5u [bD bs] (.int .u32 (c4m bs)):=fun S=>by
 refine c4E ?_
 unfold c3r
 rw[a2C,oD]
 refine c0g (I:=fun n x3 x6 x7 x8 T=>S=T∧x6=bD bs∧x7= .int .i64 (bs.length:Int)∧∃i:Nat,x8= .int .i64 (i:Int)∧i+n=bs.length∧x3= .int .u32 ((bs.take i).foldl c6n 4294967295)) ?_ (n:=bs.length)
  ⟨rfl,rfl,rfl,0,rfl,by omega,rfl⟩
 rintro n _ _ _ _ _ ⟨rfl,rfl,rfl,i,rfl,hi,rfl⟩
 unfold a9K
 rw[H7,oD,I6]
 refine⟨fun hlt=> ?_,fun hge=> ?_⟩
 ·have hlt:i<bs.length:=by omega
  rw[d1J (List.getElem?_eq_getElem hlt),oD,lsE,List.getElem?_cons_zero,oD,cvI,oD,d6f,oD]
  refine c0l (I:=fun m x3 x6 x7 x8 x16 T=>S=T∧x6=bD bs∧x7= .int .i64 (bs.length:Int)∧x8= .int .i64 (i:Int)∧∃j:Nat,x16= .int .i64 (j:Int)∧j+m=8∧x3= .int .u32 (Nat.repeat d7Y j (d7u ((bs.take i).foldl c6n 4294967295) (IntKind.u32.wrap bs[i])))) ?_ (n:=8)
   ⟨rfl,rfl,rfl,rfl,0,rfl,rfl,rfl⟩
  rintro m _ _ _ _ _ _ ⟨rfl,rfl,rfl,rfl,j,rfl,hj,rfl⟩
  unfold a9s
  rw[H7,oD,I6]
  refine⟨fun hjl=> ?_,fun hjg=> ?_⟩
  ·rw[d1o _ _ _ _ (by decide),oD,d6t,oD,unM,oD,d6t,oD,d6f,oD,D7,oD,l8 (by omega) (by omega)]
   exact⟨m - 1,by omega,rfl,rfl,rfl,rfl,j+1,rfl,by omega,rfl⟩
  ·have hj8:j=8:=by omega
   subst hj8
   rw[D7,oD,l8 (by omega) (by omega)]
   refine⟨n - 1,by omega,rfl,rfl,rfl,i+1,rfl,by omega, ?_⟩
   rw[List.take_add_one,List.getElem?_eq_getElem hlt,List.foldl_append]
   rfl
 ·have hi:i=bs.length:=by omega
  subst hi
  rw[List.take_length]
  have e:unD .xor (.int .u32 (bs.foldl c6n 4294967295))=some (.int .u32 (c4m bs)):=rfl
  rw[e,oD]
  exact d9.pure
theorem d5u{n:Nat}(hn:n<2^40){S:b8}:j8 Tryz.prog E w0 a2B [.nilSlc, .int .i64 (n:Int)] S fun v S'=>GrZ S v [] 1 S':=by
 refine b1o ?_
 unfold a6F
 rw[H7,oD,decide_eq_false (by omega),cdF]
 rw[show c8w .nilSlc=some (.int .i64 0) from rfl,oD,lnN,oD,b4u,oD,l8 (by omega) (by omega),b4u,oD,l8 (by omega) (by omega),a7w,oD,I6]
 refine⟨fun h=> ?_,fun h=>d9.here (.inl (Grw.nil _ _))⟩
 rw[oD,show a1a 1 .nilSlc none (some (.int .i64 0)) none=some .nilSlc from rfl,oD]
 have e:((n:Int) - (0 - 0))=(n:Int):=by omega
 rw[e]at h ⊢
 simp only[b2f]
 rw[if_pos ⟨l8 (by omega) (by omega),by omega,by omega⟩]
 simp only[a1d]
 have hr:List.replicate ((n:Int)).toNat [D.int .u8 0]≠[]:=by rw[Int.toNat_natCast];intro h';have:=congrArg List.length h';simp at this;omega
 rw[if_neg hr]
 refine⟨⟨by decide,by simp;omega⟩, .inr fun k acs hk=> ?_⟩
 have:a1a 1 (.raw k 0 (List.replicate ((n:Int)).toNat [D.int .u8 0]).length (List.replicate ((n:Int)).toNat [D.int .u8 0]).length false 1) none (some (.int .i64 0)) none=some (.raw k 0 0 (List.replicate ((n:Int)).toNat [D.int .u8 0]).length false 1):=by
  have hb:F4 (.int .i64 0) (List.replicate ((n:Int)).toNat [D.int .u8 0]).length=some 0:=by simp[F4]
  simp only[a1a,M9,c7o,b2O,c0K,if_true,Option.bind_some,hb,Option.map_some]
  rfl
 show b7 (some _) _
 rw[oD,this,oD]
 exact d9.here (.inr ⟨rfl,k,_,_,_,acs,hk,rfl,rfl⟩)
def b3h(l:List (List Int)):D:= .lst (l.map fun b=>[bD b]) 1
theorem c5w{l:List (List Int)}{i:Nat}{b:List Int}(h:l[i]? =some b):o6 1 (b3h l) (.int .i64 (i:Int))=some (.elt [bD b] 0):=b1X (by rw[List.getElem?_map,h];rfl)
theorem b6w{l:List (List Int)}{i:Nat}(hi:i<l.length):(l.take (i+1)).flatten=(l.take i).flatten++l[i]:=by
 rw[List.take_add_one,List.getElem?_eq_getElem hi,List.flatten_append];simp
theorem c1p{l:List (List Int)}(i:Nat):(l.take i).flatten.length≤l.flatten.length:=by
 have:l.flatten=(l.take i).flatten++(l.drop i).flatten:=by rw[←List.flatten_append,List.take_append_drop]
 rw[this,List.length_append];omega
theorem d0r{l:List (List Int)}(hl:l.flatten.length<2^40)(hn:l.length<2^40){S:b8}:j8 Tryz.prog E w0 K1 [b3h l] S fun v T=>GrZ S v (B4 (l.flatten.map (D.int .u8))) 1 T:=by
 refine a8Y ?_
 unfold a5f
 have hlen:m9 (b3h l)=some (.int .i64 (l.length:Int)):=by simp[b3h]
 rw[hlen,oD]
 refine a7s (I:=fun n x0 x3 x9 x10 x11 T=>S=T∧x0=b3h l∧x9=b3h l∧x10= .int .i64 (l.length:Int)∧∃i:Nat,x11= .int .i64 (i:Int)∧i+n=l.length∧x3= .int .i64 ((l.take i).flatten.length:Int)) ?_ (n:=l.length)
  ⟨rfl,rfl,rfl,rfl,0,rfl,by omega,rfl⟩
 rintro n _ _ _ _ _ _ ⟨rfl,rfl,rfl,rfl,i,rfl,hi,rfl⟩
 unfold a0o
 rw[H7,oD,I6]
 have hfl:=c1p (l:=l) i
 refine⟨fun hlt=> ?_,fun hge=> ?_⟩
 ·have hlt:i<l.length:=by omega
  have h1:=c1p (l:=l) (i+1)
  rw[b6w hlt,List.length_append]at h1
  rw[c5w (List.getElem?_eq_getElem hlt),oD,lsE,List.getElem?_cons_zero,oD,a2C,oD,D7,oD,l8 (by omega) (by omega),H7,oD,decide_eq_false (by omega),cdF,D7,oD,l8 (by omega) (by omega)]
  exact⟨n - 1,by omega,rfl,rfl,rfl,rfl,i+1,rfl,by omega,by rw[b6w hlt,List.length_append];rfl⟩
 ·refine(d5u (by omega)).use fun v T hg=> ?_
  rw[hlen,oD]
  refine a7x (I:=fun n x6 x25 x26 x27 T=>x25=b3h l∧x26= .int .i64 (l.length:Int)∧∃i:Nat,x27= .int .i64 (i:Int)∧i+n=l.length∧GrZ S x6 (B4 ((l.take i).flatten.map (D.int .u8))) 1 T) ?_ (n:=l.length)
   ⟨rfl,rfl,0,rfl,by omega,hg⟩
  rintro n x6 _ _ _ T ⟨rfl,rfl,i,rfl,hi,hg⟩
  unfold a0m
  rw[H7,oD,I6]
  have hfl:=c1p (l:=l) i
  refine⟨fun hlt=> ?_,fun hge=> ?_⟩
  ·have hlt:i<l.length:=by omega
   have h1:=c1p (l:=l) (i+1)
   rw[b6w hlt,List.length_append]at h1
   rw[c5w (List.getElem?_eq_getElem hlt),oD,lsE,List.getElem?_cons_zero,oD]
   have hnext:B4 ((l.take (i+1)).flatten.map (D.int .u8))=B4 ((l.take i).flatten.map (D.int .u8))++B4 (l[i].map (D.int .u8)):=by rw[b6w hlt,List.map_append,a4S]
   by_cases he:l[i]=[]
   ·rw[he,List.map_nil]at hnext
    have hskip:∀K:D→b8→Prop,K x6 T→w9 T 1 1 x6 (bD l[i]) K:=fun K hK=>by
     rw[he]
     simp only[w9,c1u]
     rcases hg with (⟨rfl,_,rfl⟩|⟨k,acs,_,rfl,rfl⟩)|⟨_,k,cap,ex,zr,acs,_,rfl,rfl⟩<;>exact hK
    refine hskip _ ?_
    rw[D7,oD,l8 (by omega) (by omega)]
    exact⟨n - 1,by omega,rfl,rfl,i+1,rfl,by omega,by rw[hnext];simpa [B4]using hg⟩
   ·refine hg.push (c1u _ _) (by simpa [B4]using he) (by simp only[b2d,List.length_map];omega) fun t' T' hg'=> ?_
    rw[D7,oD,l8 (by omega) (by omega)]
    exact⟨n - 1,by omega,rfl,rfl,i+1,rfl,by omega, .inl (by rw[hnext];exact hg')⟩
  ·have hi:i=l.length:=by omega
   subst hi
   rw[List.take_length]at hg
   exact d9.here hg
end
end Go.Proofs.YtdkidgkiplcggaaGreat.d
end
