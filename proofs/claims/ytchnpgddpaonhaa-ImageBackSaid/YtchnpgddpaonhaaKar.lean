/-
  ImageBackSaid: part Kar of its proof.
-/
import Derived.Test.YtchnpgddpaonhaaRows
import Derived.Test.YtchnpgddpaonhaaKaq
import Derived.KernelRfl
set_option linter.unusedVariables false
set_option linter.unusedSimpArgs false
set_option maxRecDepth 100000
section
open Go.Proofs Go Go.Am
namespace Go.Proofs.Ytchnpgddpaonhaa.d
def c4N:List (Nat×List Nat):=[]
def c5u:List (Nat×List Nat):=[]
def c5q:List (Nat×X5):=[]
def b8r(E:m7)(w0:o0)(Q:D→b7→Prop)(a0:D)(S:b7):Prop:=
 a9 (d8 .eql a0 (.int .u8 1)) fun v0=>
 j8 v0
 (Q (.int .i64 8) S)
 (a9 (d8 .eql a0 (.int .u8 2)) fun v1=>
 j8 v1
 (Q (.int .i64 32) S)
 (a9 (d8 .eql a0 (.int .u8 3)) fun v2=>
 j8 v2
 (Q (.int .i64 64) S)
 (Q (.int .i64 0) S)))
theorem c1u{E:m7}{w0:o0}{Q:D→b7→Prop}{a0:D}{S:b7}(h:b8r E w0 (d9 E Q) a0 S):o5 Try.prog E w0 b1E [a0] S Q:=
 m9 c4N c5u c5q (fn:=Try.f97) (c:=Try.f97.body.getD .skip) o7 Try.func97 (by kernel_rfl) (by kernel_rfl) h
def c5j:List (Nat×List Nat):=[]
def c5F:List (Nat×List Nat):=[]
def c4T:List (Nat×X5):=[]
def b8u(E:m7)(w0:o0)(Q:D→b7→Prop)(a0 a1:D)(S:b7):Prop:=
 a9 (d8 .eql a0 (.int .u8 1)) fun v0=>
 j8 v0
 (a9 (I8 .i8 a1) fun v1=>
 a9 (I8 .i64 v1) fun v2=>
 Q v2 S)
 (a9 (d8 .eql a0 (.int .u8 2)) fun v3=>
 j8 v3
 (a9 (I8 .i32 a1) fun v4=>
 a9 (I8 .i64 v4) fun v5=>
 Q v5 S)
 (a9 (d8 .eql a0 (.int .u8 3)) fun v6=>
 j8 v6
 (Q a1 S)
 (Q (.int .i64 0) S)))
theorem c0O{E:m7}{w0:o0}{Q:D→b7→Prop}{a0 a1:D}{S:b7}(h:b8u E w0 (d9 E Q) a0 a1 S):o5 Try.prog E w0 b2v [a0,a1] S Q:=
 m9 c5j c5F c4T (fn:=Try.f98) (c:=Try.f98.body.getD .skip) o7 Try.func98 (by kernel_rfl) (by kernel_rfl) h
def c5m:List (Nat×List Nat):=[]
def c5c:List (Nat×List Nat):=[]
def c5o:List (Nat×X5):=[]
def b8G(E:m7)(w0:o0)(Q:D→b7→Prop)(a0 a1:D)(S:b7):Prop:=
 o5 Try.prog E w0 b1E [a0] S fun v0 S1=>
 a9 (d8 .gtr v0 (.int .i64 0)) fun v2=>
 a9 (f0 (d6 v2 true) (some a0)) fun v3=>
 a9 (f0 (d6 v2 true) (some a1)) fun v4=>
 a0N (d6 v2 true) (fun K=>o5 Try.prog E w0 b2v [v3,v4] S1 K) S1 fun v5 S6=>
 a9 (f0 (d6 v2 true) (some a1)) fun v7=>
 a9 (f0 (d6 v2 true) (d8 .eql v5 v7)) fun v8=>
 a9 (t8 v2 v8 (.bool false)) fun v9=>
 Q v9 S6
theorem c1U{E:m7}{w0:o0}{Q:D→b7→Prop}{a0 a1:D}{S:b7}(h:b8G E w0 (d9 E Q) a0 a1 S):o5 Try.prog E w0 b1J [a0,a1] S Q:=
 m9 c5m c5c c5o (fn:=Try.f94) (c:=Try.f94.body.getD .skip) o7 Try.func94 (by kernel_rfl) (by kernel_rfl) h
def a7J:List (Nat×List Nat):=[(10,[0,5,15,16])]
def a7Y:List (Nat×List Nat):=[]
def a8f:List (Nat×X5):=[]
noncomputable def a6Q:Code:=(l9 [1,1,1,0,1,0,0] (Try.f25.body.getD .skip))
def a6O(E:m7)(w0:o0)(Q:D→b7→Prop):r6→List D→b7→Prop:=
 (s8 0 (G7 Try.prog E w0 a7J a7Y a8f (l9 [1,1,1,1] (Try.f25.body.getD .skip)) (G8 Try.prog Try.f25 Q)))
def a6p(E:m7)(w0:o0)(N0:D→D→D→D→b7→Prop)(Q:D→b7→Prop)(x0 x5 x15 x16:D)(S:b7):Prop:=
 a9 (d8 .lss x16 x15) fun v6=>
 j8 v6
 (a9 (d8 .mul (.int .i64 8) x16) fun v7=>
 a9 (d8 .shr x0 v7) fun v8=>
 a9 (I8 .u8 v8) fun v9=>
 a9 (A0 1 x5 x16) fun v10=>
 i9 S 1 v10 v9 fun v11 S12=>
 a9 (d8 .add x16 (.int .i64 1)) fun v13=>
 N0 x0 x5 x15 v13 S12)
 (Q x5 S)
theorem b5x{E:m7}{w0:o0}{N0:D→D→D→D→b7→Prop}{Q:D→b7→Prop}{x0 x5 x15 x16:D}{S:b7}(h:a6p E w0 N0 Q x0 x5 x15 x16 S):
  j9 Try.prog E w0 a6Q (n9 29 [0,5,15,16] [x0,x5,x15,x16]) S (A8 (fun T S=>N0 (T.getD 0 b8) (T.getD 5 b8) (T.getD 15 b8) (T.getD 16 b8) S) (a6O E w0 Q)):=l8 a7J a7Y a8f o7 (by kernel_rfl) h
theorem b6g{E:m7}{w0:o0}{Q:D→b7→Prop}(I:Nat→D→D→D→D→b7→Prop)
  (step:∀n x0 x5 x15 x16 S,I n x0 x5 x15 x16 S→a6p E w0 (fun x0 x5 x15 x16 S=>∃m,m<n∧I m x0 x5 x15 x16 S) Q x0 x5 x15 x16 S)
  {n:Nat} {x0 x5 x15 x16:D} {S:b7} (h:I n x0 x5 x15 x16 S):j9 Try.prog E w0 (.loop a6Q) (n9 29 [0,5,15,16] [x0,x5,x15,x16]) S (a6O E w0 Q):=
 r0 (k:=29) (n:=n) (I:=fun n T S=>I n (T.getD 0 b8) (T.getD 5 b8) (T.getD 15 b8) (T.getD 16 b8) S) (fun n T S hl hI=>r9 [0,5,15,16] hl (j9.mono (b5x (step n _ _ _ _ S hI)) fun ex T' S' _ hq=>by cases ex<;>exact hq)) (o3 ..) (Eq.mp (by kernel_rfl) h)
def b6I(E:m7)(w0:o0)(Q:D→b7→Prop)(a0 a1:D)(S:b7):Prop:=
 a9 (d8 .lss a1 (.int .i64 1)) fun v0=>
 a9 (f0 (d6 v0 false) (some a1)) fun v1=>
 a9 (f0 (d6 v0 false) (d8 .gtr v1 (.int .i64 8))) fun v2=>
 a9 (t8 v0 (.bool true) v2) fun v3=>
 j8 v3
 (Q .nilSlc S)
 (b4g S 1 1 [(.int .u8 0)] a1 a1 fun v4 S5=>
 j9 Try.prog E w0 (.loop a6Q) (n9 29 [0,5,15,16] [a0,v4,a1,(.int .i64 0)]) S5 (a6O E w0 Q))
theorem c0b{E:m7}{w0:o0}{Q:D→b7→Prop}{a0 a1:D}{S:b7}(h:b6I E w0 (d9 E Q) a0 a1 S):o5 Try.prog E w0 a1z [a0,a1] S Q:=
 m9 a7J a7Y a8f (fn:=Try.f25) (c:=Try.f25.body.getD .skip) o7 Try.func25 (by kernel_rfl) (by kernel_rfl) h
def a9L:List (Nat×List Nat):=[(20,[0,1,2,9,29,30])]
def a9y:List (Nat×List Nat):=[]
def a9B:List (Nat×X5):=[]
noncomputable def a8g:Code:=(l9 [1,1,1,0,1,0,0] (Try.f56.body.getD .skip))
def a7M(E:m7)(w0:o0)(Q:D→b7→Prop):r6→List D→b7→Prop:=
 (s8 1 (G7 Try.prog E w0 a9L a9y a9B (l9 [1,1,1,1] (Try.f56.body.getD .skip)) (G8 Try.prog Try.f56 Q)))
def a7P(E:m7)(w0:o0)(N0:D→D→D→D→D→D→b7→Prop)(Q:D→b7→Prop)(x0 x1 x2 x9 x29 x30:D)(S:b7):Prop:=
 a9 (d8 .lss x30 x29) fun v3=>
 j8 v3
 (a9 (d8 .add x1 x30) fun v4=>
 a9 (A0 1 x0 v4) fun v5=>
 a9 (b9 S v5) fun v6=>
 a9 (I8 .u64 v6) fun v7=>
 a9 (d8 .mul (.int .i64 8) x30) fun v8=>
 a9 (d8 .shl v7 v8) fun v9=>
 a9 (d8 .or x9 v9) fun v10=>
 a9 (d8 .add x30 (.int .i64 1)) fun v11=>
 N0 x0 x1 x2 v10 x29 v11 S)
 (a9 (d8 .add x1 x2) fun v12=>
 Q (.tup [x9,v12,(.int .i64 0)]) S)
theorem b7r{E:m7}{w0:o0}{N0:D→D→D→D→D→D→b7→Prop}{Q:D→b7→Prop}{x0 x1 x2 x9 x29 x30:D}{S:b7}(h:a7P E w0 N0 Q x0 x1 x2 x9 x29 x30 S):
  j9 Try.prog E w0 a8g (n9 50 [0,1,2,9,29,30] [x0,x1,x2,x9,x29,x30]) S (A8 (fun T S=>N0 (T.getD 0 b8) (T.getD 1 b8) (T.getD 2 b8) (T.getD 9 b8) (T.getD 29 b8) (T.getD 30 b8) S) (a7M E w0 Q)):=l8 a9L a9y a9B o7 (by kernel_rfl) h
theorem b8b{E:m7}{w0:o0}{Q:D→b7→Prop}(I:Nat→D→D→D→D→D→D→b7→Prop)
  (step:∀n x0 x1 x2 x9 x29 x30 S,I n x0 x1 x2 x9 x29 x30 S→a7P E w0 (fun x0 x1 x2 x9 x29 x30 S=>∃m,m<n∧I m x0 x1 x2 x9 x29 x30 S) Q x0 x1 x2 x9 x29 x30 S)
  {n:Nat} {x0 x1 x2 x9 x29 x30:D} {S:b7} (h:I n x0 x1 x2 x9 x29 x30 S):j9 Try.prog E w0 (.loop a8g) (n9 50 [0,1,2,9,29,30] [x0,x1,x2,x9,x29,x30]) S (a7M E w0 Q):=
 r0 (k:=50) (n:=n) (I:=fun n T S=>I n (T.getD 0 b8) (T.getD 1 b8) (T.getD 2 b8) (T.getD 9 b8) (T.getD 29 b8) (T.getD 30 b8) S) (fun n T S hl hI=>r9 [0,1,2,9,29,30] hl (j9.mono (b7r (step n _ _ _ _ _ _ S hI)) fun ex T' S' _ hq=>by cases ex<;>exact hq)) (o3 ..) (Eq.mp (by kernel_rfl) h)
def a1U(E:m7)(w0:o0)(Q:D→b7→Prop)(x0 x1 x2 x11:D)(S:b7):Prop:=
 j8 x11
 (Q (.tup [(.int .u64 0),(.int .i64 0),(.int .i64 2)]) S)
 (a9 (p7 x0) fun v0=>
 a9 (d8 .sub v0 x1) fun v1=>
 a9 (d8 .gtr x2 v1) fun v2=>
 j8 v2
 (Q (.tup [(.int .u64 0),(.int .i64 0),(.int .i64 10)]) S)
 (j9 Try.prog E w0 (.loop a8g) (n9 50 [0,1,2,9,29,30] [x0,x1,x2,(.int .u64 0),x2,(.int .i64 0)]) S (a7M E w0 Q)))
def b8J(E:m7)(w0:o0)(Q:D→b7→Prop)(a0 a1 a2:D)(S:b7):Prop:=
 a9 (d8 .lss a2 (.int .i64 1)) fun v13=>
 j8 v13
 (a1U E w0 Q a0 a1 a2 v13 S)
 (a9 (d8 .gtr a2 (.int .i64 8)) fun v14=>
 j8 v14
 (a1U E w0 Q a0 a1 a2 v14 S)
 (a9 (d8 .lss a1 (.int .i64 0)) fun v15=>
 j8 v15
 (a1U E w0 Q a0 a1 a2 v15 S)
 (a9 (p7 a0) fun v16=>
 a9 (d8 .gtr a1 v16) fun v17=>
 a1U E w0 Q a0 a1 a2 v17 S)))
theorem c0C{E:m7}{w0:o0}{Q:D→b7→Prop}{a0 a1 a2:D}{S:b7}(h:b8J E w0 (d9 E Q) a0 a1 a2 S):o5 Try.prog E w0 a4N [a0,a1,a2] S Q:=
 m9 a9L a9y a9B (fn:=Try.f56) (c:=Try.f56.body.getD .skip) o7 Try.func56 (by kernel_rfl) (by kernel_rfl) h
def c0B:List (Nat×List Nat):=[]
def c2D:List (Nat×List Nat):=[]
def c0Q:List (Nat×X5):=[]
def b4k(E:m7)(w0:o0)(Q:D→b7→Prop)(a0 a1:D)(S:b7):Prop:=
 a9 (r4 a0) fun cs=>o6 S cs fun v0 S1=>
 a9 (r4 a1) fun cs=>o6 S1 cs fun v2 S3=>
 a9 (some (.fn (.func a0C) [] [v0,v2])) fun v4=>
 Q v4 S3
theorem b7k{E:m7}{w0:o0}{Q:D→b7→Prop}{a0 a1:D}{S:b7}(h:b4k E w0 (d9 E Q) a0 a1 S):o5 Try.prog E w0 u5 [a0,a1] S Q:=
 m9 c0B c2D c0Q (fn:=Try.f80) (c:=Try.f80.body.getD .skip) o7 Try.func80 (by kernel_rfl) (by kernel_rfl) h
def c7F:List (Nat×List Nat):=[]
def c7C:List (Nat×List Nat):=[]
def c7d:List (Nat×X5):=[]
def c0Y(E:m7)(w0:o0)(Q:D→b7→Prop)(a0:D)(S:b7):Prop:=
 a9 (r4 a0) fun cs=>o6 S cs fun v0 S1=>
 a9 (some (.fn (.func a3n) [] [v0])) fun v2=>
 Q v2 S1
theorem c3b{E:m7}{w0:o0}{Q:D→b7→Prop}{a0:D}{S:b7}(h:c0Y E w0 (d9 E Q) a0 S):o5 Try.prog E w0 E2 [a0] S Q:=
 m9 c7F c7C c7d (fn:=Try.f81) (c:=Try.f81.body.getD .skip) o7 Try.func81 (by kernel_rfl) (by kernel_rfl) h
def b7G:List (Nat×List Nat):=[]
def b7U:List (Nat×List Nat):=[]
def b7m:List (Nat×X5):=[]
def b0L(E:m7)(w0:o0)(Q:D→b7→Prop)(a0 c0 c1:D)(S:b7):Prop:=
 a9 (b9 S c0) fun v0=>
 a9 (d8 .leq v0 a0) fun v1=>
 a9 (f0 (d6 v1 true) (some a0)) fun v2=>
 a9 (f0 (d6 v1 true) (b9 S c1)) fun v3=>
 a9 (f0 (d6 v1 true) (d8 .leq v2 v3)) fun v4=>
 a9 (t8 v1 v4 (.bool false)) fun v5=>
 Q v5 S
theorem b4V{E:m7}{w0:o0}{Q:D→b7→Prop}{a0 c0 c1:D}{S:b7}(h:b0L E w0 (d9 E Q) a0 c0 c1 S):o5 Try.prog E w0 a0C [a0,c0,c1] S Q:=
 m9 b7G b7U b7m (fn:=Try.f92) (c:=Try.f92.body.getD .skip) o7 Try.func92 (by kernel_rfl) (by kernel_rfl) h
def c3n:List (Nat×List Nat):=[]
def c3f:List (Nat×List Nat):=[]
def c2P:List (Nat×X5):=[]
def b6Y(E:m7)(w0:o0)(Q:D→b7→Prop)(a0 c0:D)(S:b7):Prop:=
 a9 (b9 S c0) fun v0=>
 o5 Try.prog E w0 b1J [v0,a0] S fun v1 S2=>
 Q v1 S2
theorem b9L{E:m7}{w0:o0}{Q:D→b7→Prop}{a0 c0:D}{S:b7}(h:b6Y E w0 (d9 E Q) a0 c0 S):o5 Try.prog E w0 a3n [a0,c0] S Q:=
 m9 c3n c3f c2P (fn:=Try.f93) (c:=Try.f93.body.getD .skip) o7 Try.func93 (by kernel_rfl) (by kernel_rfl) h
end Go.Proofs.Ytchnpgddpaonhaa.d
end
section
namespace Go.Am
section
variable{P:Program}{E:m7}{w0:o0}
@[simp] theorem oD{α:Type}(a:α)(Q:α→Prop):a9 (some a) Q=Q a:=(rfl)
@[simp] theorem cdT(a b:Prop):j8 (.bool true) a b=a:=(rfl)
@[simp] theorem cdF(a b:Prop):j8 (.bool false) a b=b:=(rfl)
theorem cdB(t:Bool)(a b:Prop):j8 (.bool t) a b↔(t=true→a)∧(t=false→b):=by cases t<;>simp
theorem J6(p:Prop)[Decidable p](a b:Prop):j8 (.bool (decide p)) a b↔(p→a)∧(¬p→b):=by
 by_cases h:p<;>simp[h]
@[simp] theorem gdT(s:(D→b7→Prop)→Prop)(S:b7)(Q:D→b7→Prop):a0N (some true) s S Q=s Q:=(rfl)
@[simp] theorem gdF(s:(D→b7→Prop)→Prop)(S:b7)(Q:D→b7→Prop):a0N (some false) s S Q=Q b8 S:=(rfl)
@[simp] theorem vdT(r:Option D):f0 (some true) r=r:=(rfl)
@[simp] theorem vdF(r:Option D):f0 (some false) r=some b8:=(rfl)
@[simp] theorem R7(b w:Bool):d6 (.bool b) w=some (b==w):=(rfl)
@[simp] theorem wdU(w:Bool):d6 b8 w=some false:=(rfl)
@[simp] theorem U3(t:Bool)(a b:D):t8 (.bool t) a b=some (if t then a else b):=(rfl)
@[simp] theorem exD(vs:List D)(i:Nat):o9 (.tup vs) i=vs[i]? :=(rfl)
@[simp] theorem ndP(k i:Nat):W6 (.ptr k i)=some (.ptr k i):=(rfl)
@[simp] theorem ndR(k r i sz:Nat):W6 (.rel k r i sz)=some (.rel k r i sz):=(rfl)
@[simp] theorem ndE(row:List D)(i:Nat):W6 (.elt row i)=some (.elt row i):=(rfl)
@[simp] theorem ndF(f:FuncId)(a b:List D):W6 (.fn (.func f) a b)=some (.fn (.func f) a b):=(rfl)
@[simp] theorem ndI(t:TypeId)(v:D):W6 (.ifc t v)=some (.ifc t v):=(rfl)
@[simp] theorem H5(k i o:Nat):m6 o (.ptr k i)=some (.ptr k (i+o)):=(rfl)
@[simp] theorem ofR(k r i sz o:Nat):m6 o (.rel k r i sz)=some (.rel k r (i+o) sz):=(rfl)
@[simp] theorem ofE(row:List D)(i o:Nat):m6 o (.elt row i)=some (.elt row (i+o)):=(rfl)
@[simp] theorem paA(off n:Nat)(cs:List D):c5t off n (.agg cs)=some (.agg ((cs.drop off).take n)):=(rfl)
@[simp] theorem psA(off:Nat)(cs:List D):c4r off (.agg cs)=cs[off]? :=(rfl)
@[simp] theorem lnN:p7 .nilSlc=some (.int .i64 0):=(rfl)
@[simp] theorem lnL(rows:List (List D))(sz:Nat):p7 (.lst rows sz)=some (.int .i64 rows.length):=(rfl)
@[simp] theorem lnE(rows more:List (List D))(sz:Nat):p7 (.ext rows more sz)=some (.int .i64 rows.length):=(rfl)
@[simp] theorem lnR(k i len cap:Nat)(ex:Bool)(sz:Nat):p7 (.raw k i len cap ex sz)=some (.int .i64 len):=(rfl)
@[simp] theorem lnS(s:List UInt8):a3P (.str s)=some (.int .i64 s.length):=(rfl)
@[simp] theorem cvI(k k':IntKind)(n:Int):I8 k (.int k' n)=some (.int k (k.wrap n)):=(rfl)
@[simp] theorem cvS(s:List UInt8):c4C (.str s)=some (.str s):=(rfl)
@[simp] theorem unN(b:Bool):unD .not (.bool b)=some (.bool !b):=(rfl)
@[simp] theorem unM(k:IntKind)(n:Int):unD .neg (.int k n)=some (.int k (k.wrap (0 - n))):=(rfl)
@[simp] theorem C4(k:IntKind)(a b:Int):d8 .add (.int k a) (.int k b)=some (.int k (k.wrap (a+b))):=by simp[d8,R5,a1n]
@[simp] theorem b0O(k:IntKind)(a b:Int):d8 .sub (.int k a) (.int k b)=some (.int k (k.wrap (a - b))):=by simp[d8,R5,a1n]
@[simp] theorem c9X(k:IntKind)(a b:Int):d8 .mul (.int k a) (.int k b)=some (.int k (k.wrap (a*b))):=by simp[d8,R5,a1n]
@[simp] theorem a0E(k:IntKind)(a b:Int):d8 .eql (.int k a) (.int k b)=some (.bool (a==b)):=by simp[d8,R5,a1n]
@[simp] theorem b0B(k:IntKind)(a b:Int):d8 .neq (.int k a) (.int k b)=some (.bool (a != b)):=by simp[d8,R5,a1n]
@[simp] theorem J0(k:IntKind)(a b:Int):d8 .lss (.int k a) (.int k b)=some (.bool (decide (a<b))):=by simp[d8,R5,a1n]
@[simp] theorem d1E(k:IntKind)(a b:Int):d8 .leq (.int k a) (.int k b)=some (.bool (decide (a≤b))):=by simp[d8,R5,a1n]
@[simp] theorem a3U(k:IntKind)(a b:Int):d8 .gtr (.int k a) (.int k b)=some (.bool (decide (a>b))):=by simp[d8,R5,a1n]
@[simp] theorem b3b(k:IntKind)(a b:Int):d8 .geq (.int k a) (.int k b)=some (.bool (decide (a≥b))):=by simp[d8,R5,a1n]
@[simp] theorem c3U(k:IntKind)(a b:Int):d8 .and (.int k a) (.int k b)=some (.int k (k.wrap (BitVec.ofInt k.bits a &&& BitVec.ofInt k.bits b).toNat)):=by simp[d8,R5,a1n]
@[simp] theorem d5p(k:IntKind)(a b:Int):d8 .or (.int k a) (.int k b)=some (.int k (k.wrap (BitVec.ofInt k.bits a ||| BitVec.ofInt k.bits b).toNat)):=by simp[d8,R5,a1n]
@[simp] theorem d3Y(k:IntKind)(a b:Int):d8 .xor (.int k a) (.int k b)=some (.int k (k.wrap (BitVec.ofInt k.bits a ^^^ BitVec.ofInt k.bits b).toNat)):=by simp[d8,R5,a1n]
theorem d3X(k k':IntKind)(a:Int)(b:Int)(h:0≤b):d8 .shl (.int k a) (.int k' b)=some (.int k (k.wrap (a*2^(min b.toNat k.bits)))):=by simp only[d8];rw[if_neg (by omega)]
theorem d2K(k k':IntKind)(a:Int)(b:Int)(h:0≤b):d8 .shr (.int k a) (.int k' b)=some (.int k (a.fdiv (2^(min b.toNat k.bits)))):=by simp only[d8];rw[if_neg (by omega)]
@[simp] theorem d6E(a b:List UInt8):b5U .add (.str a) (.str b)=if((a.length+b.length:Nat):Int)≤IntKind.i64.max then some (.str (a++b)) else none:=by
 simp only[b5U,a7C];split<;>rfl
@[simp] theorem d3l(a b:List UInt8):b5U .eql (.str a) (.str b)=some (.bool (a==b)):=(rfl)
@[simp] theorem d6l(a b:List UInt8):b5U .neq (.str a) (.str b)=some (.bool !(a==b)):=(rfl)
@[simp] theorem eqE(b:Bool):b1g .eql (some b)=some (.bool b):=(rfl)
@[simp] theorem eqN(b:Bool):b1g .neq (some b)=some (.bool !b):=(rfl)
@[simp] theorem d6K(a b:Bool):d4S (.bool a) (.bool b)=some (a==b):=(rfl)
@[simp] theorem clB(b:Bool):r4 (.bool b)=some [.bool b]:=(rfl)
@[simp] theorem clI(k:IntKind)(n:Int):r4 (.int k n)=some [.int k n]:=(rfl)
@[simp] theorem clS(s:List UInt8):r4 (.str s)=some [.str s]:=(rfl)
@[simp] theorem clN:r4 .nilSlc=some [.nilSlc]:=(rfl)
@[simp] theorem clP:r4 .nilPtr=some [.nilPtr]:=(rfl)
@[simp] theorem clF:r4 .nilFn=some [.nilFn]:=(rfl)
@[simp] theorem clL(rows:List (List D))(sz:Nat):r4 (.lst rows sz)=some [.lst rows sz]:=(rfl)
@[simp] theorem clE(rows more:List (List D))(sz:Nat):r4 (.ext rows more sz)=some [.ext rows more sz]:=(rfl)
@[simp] theorem clR(k i len cap:Nat)(ex:Bool)(sz:Nat):r4 (.raw k i len cap ex sz)=some [.raw k i len cap ex sz]:=(rfl)
@[simp] theorem clA(cs:List D):r4 (.agg cs)=some cs:=(rfl)
@[simp] theorem d6I(k i:Nat):r4 (.ptr k i)=some [.ptr k i]:=(rfl)
@[simp] theorem d6M(f:Fn)(a b:List D):r4 (.fn f a b)=some [.fn f a b]:=(rfl)
@[simp] theorem d6L(t:TypeId)(v:D):r4 (.ifc t v)=some [.ifc t v]:=(rfl)
@[simp] theorem agS(cs:List D):E6 (some cs)=some (.agg cs):=(rfl)
@[simp] theorem fiN(cs:List D):w6 cs []=some cs:=(rfl)
@[simp] theorem frN(sz:Nat)(rows:List (List D)):q9 sz rows []=some rows:=(rfl)
@[simp] theorem lsE(row:List D)(i:Nat)(S:b7):b9 S (.elt row i)=row[i]? :=(rfl)
@[simp] theorem laE(row:List D)(i n:Nat)(S:b7):j0 S n (.elt row i)=if 0<n∧i+n≤row.length then some (.agg ((row.drop i).take n)) else none:=(rfl)
@[simp] theorem mxD(k:IntKind)(a b:Int):b6h true [.int k a, .int k b]=some (.int k (if b>a then b else a)):=(rfl)
@[simp] theorem mnD(k:IntKind)(a b:Int):b6h false [.int k a, .int k b]=some (.int k (if b<a then b else a)):=(rfl)
theorem b5P{rows:List (List D)}{sz i:Nat}{row:List D}(h:rows[i]? =some row):A0 sz (.lst rows sz) (.int .i64 (i:Int))=some (.elt row 0):=by
 simp only[A0]
 rw[if_pos ⟨by trivial,by omega⟩,Int.toNat_natCast,h]
theorem d6r{rows more:List (List D)}{sz i:Nat}{row:List D}(h:rows[i]? =some row):A0 sz (.ext rows more sz) (.int .i64 (i:Int))=some (.elt row 0):=by
 simp only[A0]
 rw[if_pos ⟨by trivial,by omega⟩,Int.toNat_natCast,h]
theorem d6z{k i len cap sz j:Nat}{ex:Bool}(h:j<len):A0 sz (.raw k i len cap ex sz) (.int .i64 (j:Int))=some (.rel k (i+j) 0 sz):=by
 simp only[A0]
 rw[if_pos ⟨by trivial,by omega,by omega⟩,Int.toNat_natCast]
theorem c2c{s:List UInt8}{i:Nat}{b:UInt8}(h:s[i]? =some b):c4Q (.str s) (.int .i64 (i:Int))=some (.int .u8 b.toNat):=by
 simp only[c4Q]
 rw[if_pos (by omega),Int.toNat_natCast,h]
theorem b7.fresh{S:b7}{j k:Nat}{o:M4}(h:(S.set j o) k=Option.none):k≠j∧S k=Option.none:=by
 unfold b7.set at h
 split at h
 ·cases h
 ·rename_i e;exact⟨e,h⟩
theorem c3P{S:b7}{k i sz:Nat}{cs:List D}{acs:List AV}(h:S k=some ⟨sz,[cs],acs⟩):c3z S (.ptr k i)=some (cs,i):=by
 simp only[c3z,h]
theorem ldP{S:b7}{k i sz:Nat}{cs:List D}{acs:List AV}(h:S k=some ⟨sz,[cs],acs⟩):b9 S (.ptr k i)=cs[i]? :=by simp only[b9,c3P h]
theorem laP{S:b7}{k i n sz:Nat}{cs:List D}{acs:List AV}(h:S k=some ⟨sz,[cs],acs⟩)(hn:0<n∧i+n≤cs.length):j0 S n (.ptr k i)=some (.agg ((cs.drop i).take n)):=by
 simp only[j0,c3P h];rw[if_pos hn]
theorem stP{S:b7}{k i n sz:Nat}{cs ds:List D}{acs:List AV}{v:D}{K:D→b7→Prop}(h:S k=some ⟨sz,[cs],acs⟩)(hv:r4 v=some ds)(hn:ds.length=n∧0<n∧i+n≤cs.length)
  (hK:∀acs,K b8 (S.set k ⟨sz,[o8 cs i ds],acs⟩)):i9 S n (.ptr k i) v K:=by
 simp only[i9,hv,h]
 rw[if_pos ⟨hn.1,hn.2.1⟩,if_pos hn.2.2]
 exact hK
theorem stR{S:b7}{k r i n sz:Nat}{rows:List (List D)}{row ds:List D}{acs:List AV}{v:D}{K:D→b7→Prop}(h:S k=some ⟨sz,rows,acs⟩)(hr:rows[r]? =some row)(hv:r4 v=some ds)(hn:ds.length=n∧0<n∧i+n≤row.length)
  (hK:∀acs,K b8 (S.set k ⟨sz,rows.set r (o8 row i ds),acs⟩)):i9 S n (.rel k r i sz) v K:=by
 simp only[i9,hv,h,hr]
 rw[if_pos ⟨hn.1,hn.2.1⟩,if_pos (by trivial),if_pos hn.2.2]
 exact hK
theorem b7.set_in(S:b7){k l:Nat}(h:k≠l)(a b c:M4):((S.set k a).set l b).set k c=(S.set k c).set l b:=by
 rw[b7.set_comm S h,b7.set_set,b7.set_comm S h]
theorem b7.le_new{S:b7}{k:Nat}{o:M4}(h:S k=Option.none):S.le (S.set k o):=b7.le_set (b7.le_refl S) h
def B0(l:List D):List (List D):=l.map fun d=>[d]
@[simp] theorem b2f(l:List D):(B0 l).length=l.length:=List.length_map _
theorem b5K{l:List D}{i:Nat}{d:D}(h:l[i]? =some d):(B0 l)[i]? =some [d]:=by simp only[B0,List.getElem?_map,h];rfl
def Grw(S0:b7)(t:D)(rows:List (List D))(sz:Nat)(S:b7):Prop:=
 (t= .nilSlc∧rows=[]∧S=S0)∨∃k acs,S0 k=Option.none∧t= .raw k 0 rows.length rows.length false sz∧S=S0.set k ⟨sz,rows,acs⟩
theorem Grw.nil(S:b7)(sz:Nat):Grw S .nilSlc [] sz S:= .inl ⟨rfl,rfl,rfl⟩
theorem Grw.le{S0 S:b7}{t:D}{rows:List (List D)}{sz:Nat}(h:Grw S0 t rows sz S):S0.le S:=by
 rcases h with ⟨_,_,rfl⟩|⟨k,acs,h,_,rfl⟩
 ·exact b7.le_refl _
 ·exact b7.le_new h
theorem Grw.len{S0 S:b7}{t:D}{rows:List (List D)}{sz:Nat}(h:Grw S0 t rows sz S):p7 t=some (.int .i64 rows.length):=by
 rcases h with ⟨rfl,rfl,rfl⟩|⟨k,acs,h,rfl,rfl⟩<;>rfl
theorem Grw.push{S0 S:b7}{t:D}{rows:List (List D)}{sz bytes:Nat}(h:Grw S0 t rows sz S){v:D}{news:List (List D)}(hv:rowsS S sz v=some news)(hb:0<bytes∧(2*(rows.length+news.length)+768)*bytes≤2^47){K:D→b7→Prop}
  (hK:∀t' S',Grw S0 t' (rows++news) sz S'→K t' S'):A1 S sz bytes t v K:=by
 simp only[A1,hv]
 rcases h with ⟨rfl,rfl,rfl⟩|⟨k,acs,h,rfl,rfl⟩
 ·simp only[a5m]
  by_cases hn:news=[]
  ·rw[if_pos hn]
   exact hK _ _ (.inl ⟨rfl,by rw[hn];rfl,rfl⟩)
  ·rw[if_neg hn]
   refine⟨⟨hb.1,by simpa using hb.2⟩, .inr fun k acs hk=>hK _ _ (.inr ⟨k,acs,hk, ?_, ?_⟩)⟩<;>simp
 ·simp only[a5m]
  by_cases hn:news=[]
  ·rw[if_pos hn]
   refine hK _ _ (.inr ⟨k,acs,h, ?_, ?_⟩)<;>simp[hn]
  ·rw[if_neg hn,b7.set_same]
   simp only
   rw[if_pos ⟨by trivial,by trivial,by omega⟩]
   refine⟨hb, .inr fun k' acs' hk'=> ?_⟩
   rw[b7.erase_set _ _ _ h]at hk' ⊢
   refine hK _ _ (.inr ⟨k',acs',hk', ?_, ?_⟩)<;>simp
theorem Grw.swap{S0 S1 S:b7}{t u:D}{r q:List (List D)}{s z:Nat}(h:Grw S0 t r s S1)(h':Grw S1 u q z S):∃S2,Grw S0 u q z S2∧Grw S2 t r s S:=by
 rcases h with ⟨rfl,rfl,rfl⟩|⟨k,acs,hk,rfl,rfl⟩
 ·exact⟨S,h', .inl ⟨rfl,rfl,rfl⟩⟩
 ·rcases h' with ⟨rfl,rfl,rfl⟩|⟨l,bcs,hl,rfl,rfl⟩
  ·exact⟨S0, .inl ⟨rfl,rfl,rfl⟩, .inr ⟨k,acs,hk,rfl,rfl⟩⟩
  ·obtain⟨hne,hl0⟩:=b7.fresh hl
   refine⟨S0.set l ⟨z,q,bcs⟩, .inr ⟨l,bcs,hl0,rfl,rfl⟩, .inr ⟨k,acs, ?_,rfl, ?_⟩⟩
   ·rw[b7.set_ne _ _ _ (Ne.symm hne)];exact hk
   ·exact b7.set_comm _ (Ne.symm hne) _ _
theorem Grw.fin{S0 S:b7}{t:D}{rows:List (List D)}{sz:Nat}(h:Grw S0 t rows sz S){Q:D→b7→Prop}(hq:d9 E Q (.lst rows sz) S0):d9 E Q t S:=by
 rcases h with ⟨rfl,rfl,rfl⟩|⟨k,acs,h,rfl,rfl⟩
 ·exact d9.nil hq
 ·refine d9.freeze (b7.set_same _ _ _) rfl (by simp) (Nat.le_refl _) ?_
  rw[b7.erase_set _ _ _ h]
  simpa using hq
theorem Grw.finT{S0 S:b7}{t:D}{rows:List (List D)}{sz:Nat}(h:Grw S0 t rows sz S){Q:D→b7→Prop}{lp lq:List D}(hq:d9 E Q (.tup (lp++ .lst rows sz::lq)) S0):d9 E Q (.tup (lp++t::lq)) S:=by
 rcases h with ⟨rfl,rfl,rfl⟩|⟨k,acs,h,rfl,rfl⟩
 ·exact d9.nilT hq
 ·refine d9.freezeT (b7.set_same _ _ _) rfl (by simp) (Nat.le_refl _) ?_
  rw[b7.erase_set _ _ _ h]
  simpa using hq
theorem Grw.under{S0 S:b7}{t:D}{rows:List (List D)}{sz:Nat}(h:Grw S0 t rows sz S){k:Nat}{o:M4}(hk:S k=Option.none):Grw (S0.set k o) t rows sz (S.set k o):=by
 rcases h with ⟨rfl,rfl,rfl⟩|⟨l,acs,h,rfl,rfl⟩
 ·exact .inl ⟨rfl,rfl,rfl⟩
 ·obtain⟨hne,hk0⟩:=b7.fresh hk
  refine .inr ⟨l,acs, ?_,rfl,b7.set_comm _ (Ne.symm hne) _ _⟩
  rw[b7.set_ne _ _ _ (Ne.symm hne)];exact h
theorem Grw.drop{S0 S:b7}{t:D}{rows:List (List D)}{sz k:Nat}{o:M4}(h:Grw (S0.set k o) t rows sz S)(hk:S0 k=Option.none):∃S',S'.le S∧Grw S0 t rows sz S':=by
 rcases h with ⟨rfl,rfl,rfl⟩|⟨l,acs,h,rfl,rfl⟩
 ·exact⟨S0,b7.le_new hk, .inl ⟨rfl,rfl,rfl⟩⟩
 ·obtain⟨hne,hl0⟩:=b7.fresh h
  refine⟨S0.set l ⟨sz,rows,acs⟩, ?_, .inr ⟨l,acs,hl0,rfl,rfl⟩⟩
  rw[b7.set_comm _ (Ne.symm hne)]
  refine b7.le_new ?_
  rw[b7.set_ne _ _ _ (Ne.symm hne)];exact hk
theorem Grw.base{S0 S1 S:b7}{t:D}{rows:List (List D)}{sz:Nat}(h:Grw S1 t rows sz S)(hle:S0.le S1):∃S',S'.le S∧Grw S0 t rows sz S':=by
 rcases h with ⟨rfl,rfl,rfl⟩|⟨l,acs,h,rfl,rfl⟩
 ·exact⟨S0,hle, .inl ⟨rfl,rfl,rfl⟩⟩
 ·have hl:S0 l=Option.none:=by
   cases e:S0 l with
   |none=>rfl
   |some o=>rw[hle _ _ e]at h;cases h
  refine⟨S0.set l ⟨sz,rows,acs⟩,fun j o e=> ?_, .inr ⟨l,acs,hl,rfl,rfl⟩⟩
  unfold b7.set at e ⊢
  split at e
  ·rename_i hj;rw[if_pos hj];exact e
  ·rename_i hj;rw[if_neg hj];exact hle _ _ e
theorem d5O{S:b7}{sz bytes:Nat}{z:List D}{n:Nat}{K:D→b7→Prop}(hb:bytes*n≤2^47∧n<2^60)(hK:∀k acs,S k=Option.none→K (.raw k 0 n n true sz) (S.set k ⟨sz,List.replicate n z,acs⟩)):b4g S sz bytes z (.int .i64 (n:Int)) (.int .i64 (n:Int)) K:=by
 simp only[b4g]
 rw[if_pos ⟨by omega,by omega,by have:=hb.1;exact_mod_cast this,by omega⟩,Int.toNat_natCast]
 exact .inr hK
theorem P8{S:b7}{sz:Nat}{rows:List (List D)}{len:Nat}{K:D→b7→Prop}(hl:rows.length=len)(h:K (.lst rows sz) S):u6 S sz (some rows) len K:=by
 simp only[u6,oD]
 refine .inl ?_
 rw[List.take_of_length_le (by omega)]
 exact h
theorem c4P{S:b7}{sz:Nat}{rows:List (List D)}{len:Nat}{K:D→b7→Prop}(h:∀k acs,S k=Option.none→K (.raw k 0 len len true sz) (S.set k ⟨sz,rows,acs⟩)):u6 S sz (some rows) len K:=by
 simp only[u6,oD]
 exact .inr h
theorem fwP(k i:Nat)(S S':b7):t6 (.ptr k i) S S'=(S' k=S k):=(rfl)
theorem fwR(x:D)(S:b7):t6 x S S:=by
 unfold t6
 split<;>trivial
end
end Go.Am
end
