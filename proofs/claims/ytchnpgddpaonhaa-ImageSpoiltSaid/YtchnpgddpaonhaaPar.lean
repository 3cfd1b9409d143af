/-
  ImageSpoiltSaid: part Par of its proof.
-/
import Derived.Test.YtchnpgddpaonhaaRows
import Derived.Test.YtchnpgddpaonhaaPaq
import Derived.KernelRfl
set_option linter.unusedVariables false
set_option linter.unusedSimpArgs false
set_option maxRecDepth 100000
section
open Go.Proofs Go Go.Am
namespace Go.Proofs.Ytchnpgddpaonhaa.d
def c5l:List (Nat×List Nat):=[]
def c4H:List (Nat×List Nat):=[]
def c4V:List (Nat×Arr):=[]
def b7S(E:m6)(w0:o3)(Q:D→b7→Prop)(a0:D)(S:b7):Prop:=
 a9 (d8 .eql a0 (.int .u8 1)) fun v0=>
 i9 v0
 (Q (.int .i64 8) S)
 (a9 (d8 .eql a0 (.int .u8 2)) fun v1=>
 i9 v1
 (Q (.int .i64 32) S)
 (a9 (d8 .eql a0 (.int .u8 3)) fun v2=>
 i9 v2
 (Q (.int .i64 64) S)
 (Q (.int .i64 0) S)))
theorem c1u{E:m6}{w0:o3}{Q:D→b7→Prop}{a0:D}{S:b7}(h:b7S E w0 (d9 E Q) a0 S):o4 Try.prog E w0 b0R [a0] S Q:=
 m9 c5l c4H c4V (fn:=Try.f97) (c:=Try.f97.body.getD .skip) o9 Try.func97 (by kernel_rfl) (by kernel_rfl) h
def c5g:List (Nat×List Nat):=[]
def c4Z:List (Nat×List Nat):=[]
def c4u:List (Nat×Arr):=[]
def b8b(E:m6)(w0:o3)(Q:D→b7→Prop)(a0 a1:D)(S:b7):Prop:=
 a9 (d8 .eql a0 (.int .u8 1)) fun v0=>
 i9 v0
 (a9 (I6 .i8 a1) fun v1=>
 a9 (I6 .i64 v1) fun v2=>
 Q v2 S)
 (a9 (d8 .eql a0 (.int .u8 2)) fun v3=>
 i9 v3
 (a9 (I6 .i32 a1) fun v4=>
 a9 (I6 .i64 v4) fun v5=>
 Q v5 S)
 (a9 (d8 .eql a0 (.int .u8 3)) fun v6=>
 i9 v6
 (Q a1 S)
 (Q (.int .i64 0) S)))
theorem c1l{E:m6}{w0:o3}{Q:D→b7→Prop}{a0 a1:D}{S:b7}(h:b8b E w0 (d9 E Q) a0 a1 S):o4 Try.prog E w0 b1c [a0,a1] S Q:=
 m9 c5g c4Z c4u (fn:=Try.f98) (c:=Try.f98.body.getD .skip) o9 Try.func98 (by kernel_rfl) (by kernel_rfl) h
def c3D:List (Nat×List Nat):=[]
def c4i:List (Nat×List Nat):=[]
def c3K:List (Nat×Arr):=[]
def b7R(E:m6)(w0:o3)(Q:D→b7→Prop)(a0 a1:D)(S:b7):Prop:=
 o4 Try.prog E w0 b0R [a0] S fun v0 S1=>
 a9 (d8 .gtr v0 (.int .i64 0)) fun v2=>
 a9 (j9 (d6 v2 true) (some a0)) fun v3=>
 a9 (j9 (d6 v2 true) (some a1)) fun v4=>
 a6e (d6 v2 true) (fun K=>o4 Try.prog E w0 b1c [v3,v4] S1 K) S1 fun v5 S6=>
 a9 (j9 (d6 v2 true) (some a1)) fun v7=>
 a9 (j9 (d6 v2 true) (d8 .eql v5 v7)) fun v8=>
 a9 (z2 v2 v8 (.bool false)) fun v9=>
 Q v9 S6
theorem c0M{E:m6}{w0:o3}{Q:D→b7→Prop}{a0 a1:D}{S:b7}(h:b7R E w0 (d9 E Q) a0 a1 S):o4 Try.prog E w0 b2i [a0,a1] S Q:=
 m9 c3D c4i c3K (fn:=Try.f94) (c:=Try.f94.body.getD .skip) o9 Try.func94 (by kernel_rfl) (by kernel_rfl) h
def a7n:List (Nat×List Nat):=[(10,[0,5,15,16])]
def a7A:List (Nat×List Nat):=[]
def a7x:List (Nat×Arr):=[]
noncomputable def a5E:Code:=(l9 [1,1,1,0,1,0,0] (Try.f25.body.getD .skip))
def a5A(E:m6)(w0:o3)(Q:D→b7→Prop):r4→List D→b7→Prop:=
 (t7 0 (I5 Try.prog E w0 a7n a7A a7x (l9 [1,1,1,1] (Try.f25.body.getD .skip)) (I4 Try.prog Try.f25 Q)))
def a6t(E:m6)(w0:o3)(N0:D→D→D→D→b7→Prop)(Q:D→b7→Prop)(x0 x5 x15 x16:D)(S:b7):Prop:=
 a9 (d8 .lss x16 x15) fun v6=>
 i9 v6
 (a9 (d8 .mul (.int .i64 8) x16) fun v7=>
 a9 (d8 .shr x0 v7) fun v8=>
 a9 (I6 .u8 v8) fun v9=>
 a9 (A7 1 x5 x16) fun v10=>
 f0 S 1 v10 v9 fun v11 S12=>
 a9 (d8 .add x16 (.int .i64 1)) fun v13=>
 N0 x0 x5 x15 v13 S12)
 (Q x5 S)
theorem b6a{E:m6}{w0:o3}{N0:D→D→D→D→b7→Prop}{Q:D→b7→Prop}{x0 x5 x15 x16:D}{S:b7}(h:a6t E w0 N0 Q x0 x5 x15 x16 S):
  k9 Try.prog E w0 a5E (n9 29 [0,5,15,16] [x0,x5,x15,x16]) S (C0 (fun T S=>N0 (T.getD 0 b8) (T.getD 5 b8) (T.getD 15 b8) (T.getD 16 b8) S) (a5A E w0 Q)):=l8 a7n a7A a7x o9 (by kernel_rfl) h
theorem b5f{E:m6}{w0:o3}{Q:D→b7→Prop}(I:Nat→D→D→D→D→b7→Prop)
  (step:∀n x0 x5 x15 x16 S,I n x0 x5 x15 x16 S→a6t E w0 (fun x0 x5 x15 x16 S=>∃m,m<n∧I m x0 x5 x15 x16 S) Q x0 x5 x15 x16 S)
  {n:Nat} {x0 x5 x15 x16:D} {S:b7} (h:I n x0 x5 x15 x16 S):k9 Try.prog E w0 (.loop a5E) (n9 29 [0,5,15,16] [x0,x5,x15,x16]) S (a5A E w0 Q):=
 r8 (k:=29) (n:=n) (I:=fun n T S=>I n (T.getD 0 b8) (T.getD 5 b8) (T.getD 15 b8) (T.getD 16 b8) S) (fun n T S hl hI=>s6 [0,5,15,16] hl (k9.mono (b6a (step n _ _ _ _ S hI)) fun ex T' S' _ hq=>by cases ex<;>exact hq)) (o7 ..) (Eq.mp (by kernel_rfl) h)
def b5z(E:m6)(w0:o3)(Q:D→b7→Prop)(a0 a1:D)(S:b7):Prop:=
 a9 (d8 .lss a1 (.int .i64 1)) fun v0=>
 a9 (j9 (d6 v0 false) (some a1)) fun v1=>
 a9 (j9 (d6 v0 false) (d8 .gtr v1 (.int .i64 8))) fun v2=>
 a9 (z2 v0 (.bool true) v2) fun v3=>
 i9 v3
 (Q .nilSlc S)
 (b3n S 1 1 [(.int .u8 0)] a1 a1 fun v4 S5=>
 k9 Try.prog E w0 (.loop a5E) (n9 29 [0,5,15,16] [a0,v4,a1,(.int .i64 0)]) S5 (a5A E w0 Q))
theorem b8f{E:m6}{w0:o3}{Q:D→b7→Prop}{a0 a1:D}{S:b7}(h:b5z E w0 (d9 E Q) a0 a1 S):o4 Try.prog E w0 a1q [a0,a1] S Q:=
 m9 a7n a7A a7x (fn:=Try.f25) (c:=Try.f25.body.getD .skip) o9 Try.func25 (by kernel_rfl) (by kernel_rfl) h
def a9e:List (Nat×List Nat):=[(20,[0,1,2,9,29,30])]
def a9M:List (Nat×List Nat):=[]
def a9z:List (Nat×Arr):=[]
noncomputable def a7j:Code:=(l9 [1,1,1,0,1,0,0] (Try.f56.body.getD .skip))
def a7k(E:m6)(w0:o3)(Q:D→b7→Prop):r4→List D→b7→Prop:=
 (t7 1 (I5 Try.prog E w0 a9e a9M a9z (l9 [1,1,1,1] (Try.f56.body.getD .skip)) (I4 Try.prog Try.f56 Q)))
def a7C(E:m6)(w0:o3)(N0:D→D→D→D→D→D→b7→Prop)(Q:D→b7→Prop)(x0 x1 x2 x9 x29 x30:D)(S:b7):Prop:=
 a9 (d8 .lss x30 x29) fun v3=>
 i9 v3
 (a9 (d8 .add x1 x30) fun v4=>
 a9 (A7 1 x0 v4) fun v5=>
 a9 (c9 S v5) fun v6=>
 a9 (I6 .u64 v6) fun v7=>
 a9 (d8 .mul (.int .i64 8) x30) fun v8=>
 a9 (d8 .shl v7 v8) fun v9=>
 a9 (d8 .or x9 v9) fun v10=>
 a9 (d8 .add x30 (.int .i64 1)) fun v11=>
 N0 x0 x1 x2 v10 x29 v11 S)
 (a9 (d8 .add x1 x2) fun v12=>
 Q (.tup [x9,v12,(.int .i64 0)]) S)
theorem b7q{E:m6}{w0:o3}{N0:D→D→D→D→D→D→b7→Prop}{Q:D→b7→Prop}{x0 x1 x2 x9 x29 x30:D}{S:b7}(h:a7C E w0 N0 Q x0 x1 x2 x9 x29 x30 S):
  k9 Try.prog E w0 a7j (n9 50 [0,1,2,9,29,30] [x0,x1,x2,x9,x29,x30]) S (C0 (fun T S=>N0 (T.getD 0 b8) (T.getD 1 b8) (T.getD 2 b8) (T.getD 9 b8) (T.getD 29 b8) (T.getD 30 b8) S) (a7k E w0 Q)):=l8 a9e a9M a9z o9 (by kernel_rfl) h
theorem b7a{E:m6}{w0:o3}{Q:D→b7→Prop}(I:Nat→D→D→D→D→D→D→b7→Prop)
  (step:∀n x0 x1 x2 x9 x29 x30 S,I n x0 x1 x2 x9 x29 x30 S→a7C E w0 (fun x0 x1 x2 x9 x29 x30 S=>∃m,m<n∧I m x0 x1 x2 x9 x29 x30 S) Q x0 x1 x2 x9 x29 x30 S)
  {n:Nat} {x0 x1 x2 x9 x29 x30:D} {S:b7} (h:I n x0 x1 x2 x9 x29 x30 S):k9 Try.prog E w0 (.loop a7j) (n9 50 [0,1,2,9,29,30] [x0,x1,x2,x9,x29,x30]) S (a7k E w0 Q):=
 r8 (k:=50) (n:=n) (I:=fun n T S=>I n (T.getD 0 b8) (T.getD 1 b8) (T.getD 2 b8) (T.getD 9 b8) (T.getD 29 b8) (T.getD 30 b8) S) (fun n T S hl hI=>s6 [0,1,2,9,29,30] hl (k9.mono (b7q (step n _ _ _ _ _ _ S hI)) fun ex T' S' _ hq=>by cases ex<;>exact hq)) (o7 ..) (Eq.mp (by kernel_rfl) h)
def a1O(E:m6)(w0:o3)(Q:D→b7→Prop)(x0 x1 x2 x11:D)(S:b7):Prop:=
 i9 x11
 (Q (.tup [(.int .u64 0),(.int .i64 0),(.int .i64 2)]) S)
 (a9 (r6 x0) fun v0=>
 a9 (d8 .sub v0 x1) fun v1=>
 a9 (d8 .gtr x2 v1) fun v2=>
 i9 v2
 (Q (.tup [(.int .u64 0),(.int .i64 0),(.int .i64 10)]) S)
 (k9 Try.prog E w0 (.loop a7j) (n9 50 [0,1,2,9,29,30] [x0,x1,x2,(.int .u64 0),x2,(.int .i64 0)]) S (a7k E w0 Q)))
def b8d(E:m6)(w0:o3)(Q:D→b7→Prop)(a0 a1 a2:D)(S:b7):Prop:=
 a9 (d8 .lss a2 (.int .i64 1)) fun v13=>
 i9 v13
 (a1O E w0 Q a0 a1 a2 v13 S)
 (a9 (d8 .gtr a2 (.int .i64 8)) fun v14=>
 i9 v14
 (a1O E w0 Q a0 a1 a2 v14 S)
 (a9 (d8 .lss a1 (.int .i64 0)) fun v15=>
 i9 v15
 (a1O E w0 Q a0 a1 a2 v15 S)
 (a9 (r6 a0) fun v16=>
 a9 (d8 .gtr a1 v16) fun v17=>
 a1O E w0 Q a0 a1 a2 v17 S)))
theorem c0H{E:m6}{w0:o3}{Q:D→b7→Prop}{a0 a1 a2:D}{S:b7}(h:b8d E w0 (d9 E Q) a0 a1 a2 S):o4 Try.prog E w0 a4y [a0,a1,a2] S Q:=
 m9 a9e a9M a9z (fn:=Try.f56) (c:=Try.f56.body.getD .skip) o9 Try.func56 (by kernel_rfl) (by kernel_rfl) h
def c1J:List (Nat×List Nat):=[]
def c1y:List (Nat×List Nat):=[]
def c0h:List (Nat×Arr):=[]
def b3w(E:m6)(w0:o3)(Q:D→b7→Prop)(a0 a1:D)(S:b7):Prop:=
 a9 (r7 a0) fun cs=>o6 S cs fun v0 S1=>
 a9 (r7 a1) fun cs=>o6 S1 cs fun v2 S3=>
 a9 (some (.fn (.func a0x) [] [v0,v2])) fun v4=>
 Q v4 S3
theorem b6v{E:m6}{w0:o3}{Q:D→b7→Prop}{a0 a1:D}{S:b7}(h:b3w E w0 (d9 E Q) a0 a1 S):o4 Try.prog E w0 u5 [a0,a1] S Q:=
 m9 c1J c1y c0h (fn:=Try.f80) (c:=Try.f80.body.getD .skip) o9 Try.func80 (by kernel_rfl) (by kernel_rfl) h
def c5W:List (Nat×List Nat):=[]
def c6m:List (Nat×List Nat):=[]
def c5E:List (Nat×Arr):=[]
def c1e(E:m6)(w0:o3)(Q:D→b7→Prop)(a0:D)(S:b7):Prop:=
 a9 (r7 a0) fun cs=>o6 S cs fun v0 S1=>
 a9 (some (.fn (.func a2V) [] [v0])) fun v2=>
 Q v2 S1
theorem c2c{E:m6}{w0:o3}{Q:D→b7→Prop}{a0:D}{S:b7}(h:c1e E w0 (d9 E Q) a0 S):o4 Try.prog E w0 E0 [a0] S Q:=
 m9 c5W c6m c5E (fn:=Try.f81) (c:=Try.f81.body.getD .skip) o9 Try.func81 (by kernel_rfl) (by kernel_rfl) h
def b6O:List (Nat×List Nat):=[]
def b6w:List (Nat×List Nat):=[]
def b7v:List (Nat×Arr):=[]
def b0m(E:m6)(w0:o3)(Q:D→b7→Prop)(a0 c0 c1:D)(S:b7):Prop:=
 a9 (c9 S c0) fun v0=>
 a9 (d8 .leq v0 a0) fun v1=>
 a9 (j9 (d6 v1 true) (some a0)) fun v2=>
 a9 (j9 (d6 v1 true) (c9 S c1)) fun v3=>
 a9 (j9 (d6 v1 true) (d8 .leq v2 v3)) fun v4=>
 a9 (z2 v1 v4 (.bool false)) fun v5=>
 Q v5 S
theorem b3Q{E:m6}{w0:o3}{Q:D→b7→Prop}{a0 c0 c1:D}{S:b7}(h:b0m E w0 (d9 E Q) a0 c0 c1 S):o4 Try.prog E w0 a0x [a0,c0,c1] S Q:=
 m9 b6O b6w b7v (fn:=Try.f92) (c:=Try.f92.body.getD .skip) o9 Try.func92 (by kernel_rfl) (by kernel_rfl) h
def c1Z:List (Nat×List Nat):=[]
def c2j:List (Nat×List Nat):=[]
def c2s:List (Nat×Arr):=[]
def b4M(E:m6)(w0:o3)(Q:D→b7→Prop)(a0 c0:D)(S:b7):Prop:=
 a9 (c9 S c0) fun v0=>
 o4 Try.prog E w0 b2i [v0,a0] S fun v1 S2=>
 Q v1 S2
theorem b8V{E:m6}{w0:o3}{Q:D→b7→Prop}{a0 c0:D}{S:b7}(h:b4M E w0 (d9 E Q) a0 c0 S):o4 Try.prog E w0 a2V [a0,c0] S Q:=
 m9 c1Z c2j c2s (fn:=Try.f93) (c:=Try.f93.body.getD .skip) o9 Try.func93 (by kernel_rfl) (by kernel_rfl) h
end Go.Proofs.Ytchnpgddpaonhaa.d
end
section
namespace Go.Am
section
variable{P:Program}{E:m6}{w0:o3}
@[simp] theorem oD{α:Type}(a:α)(Q:α→Prop):a9 (some a) Q=Q a:=(rfl)
@[simp] theorem cdT(a b:Prop):i9 (.bool true) a b=a:=(rfl)
@[simp] theorem cdF(a b:Prop):i9 (.bool false) a b=b:=(rfl)
theorem cdB(t:Bool)(a b:Prop):i9 (.bool t) a b↔(t=true→a)∧(t=false→b):=by cases t<;>simp
theorem M6(p:Prop)[Decidable p](a b:Prop):i9 (.bool (decide p)) a b↔(p→a)∧(¬p→b):=by
 by_cases h:p<;>simp[h]
@[simp] theorem gdT(s:(D→b7→Prop)→Prop)(S:b7)(Q:D→b7→Prop):a6e (some true) s S Q=s Q:=(rfl)
@[simp] theorem gdF(s:(D→b7→Prop)→Prop)(S:b7)(Q:D→b7→Prop):a6e (some false) s S Q=Q b8 S:=(rfl)
@[simp] theorem vdT(r:Option D):j9 (some true) r=r:=(rfl)
@[simp] theorem vdF(r:Option D):j9 (some false) r=some b8:=(rfl)
@[simp] theorem wdB(b w:Bool):d6 (.bool b) w=some (b==w):=(rfl)
@[simp] theorem wdU(w:Bool):d6 b8 w=some false:=(rfl)
@[simp] theorem pdB(t:Bool)(a b:D):z2 (.bool t) a b=some (if t then a else b):=(rfl)
@[simp] theorem exD(vs:List D)(i:Nat):o5 (.tup vs) i=vs[i]? :=(rfl)
@[simp] theorem ndP(k i:Nat):U4 (.ptr k i)=some (.ptr k i):=(rfl)
@[simp] theorem ndR(k r i sz:Nat):U4 (.rel k r i sz)=some (.rel k r i sz):=(rfl)
@[simp] theorem ndE(row:List D)(i:Nat):U4 (.elt row i)=some (.elt row i):=(rfl)
@[simp] theorem ndF(f:FuncId)(a b:List D):U4 (.fn (.func f) a b)=some (.fn (.func f) a b):=(rfl)
@[simp] theorem ndI(t:TypeId)(v:D):U4 (.ifc t v)=some (.ifc t v):=(rfl)
@[simp] theorem I3(k i o:Nat):m8 o (.ptr k i)=some (.ptr k (i+o)):=(rfl)
@[simp] theorem ofR(k r i sz o:Nat):m8 o (.rel k r i sz)=some (.rel k r (i+o) sz):=(rfl)
@[simp] theorem ofE(row:List D)(i o:Nat):m8 o (.elt row i)=some (.elt row (i+o)):=(rfl)
@[simp] theorem paA(off n:Nat)(cs:List D):c4J off n (.agg cs)=some (.agg ((cs.drop off).take n)):=(rfl)
@[simp] theorem psA(off:Nat)(cs:List D):c4L off (.agg cs)=cs[off]? :=(rfl)
@[simp] theorem lnN:r6 .nilSlc=some (.int .i64 0):=(rfl)
@[simp] theorem lnL(rows:List (List D))(sz:Nat):r6 (.lst rows sz)=some (.int .i64 rows.length):=(rfl)
@[simp] theorem lnE(rows more:List (List D))(sz:Nat):r6 (.ext rows more sz)=some (.int .i64 rows.length):=(rfl)
@[simp] theorem lnR(k i len cap:Nat)(ex:Bool)(sz:Nat):r6 (.raw k i len cap ex sz)=some (.int .i64 len):=(rfl)
@[simp] theorem lnS(s:List UInt8):a3M (.str s)=some (.int .i64 s.length):=(rfl)
@[simp] theorem cvI(k k':IntKind)(n:Int):I6 k (.int k' n)=some (.int k (k.wrap n)):=(rfl)
@[simp] theorem cvS(s:List UInt8):c4g (.str s)=some (.str s):=(rfl)
@[simp] theorem unN(b:Bool):unD .not (.bool b)=some (.bool !b):=(rfl)
@[simp] theorem unM(k:IntKind)(n:Int):unD .neg (.int k n)=some (.int k (k.wrap (0 - n))):=(rfl)
@[simp] theorem E2(k:IntKind)(a b:Int):d8 .add (.int k a) (.int k b)=some (.int k (k.wrap (a+b))):=by simp[d8,P9,a0P]
@[simp] theorem b0s(k:IntKind)(a b:Int):d8 .sub (.int k a) (.int k b)=some (.int k (k.wrap (a - b))):=by simp[d8,P9,a0P]
@[simp] theorem c8z(k:IntKind)(a b:Int):d8 .mul (.int k a) (.int k b)=some (.int k (k.wrap (a*b))):=by simp[d8,P9,a0P]
@[simp] theorem a1T(k:IntKind)(a b:Int):d8 .eql (.int k a) (.int k b)=some (.bool (a==b)):=by simp[d8,P9,a0P]
@[simp] theorem b4F(k:IntKind)(a b:Int):d8 .neq (.int k a) (.int k b)=some (.bool (a != b)):=by simp[d8,P9,a0P]
@[simp] theorem K3(k:IntKind)(a b:Int):d8 .lss (.int k a) (.int k b)=some (.bool (decide (a<b))):=by simp[d8,P9,a0P]
@[simp] theorem d3c(k:IntKind)(a b:Int):d8 .leq (.int k a) (.int k b)=some (.bool (decide (a≤b))):=by simp[d8,P9,a0P]
@[simp] theorem a3z(k:IntKind)(a b:Int):d8 .gtr (.int k a) (.int k b)=some (.bool (decide (a>b))):=by simp[d8,P9,a0P]
@[simp] theorem b2j(k:IntKind)(a b:Int):d8 .geq (.int k a) (.int k b)=some (.bool (decide (a≥b))):=by simp[d8,P9,a0P]
@[simp] theorem c3d(k:IntKind)(a b:Int):d8 .and (.int k a) (.int k b)=some (.int k (k.wrap (BitVec.ofInt k.bits a &&& BitVec.ofInt k.bits b).toNat)):=by simp[d8,P9,a0P]
@[simp] theorem d4W(k:IntKind)(a b:Int):d8 .or (.int k a) (.int k b)=some (.int k (k.wrap (BitVec.ofInt k.bits a ||| BitVec.ofInt k.bits b).toNat)):=by simp[d8,P9,a0P]
@[simp] theorem d3x(k:IntKind)(a b:Int):d8 .xor (.int k a) (.int k b)=some (.int k (k.wrap (BitVec.ofInt k.bits a ^^^ BitVec.ofInt k.bits b).toNat)):=by simp[d8,P9,a0P]
theorem d3B(k k':IntKind)(a:Int)(b:Int)(h:0≤b):d8 .shl (.int k a) (.int k' b)=some (.int k (k.wrap (a*2^(min b.toNat k.bits)))):=by simp only[d8];rw[if_neg (by omega)]
theorem d1w(k k':IntKind)(a:Int)(b:Int)(h:0≤b):d8 .shr (.int k a) (.int k' b)=some (.int k (a.fdiv (2^(min b.toNat k.bits)))):=by simp only[d8];rw[if_neg (by omega)]
theorem d5h(k:IntKind)(a b:Int)(h:b≠0):d8 .rem (.int k a) (.int k b)=some (.int k (a.tmod b)):=by simp[d8,P9,a0P,h]
@[simp] theorem d6p(a b:List UInt8):c2p .add (.str a) (.str b)=if((a.length+b.length:Nat):Int)≤IntKind.i64.max then some (.str (a++b)) else none:=by
 simp only[c2p,a6Z];split<;>rfl
@[simp] theorem d6e(a b:List UInt8):c2p .eql (.str a) (.str b)=some (.bool (a==b)):=(rfl)
@[simp] theorem d6C(a b:List UInt8):c2p .neq (.str a) (.str b)=some (.bool !(a==b)):=(rfl)
@[simp] theorem eqE(b:Bool):a9j .eql (some b)=some (.bool b):=(rfl)
@[simp] theorem eqN(b:Bool):a9j .neq (some b)=some (.bool !b):=(rfl)
@[simp] theorem d6x(a b:Bool):d2k (.bool a) (.bool b)=some (a==b):=(rfl)
@[simp] theorem clB(b:Bool):r7 (.bool b)=some [.bool b]:=(rfl)
@[simp] theorem clI(k:IntKind)(n:Int):r7 (.int k n)=some [.int k n]:=(rfl)
@[simp] theorem clS(s:List UInt8):r7 (.str s)=some [.str s]:=(rfl)
@[simp] theorem clN:r7 .nilSlc=some [.nilSlc]:=(rfl)
@[simp] theorem clP:r7 .nilPtr=some [.nilPtr]:=(rfl)
@[simp] theorem clF:r7 .nilFn=some [.nilFn]:=(rfl)
@[simp] theorem clL(rows:List (List D))(sz:Nat):r7 (.lst rows sz)=some [.lst rows sz]:=(rfl)
@[simp] theorem clE(rows more:List (List D))(sz:Nat):r7 (.ext rows more sz)=some [.ext rows more sz]:=(rfl)
@[simp] theorem clR(k i len cap:Nat)(ex:Bool)(sz:Nat):r7 (.raw k i len cap ex sz)=some [.raw k i len cap ex sz]:=(rfl)
@[simp] theorem clA(cs:List D):r7 (.agg cs)=some cs:=(rfl)
@[simp] theorem d6w(k i:Nat):r7 (.ptr k i)=some [.ptr k i]:=(rfl)
@[simp] theorem d6z(f:Fn)(a b:List D):r7 (.fn f a b)=some [.fn f a b]:=(rfl)
@[simp] theorem d6A(t:TypeId)(v:D):r7 (.ifc t v)=some [.ifc t v]:=(rfl)
@[simp] theorem agS(cs:List D):E6 (some cs)=some (.agg cs):=(rfl)
@[simp] theorem fiN(cs:List D):w6 cs []=some cs:=(rfl)
@[simp] theorem frN(sz:Nat)(rows:List (List D)):p9 sz rows []=some rows:=(rfl)
@[simp] theorem lsE(row:List D)(i:Nat)(S:b7):c9 S (.elt row i)=row[i]? :=(rfl)
@[simp] theorem laE(row:List D)(i n:Nat)(S:b7):j0 S n (.elt row i)=if 0<n∧i+n≤row.length then some (.agg ((row.drop i).take n)) else none:=(rfl)
@[simp] theorem mxD(k:IntKind)(a b:Int):b4Q true [.int k a, .int k b]=some (.int k (if b>a then b else a)):=(rfl)
@[simp] theorem mnD(k:IntKind)(a b:Int):b4Q false [.int k a, .int k b]=some (.int k (if b<a then b else a)):=(rfl)
theorem b5S{rows:List (List D)}{sz i:Nat}{row:List D}(h:rows[i]? =some row):A7 sz (.lst rows sz) (.int .i64 (i:Int))=some (.elt row 0):=by
 simp only[A7]
 rw[if_pos ⟨by trivial,by omega⟩,Int.toNat_natCast,h]
theorem d6a{rows more:List (List D)}{sz i:Nat}{row:List D}(h:rows[i]? =some row):A7 sz (.ext rows more sz) (.int .i64 (i:Int))=some (.elt row 0):=by
 simp only[A7]
 rw[if_pos ⟨by trivial,by omega⟩,Int.toNat_natCast,h]
theorem d5j{k i len cap sz j:Nat}{ex:Bool}(h:j<len):A7 sz (.raw k i len cap ex sz) (.int .i64 (j:Int))=some (.rel k (i+j) 0 sz):=by
 simp only[A7]
 rw[if_pos ⟨by trivial,by omega,by omega⟩,Int.toNat_natCast]
theorem c0p{s:List UInt8}{i:Nat}{b:UInt8}(h:s[i]? =some b):c5i (.str s) (.int .i64 (i:Int))=some (.int .u8 b.toNat):=by
 simp only[c5i]
 rw[if_pos (by omega),Int.toNat_natCast,h]
theorem b7.fresh{S:b7}{j k:Nat}{o:L7}(h:(S.set j o) k=Option.none):k≠j∧S k=Option.none:=by
 unfold b7.set at h
 split at h
 ·cases h
 ·rename_i e;exact⟨e,h⟩
theorem c2G{S:b7}{k i sz:Nat}{cs:List D}{acs:List AV}(h:S k=some ⟨sz,[cs],acs⟩):c2Q S (.ptr k i)=some (cs,i):=by
 simp only[c2Q,h]
theorem ldP{S:b7}{k i sz:Nat}{cs:List D}{acs:List AV}(h:S k=some ⟨sz,[cs],acs⟩):c9 S (.ptr k i)=cs[i]? :=by simp only[c9,c2G h]
theorem laP{S:b7}{k i n sz:Nat}{cs:List D}{acs:List AV}(h:S k=some ⟨sz,[cs],acs⟩)(hn:0<n∧i+n≤cs.length):j0 S n (.ptr k i)=some (.agg ((cs.drop i).take n)):=by
 simp only[j0,c2G h];rw[if_pos hn]
theorem stP{S:b7}{k i n sz:Nat}{cs ds:List D}{acs:List AV}{v:D}{K:D→b7→Prop}(h:S k=some ⟨sz,[cs],acs⟩)(hv:r7 v=some ds)(hn:ds.length=n∧0<n∧i+n≤cs.length)
  (hK:∀acs,K b8 (S.set k ⟨sz,[o8 cs i ds],acs⟩)):f0 S n (.ptr k i) v K:=by
 simp only[f0,hv,h]
 rw[if_pos ⟨hn.1,hn.2.1⟩,if_pos hn.2.2]
 exact hK
theorem stR{S:b7}{k r i n sz:Nat}{rows:List (List D)}{row ds:List D}{acs:List AV}{v:D}{K:D→b7→Prop}(h:S k=some ⟨sz,rows,acs⟩)(hr:rows[r]? =some row)(hv:r7 v=some ds)(hn:ds.length=n∧0<n∧i+n≤row.length)
  (hK:∀acs,K b8 (S.set k ⟨sz,rows.set r (o8 row i ds),acs⟩)):f0 S n (.rel k r i sz) v K:=by
 simp only[f0,hv,h,hr]
 rw[if_pos ⟨hn.1,hn.2.1⟩,if_pos (by trivial),if_pos hn.2.2]
 exact hK
theorem b7.set_in(S:b7){k l:Nat}(h:k≠l)(a b c:L7):((S.set k a).set l b).set k c=(S.set k c).set l b:=by
 rw[b7.set_comm S h,b7.set_set,b7.set_comm S h]
theorem b7.le_new{S:b7}{k:Nat}{o:L7}(h:S k=Option.none):S.le (S.set k o):=b7.le_set (b7.le_refl S) h
def u4(l:List D):List (List D):=l.map fun d=>[d]
@[simp] theorem b2t(l:List D):(u4 l).length=l.length:=List.length_map _
theorem b1W{l:List D}{i:Nat}{d:D}(h:l[i]? =some d):(u4 l)[i]? =some [d]:=by simp only[u4,List.getElem?_map,h];rfl
def Grw(S0:b7)(t:D)(rows:List (List D))(sz:Nat)(S:b7):Prop:=
 (t= .nilSlc∧rows=[]∧S=S0)∨∃k acs,S0 k=Option.none∧t= .raw k 0 rows.length rows.length false sz∧S=S0.set k ⟨sz,rows,acs⟩
theorem Grw.nil(S:b7)(sz:Nat):Grw S .nilSlc [] sz S:= .inl ⟨rfl,rfl,rfl⟩
theorem Grw.le{S0 S:b7}{t:D}{rows:List (List D)}{sz:Nat}(h:Grw S0 t rows sz S):S0.le S:=by
 rcases h with ⟨_,_,rfl⟩|⟨k,acs,h,_,rfl⟩
 ·exact b7.le_refl _
 ·exact b7.le_new h
theorem Grw.len{S0 S:b7}{t:D}{rows:List (List D)}{sz:Nat}(h:Grw S0 t rows sz S):r6 t=some (.int .i64 rows.length):=by
 rcases h with ⟨rfl,rfl,rfl⟩|⟨k,acs,h,rfl,rfl⟩<;>rfl
theorem Grw.push{S0 S:b7}{t:D}{rows:List (List D)}{sz bytes:Nat}(h:Grw S0 t rows sz S){v:D}{news:List (List D)}(hv:rowsS S sz v=some news)(hb:0<bytes∧(2*(rows.length+news.length)+768)*bytes≤2^47){K:D→b7→Prop}
  (hK:∀t' S',Grw S0 t' (rows++news) sz S'→K t' S'):y9 S sz bytes t v K:=by
 simp only[y9,hv]
 rcases h with ⟨rfl,rfl,rfl⟩|⟨k,acs,h,rfl,rfl⟩
 ·simp only[a4P]
  by_cases hn:news=[]
  ·rw[if_pos hn]
   exact hK _ _ (.inl ⟨rfl,by rw[hn];rfl,rfl⟩)
  ·rw[if_neg hn]
   refine⟨⟨hb.1,by simpa using hb.2⟩, .inr fun k acs hk=>hK _ _ (.inr ⟨k,acs,hk, ?_, ?_⟩)⟩<;>simp
 ·simp only[a4P]
  by_cases hn:news=[]
  ·rw[if_pos hn]
   refine hK _ _ (.inr ⟨k,acs,h, ?_, ?_⟩)<;>simp[hn]
  ·rw[if_neg hn,b7.set_same]
   simp only
   rw[if_pos ⟨by trivial,by trivial,by omega⟩]
   refine⟨hb, .inr fun k' acs' hk'=> ?_⟩
   rw[b7.erase_set _ _ _ h]at hk' ⊢
   refine hK _ _ (.inr ⟨k',acs',hk', ?_, ?_⟩)<;>simp
theorem Grw.swap{S0 S1 S:b7}{t u:D}{r q:List (List D)}{s z:Nat}(h:Grw S0 t r s S1)(h':Grw S1 u q z S):∃S2,Grw S0 u q z S2∧Grw S2 t r s S:=by
 rcases h with ⟨rfl,rfl,rfl⟩|⟨k,acs,hk,rfl,rfl⟩
 ·exact⟨S,h', .inl ⟨rfl,rfl,rfl⟩⟩
 ·rcases h' with ⟨rfl,rfl,rfl⟩|⟨l,bcs,hl,rfl,rfl⟩
  ·exact⟨S0, .inl ⟨rfl,rfl,rfl⟩, .inr ⟨k,acs,hk,rfl,rfl⟩⟩
  ·obtain⟨hne,hl0⟩:=b7.fresh hl
   refine⟨S0.set l ⟨z,q,bcs⟩, .inr ⟨l,bcs,hl0,rfl,rfl⟩, .inr ⟨k,acs, ?_,rfl, ?_⟩⟩
   ·rw[b7.set_ne _ _ _ (Ne.symm hne)];exact hk
   ·exact b7.set_comm _ (Ne.symm hne) _ _
theorem Grw.fin{S0 S:b7}{t:D}{rows:List (List D)}{sz:Nat}(h:Grw S0 t rows sz S){Q:D→b7→Prop}(hq:d9 E Q (.lst rows sz) S0):d9 E Q t S:=by
 rcases h with ⟨rfl,rfl,rfl⟩|⟨k,acs,h,rfl,rfl⟩
 ·exact d9.nil hq
 ·refine d9.freeze (b7.set_same _ _ _) rfl (by simp) (Nat.le_refl _) ?_
  rw[b7.erase_set _ _ _ h]
  simpa using hq
theorem Grw.finT{S0 S:b7}{t:D}{rows:List (List D)}{sz:Nat}(h:Grw S0 t rows sz S){Q:D→b7→Prop}{lp lq:List D}(hq:d9 E Q (.tup (lp++ .lst rows sz::lq)) S0):d9 E Q (.tup (lp++t::lq)) S:=by
 rcases h with ⟨rfl,rfl,rfl⟩|⟨k,acs,h,rfl,rfl⟩
 ·exact d9.nilT hq
 ·refine d9.freezeT (b7.set_same _ _ _) rfl (by simp) (Nat.le_refl _) ?_
  rw[b7.erase_set _ _ _ h]
  simpa using hq
theorem Grw.under{S0 S:b7}{t:D}{rows:List (List D)}{sz:Nat}(h:Grw S0 t rows sz S){k:Nat}{o:L7}(hk:S k=Option.none):Grw (S0.set k o) t rows sz (S.set k o):=by
 rcases h with ⟨rfl,rfl,rfl⟩|⟨l,acs,h,rfl,rfl⟩
 ·exact .inl ⟨rfl,rfl,rfl⟩
 ·obtain⟨hne,hk0⟩:=b7.fresh hk
  refine .inr ⟨l,acs, ?_,rfl,b7.set_comm _ (Ne.symm hne) _ _⟩
  rw[b7.set_ne _ _ _ (Ne.symm hne)];exact h
theorem Grw.drop{S0 S:b7}{t:D}{rows:List (List D)}{sz k:Nat}{o:L7}(h:Grw (S0.set k o) t rows sz S)(hk:S0 k=Option.none):∃S',S'.le S∧Grw S0 t rows sz S':=by
 rcases h with ⟨rfl,rfl,rfl⟩|⟨l,acs,h,rfl,rfl⟩
 ·exact⟨S0,b7.le_new hk, .inl ⟨rfl,rfl,rfl⟩⟩
 ·obtain⟨hne,hl0⟩:=b7.fresh h
  refine⟨S0.set l ⟨sz,rows,acs⟩, ?_, .inr ⟨l,acs,hl0,rfl,rfl⟩⟩
  rw[b7.set_comm _ (Ne.symm hne)]
  refine b7.le_new ?_
  rw[b7.set_ne _ _ _ (Ne.symm hne)];exact hk
theorem Grw.base{S0 S1 S:b7}{t:D}{rows:List (List D)}{sz:Nat}(h:Grw S1 t rows sz S)(hle:S0.le S1):∃S',S'.le S∧Grw S0 t rows sz S':=by
 rcases h with ⟨rfl,rfl,rfl⟩|⟨l,acs,h,rfl,rfl⟩
 ·exact⟨S0,hle, .inl ⟨rfl,rfl,rfl⟩⟩
 ·have hl:S0 l=Option.none:=by
   cases e:S0 l with
   |none=>rfl
   |some o=>rw[hle _ _ e]at h;cases h
  refine⟨S0.set l ⟨sz,rows,acs⟩,fun j o e=> ?_, .inr ⟨l,acs,hl,rfl,rfl⟩⟩
  unfold b7.set at e ⊢
  split at e
  ·rename_i hj;rw[if_pos hj];exact e
  ·rename_i hj;rw[if_neg hj];exact hle _ _ e
theorem d5E{S:b7}{sz bytes:Nat}{z:List D}{n:Nat}{K:D→b7→Prop}(hb:bytes*n≤2^47∧n<2^60)(hK:∀k acs,S k=Option.none→K (.raw k 0 n n true sz) (S.set k ⟨sz,List.replicate n z,acs⟩)):b3n S sz bytes z (.int .i64 (n:Int)) (.int .i64 (n:Int)) K:=by
 simp only[b3n]
 rw[if_pos ⟨by omega,by omega,by have:=hb.1;exact_mod_cast this,by omega⟩,Int.toNat_natCast]
 exact .inr hK
theorem M7{S:b7}{sz:Nat}{rows:List (List D)}{len:Nat}{K:D→b7→Prop}(hl:rows.length=len)(h:K (.lst rows sz) S):u6 S sz (some rows) len K:=by
 simp only[u6,oD]
 refine .inl ?_
 rw[List.take_of_length_le (by omega)]
 exact h
theorem c3C{S:b7}{sz:Nat}{rows:List (List D)}{len:Nat}{K:D→b7→Prop}(h:∀k acs,S k=Option.none→K (.raw k 0 len len true sz) (S.set k ⟨sz,rows,acs⟩)):u6 S sz (some rows) len K:=by
 simp only[u6,oD]
 exact .inr h
theorem fwP(k i:Nat)(S S':b7):t6 (.ptr k i) S S'=(S' k=S k):=(rfl)
theorem fwR(x:D)(S:b7):t6 x S S:=by
 unfold t6
 split<;>trivial
end
end Go.Am
end
