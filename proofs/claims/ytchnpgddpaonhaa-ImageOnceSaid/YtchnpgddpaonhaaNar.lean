/-
  ImageOnceSaid: part Nar of its proof.
-/
import Derived.Test.YtchnpgddpaonhaaRows
import Derived.Test.YtchnpgddpaonhaaNaq
import Derived.KernelRfl
set_option linter.unusedVariables false
set_option linter.unusedSimpArgs false
set_option maxRecDepth 100000
section
open Go.Proofs Go Go.Am
namespace Go.Proofs.Ytchnpgddpaonhaa.d
def c2Q:List (Nat×List Nat):=[]
def c3k:List (Nat×List Nat):=[]
def c3D:List (Nat×Arr):=[]
def b7f(E:l9)(w0:o0)(Q:D→b7→Prop)(a0:D)(S:b7):Prop:=
 a9 (d9 .eql a0 (.int .u8 1)) fun v0=>
 j0 v0
 (Q (.int .i64 8) S)
 (a9 (d9 .eql a0 (.int .u8 2)) fun v1=>
 j0 v1
 (Q (.int .i64 32) S)
 (a9 (d9 .eql a0 (.int .u8 3)) fun v2=>
 j0 v2
 (Q (.int .i64 64) S)
 (Q (.int .i64 0) S)))
theorem c0f{E:l9}{w0:o0}{Q:D→b7→Prop}{a0:D}{S:b7}(h:b7f E w0 (d8 E Q) a0 S):n9 Try.prog E w0 b0i [a0] S Q:=
 m6 c2Q c3k c3D (fn:=Try.f97) (c:=Try.f97.body.getD .skip) o7 Try.func97 (by kernel_rfl) (by kernel_rfl) h
def c3L:List (Nat×List Nat):=[]
def c3H:List (Nat×List Nat):=[]
def c2w:List (Nat×Arr):=[]
def b7e(E:l9)(w0:o0)(Q:D→b7→Prop)(a0 a1:D)(S:b7):Prop:=
 a9 (d9 .eql a0 (.int .u8 1)) fun v0=>
 j0 v0
 (a9 (H7 .i8 a1) fun v1=>
 a9 (H7 .i64 v1) fun v2=>
 Q v2 S)
 (a9 (d9 .eql a0 (.int .u8 2)) fun v3=>
 j0 v3
 (a9 (H7 .i32 a1) fun v4=>
 a9 (H7 .i64 v4) fun v5=>
 Q v5 S)
 (a9 (d9 .eql a0 (.int .u8 3)) fun v6=>
 j0 v6
 (Q a1 S)
 (Q (.int .i64 0) S)))
theorem b9u{E:l9}{w0:o0}{Q:D→b7→Prop}{a0 a1:D}{S:b7}(h:b7e E w0 (d8 E Q) a0 a1 S):n9 Try.prog E w0 b0U [a0,a1] S Q:=
 m6 c3L c3H c2w (fn:=Try.f98) (c:=Try.f98.body.getD .skip) o7 Try.func98 (by kernel_rfl) (by kernel_rfl) h
def c3a:List (Nat×List Nat):=[]
def c3C:List (Nat×List Nat):=[]
def c2l:List (Nat×Arr):=[]
def b7g(E:l9)(w0:o0)(Q:D→b7→Prop)(a0 a1:D)(S:b7):Prop:=
 n9 Try.prog E w0 b0i [a0] S fun v0 S1=>
 a9 (d9 .gtr v0 (.int .i64 0)) fun v2=>
 a9 (j8 (d6 v2 true) (some a0)) fun v3=>
 a9 (j8 (d6 v2 true) (some a1)) fun v4=>
 a4g (d6 v2 true) (fun K=>n9 Try.prog E w0 b0U [v3,v4] S1 K) S1 fun v5 S6=>
 a9 (j8 (d6 v2 true) (some a1)) fun v7=>
 a9 (j8 (d6 v2 true) (d9 .eql v5 v7)) fun v8=>
 a9 (w8 v2 v8 (.bool false)) fun v9=>
 Q v9 S6
theorem b9j{E:l9}{w0:o0}{Q:D→b7→Prop}{a0 a1:D}{S:b7}(h:b7g E w0 (d8 E Q) a0 a1 S):n9 Try.prog E w0 b1b [a0,a1] S Q:=
 m6 c3a c3C c2l (fn:=Try.f94) (c:=Try.f94.body.getD .skip) o7 Try.func94 (by kernel_rfl) (by kernel_rfl) h
def a6O:List (Nat×List Nat):=[(10,[0,5,15,16])]
def a6P:List (Nat×List Nat):=[]
def a7m:List (Nat×Arr):=[]
noncomputable def a6d:Code:=(l8 [1,1,1,0,1,0,0] (Try.f25.body.getD .skip))
def a4R(E:l9)(w0:o0)(Q:D→b7→Prop):r0→List D→b7→Prop:=
 (t7 0 (K4 Try.prog E w0 a6O a6P a7m (l8 [1,1,1,1] (Try.f25.body.getD .skip)) (J6 Try.prog Try.f25 Q)))
def a6a(E:l9)(w0:o0)(N0:D→D→D→D→b7→Prop)(Q:D→b7→Prop)(x0 x5 x15 x16:D)(S:b7):Prop:=
 a9 (d9 .lss x16 x15) fun v6=>
 j0 v6
 (a9 (d9 .mul (.int .i64 8) x16) fun v7=>
 a9 (d9 .shr x0 v7) fun v8=>
 a9 (H7 .u8 v8) fun v9=>
 a9 (D1 1 x5 x16) fun v10=>
 f0 S 1 v10 v9 fun v11 S12=>
 a9 (d9 .add x16 (.int .i64 1)) fun v13=>
 N0 x0 x5 x15 v13 S12)
 (Q x5 S)
theorem b5u{E:l9}{w0:o0}{N0:D→D→D→D→b7→Prop}{Q:D→b7→Prop}{x0 x5 x15 x16:D}{S:b7}(h:a6a E w0 N0 Q x0 x5 x15 x16 S):
  j9 Try.prog E w0 a6d (m9 29 [0,5,15,16] [x0,x5,x15,x16]) S (D8 (fun T S=>N0 (T.getD 0 b8) (T.getD 5 b8) (T.getD 15 b8) (T.getD 16 b8) S) (a4R E w0 Q)):=k9 a6O a6P a7m o7 (by kernel_rfl) h
theorem b4l{E:l9}{w0:o0}{Q:D→b7→Prop}(I:Nat→D→D→D→D→b7→Prop)
  (step:∀n x0 x5 x15 x16 S,I n x0 x5 x15 x16 S→a6a E w0 (fun x0 x5 x15 x16 S=>∃m,m<n∧I m x0 x5 x15 x16 S) Q x0 x5 x15 x16 S)
  {n:Nat} {x0 x5 x15 x16:D} {S:b7} (h:I n x0 x5 x15 x16 S):j9 Try.prog E w0 (.loop a6d) (m9 29 [0,5,15,16] [x0,x5,x15,x16]) S (a4R E w0 Q):=
 s0 (k:=29) (n:=n) (I:=fun n T S=>I n (T.getD 0 b8) (T.getD 5 b8) (T.getD 15 b8) (T.getD 16 b8) S) (fun n T S hl hI=>s5 [0,5,15,16] hl (j9.mono (b5u (step n _ _ _ _ S hI)) fun ex T' S' _ hq=>by cases ex<;>exact hq)) (o8 ..) (Eq.mp (by kernel_rfl) h)
def b5p(E:l9)(w0:o0)(Q:D→b7→Prop)(a0 a1:D)(S:b7):Prop:=
 a9 (d9 .lss a1 (.int .i64 1)) fun v0=>
 a9 (j8 (d6 v0 false) (some a1)) fun v1=>
 a9 (j8 (d6 v0 false) (d9 .gtr v1 (.int .i64 8))) fun v2=>
 a9 (w8 v0 (.bool true) v2) fun v3=>
 j0 v3
 (Q .nilSlc S)
 (b2C S 1 1 [(.int .u8 0)] a1 a1 fun v4 S5=>
 j9 Try.prog E w0 (.loop a6d) (m9 29 [0,5,15,16] [a0,v4,a1,(.int .i64 0)]) S5 (a4R E w0 Q))
theorem b7X{E:l9}{w0:o0}{Q:D→b7→Prop}{a0 a1:D}{S:b7}(h:b5p E w0 (d8 E Q) a0 a1 S):n9 Try.prog E w0 a1g [a0,a1] S Q:=
 m6 a6O a6P a7m (fn:=Try.f25) (c:=Try.f25.body.getD .skip) o7 Try.func25 (by kernel_rfl) (by kernel_rfl) h
def a9b:List (Nat×List Nat):=[(20,[0,1,2,9,29,30])]
def a8r:List (Nat×List Nat):=[]
def a9h:List (Nat×Arr):=[]
noncomputable def a7g:Code:=(l8 [1,1,1,0,1,0,0] (Try.f56.body.getD .skip))
def a7j(E:l9)(w0:o0)(Q:D→b7→Prop):r0→List D→b7→Prop:=
 (t7 1 (K4 Try.prog E w0 a9b a8r a9h (l8 [1,1,1,1] (Try.f56.body.getD .skip)) (J6 Try.prog Try.f56 Q)))
def a7l(E:l9)(w0:o0)(N0:D→D→D→D→D→D→b7→Prop)(Q:D→b7→Prop)(x0 x1 x2 x9 x29 x30:D)(S:b7):Prop:=
 a9 (d9 .lss x30 x29) fun v3=>
 j0 v3
 (a9 (d9 .add x1 x30) fun v4=>
 a9 (D1 1 x0 v4) fun v5=>
 a9 (c9 S v5) fun v6=>
 a9 (H7 .u64 v6) fun v7=>
 a9 (d9 .mul (.int .i64 8) x30) fun v8=>
 a9 (d9 .shl v7 v8) fun v9=>
 a9 (d9 .or x9 v9) fun v10=>
 a9 (d9 .add x30 (.int .i64 1)) fun v11=>
 N0 x0 x1 x2 v10 x29 v11 S)
 (a9 (d9 .add x1 x2) fun v12=>
 Q (.tup [x9,v12,(.int .i64 0)]) S)
theorem b6i{E:l9}{w0:o0}{N0:D→D→D→D→D→D→b7→Prop}{Q:D→b7→Prop}{x0 x1 x2 x9 x29 x30:D}{S:b7}(h:a7l E w0 N0 Q x0 x1 x2 x9 x29 x30 S):
  j9 Try.prog E w0 a7g (m9 50 [0,1,2,9,29,30] [x0,x1,x2,x9,x29,x30]) S (D8 (fun T S=>N0 (T.getD 0 b8) (T.getD 1 b8) (T.getD 2 b8) (T.getD 9 b8) (T.getD 29 b8) (T.getD 30 b8) S) (a7j E w0 Q)):=k9 a9b a8r a9h o7 (by kernel_rfl) h
theorem b6H{E:l9}{w0:o0}{Q:D→b7→Prop}(I:Nat→D→D→D→D→D→D→b7→Prop)
  (step:∀n x0 x1 x2 x9 x29 x30 S,I n x0 x1 x2 x9 x29 x30 S→a7l E w0 (fun x0 x1 x2 x9 x29 x30 S=>∃m,m<n∧I m x0 x1 x2 x9 x29 x30 S) Q x0 x1 x2 x9 x29 x30 S)
  {n:Nat} {x0 x1 x2 x9 x29 x30:D} {S:b7} (h:I n x0 x1 x2 x9 x29 x30 S):j9 Try.prog E w0 (.loop a7g) (m9 50 [0,1,2,9,29,30] [x0,x1,x2,x9,x29,x30]) S (a7j E w0 Q):=
 s0 (k:=50) (n:=n) (I:=fun n T S=>I n (T.getD 0 b8) (T.getD 1 b8) (T.getD 2 b8) (T.getD 9 b8) (T.getD 29 b8) (T.getD 30 b8) S) (fun n T S hl hI=>s5 [0,1,2,9,29,30] hl (j9.mono (b6i (step n _ _ _ _ _ _ S hI)) fun ex T' S' _ hq=>by cases ex<;>exact hq)) (o8 ..) (Eq.mp (by kernel_rfl) h)
def a1E(E:l9)(w0:o0)(Q:D→b7→Prop)(x0 x1 x2 x11:D)(S:b7):Prop:=
 j0 x11
 (Q (.tup [(.int .u64 0),(.int .i64 0),(.int .i64 2)]) S)
 (a9 (r6 x0) fun v0=>
 a9 (d9 .sub v0 x1) fun v1=>
 a9 (d9 .gtr x2 v1) fun v2=>
 j0 v2
 (Q (.tup [(.int .u64 0),(.int .i64 0),(.int .i64 10)]) S)
 (j9 Try.prog E w0 (.loop a7g) (m9 50 [0,1,2,9,29,30] [x0,x1,x2,(.int .u64 0),x2,(.int .i64 0)]) S (a7j E w0 Q)))
def b6X(E:l9)(w0:o0)(Q:D→b7→Prop)(a0 a1 a2:D)(S:b7):Prop:=
 a9 (d9 .lss a2 (.int .i64 1)) fun v13=>
 j0 v13
 (a1E E w0 Q a0 a1 a2 v13 S)
 (a9 (d9 .gtr a2 (.int .i64 8)) fun v14=>
 j0 v14
 (a1E E w0 Q a0 a1 a2 v14 S)
 (a9 (d9 .lss a1 (.int .i64 0)) fun v15=>
 j0 v15
 (a1E E w0 Q a0 a1 a2 v15 S)
 (a9 (r6 a0) fun v16=>
 a9 (d9 .gtr a1 v16) fun v17=>
 a1E E w0 Q a0 a1 a2 v17 S)))
theorem c0e{E:l9}{w0:o0}{Q:D→b7→Prop}{a0 a1 a2:D}{S:b7}(h:b6X E w0 (d8 E Q) a0 a1 a2 S):n9 Try.prog E w0 a3Q [a0,a1,a2] S Q:=
 m6 a9b a8r a9h (fn:=Try.f56) (c:=Try.f56.body.getD .skip) o7 Try.func56 (by kernel_rfl) (by kernel_rfl) h
def b9m:List (Nat×List Nat):=[]
def c0t:List (Nat×List Nat):=[]
def b8I:List (Nat×Arr):=[]
def b2J(E:l9)(w0:o0)(Q:D→b7→Prop)(a0 a1:D)(S:b7):Prop:=
 a9 (r4 a0) fun cs=>o4 S cs fun v0 S1=>
 a9 (r4 a1) fun cs=>o4 S1 cs fun v2 S3=>
 a9 (some (.fn (.func a0j) [] [v0,v2])) fun v4=>
 Q v4 S3
theorem b6E{E:l9}{w0:o0}{Q:D→b7→Prop}{a0 a1:D}{S:b7}(h:b2J E w0 (d8 E Q) a0 a1 S):n9 Try.prog E w0 t6 [a0,a1] S Q:=
 m6 b9m c0t b8I (fn:=Try.f80) (c:=Try.f80.body.getD .skip) o7 Try.func80 (by kernel_rfl) (by kernel_rfl) h
def c5g:List (Nat×List Nat):=[]
def c5E:List (Nat×List Nat):=[]
def c4g:List (Nat×Arr):=[]
def b9n(E:l9)(w0:o0)(Q:D→b7→Prop)(a0:D)(S:b7):Prop:=
 a9 (r4 a0) fun cs=>o4 S cs fun v0 S1=>
 a9 (some (.fn (.func a2H) [] [v0])) fun v2=>
 Q v2 S1
theorem c0M{E:l9}{w0:o0}{Q:D→b7→Prop}{a0:D}{S:b7}(h:b9n E w0 (d8 E Q) a0 S):n9 Try.prog E w0 D5 [a0] S Q:=
 m6 c5g c5E c4g (fn:=Try.f81) (c:=Try.f81.body.getD .skip) o7 Try.func81 (by kernel_rfl) (by kernel_rfl) h
def b6x:List (Nat×List Nat):=[]
def b5T:List (Nat×List Nat):=[]
def b5J:List (Nat×Arr):=[]
def a9I(E:l9)(w0:o0)(Q:D→b7→Prop)(a0 c0 c1:D)(S:b7):Prop:=
 a9 (c9 S c0) fun v0=>
 a9 (d9 .leq v0 a0) fun v1=>
 a9 (j8 (d6 v1 true) (some a0)) fun v2=>
 a9 (j8 (d6 v1 true) (c9 S c1)) fun v3=>
 a9 (j8 (d6 v1 true) (d9 .leq v2 v3)) fun v4=>
 a9 (w8 v1 v4 (.bool false)) fun v5=>
 Q v5 S
theorem b3z{E:l9}{w0:o0}{Q:D→b7→Prop}{a0 c0 c1:D}{S:b7}(h:a9I E w0 (d8 E Q) a0 c0 c1 S):n9 Try.prog E w0 a0j [a0,c0,c1] S Q:=
 m6 b6x b5T b5J (fn:=Try.f92) (c:=Try.f92.body.getD .skip) o7 Try.func92 (by kernel_rfl) (by kernel_rfl) h
def c0X:List (Nat×List Nat):=[]
def c1n:List (Nat×List Nat):=[]
def c1k:List (Nat×Arr):=[]
def b4Z(E:l9)(w0:o0)(Q:D→b7→Prop)(a0 c0:D)(S:b7):Prop:=
 a9 (c9 S c0) fun v0=>
 n9 Try.prog E w0 b1b [v0,a0] S fun v1 S2=>
 Q v1 S2
theorem b7Q{E:l9}{w0:o0}{Q:D→b7→Prop}{a0 c0:D}{S:b7}(h:b4Z E w0 (d8 E Q) a0 c0 S):n9 Try.prog E w0 a2H [a0,c0] S Q:=
 m6 c0X c1n c1k (fn:=Try.f93) (c:=Try.f93.body.getD .skip) o7 Try.func93 (by kernel_rfl) (by kernel_rfl) h
end Go.Proofs.Ytchnpgddpaonhaa.d
end
section
namespace Go.Am
section
variable{P:Program}{E:l9}{w0:o0}
@[simp] theorem oD{α:Type}(a:α)(Q:α→Prop):a9 (some a) Q=Q a:=(rfl)
@[simp] theorem cdT(a b:Prop):j0 (.bool true) a b=a:=(rfl)
@[simp] theorem cdF(a b:Prop):j0 (.bool false) a b=b:=(rfl)
theorem cdB(t:Bool)(a b:Prop):j0 (.bool t) a b↔(t=true→a)∧(t=false→b):=by cases t<;>simp
theorem O4(p:Prop)[Decidable p](a b:Prop):j0 (.bool (decide p)) a b↔(p→a)∧(¬p→b):=by
 by_cases h:p<;>simp[h]
@[simp] theorem gdT(s:(D→b7→Prop)→Prop)(S:b7)(Q:D→b7→Prop):a4g (some true) s S Q=s Q:=(rfl)
@[simp] theorem gdF(s:(D→b7→Prop)→Prop)(S:b7)(Q:D→b7→Prop):a4g (some false) s S Q=Q b8 S:=(rfl)
@[simp] theorem vdT(r:Option D):j8 (some true) r=r:=(rfl)
@[simp] theorem vdF(r:Option D):j8 (some false) r=some b8:=(rfl)
@[simp] theorem wdB(b w:Bool):d6 (.bool b) w=some (b==w):=(rfl)
@[simp] theorem wdU(w:Bool):d6 b8 w=some false:=(rfl)
@[simp] theorem pdB(t:Bool)(a b:D):w8 (.bool t) a b=some (if t then a else b):=(rfl)
@[simp] theorem exD(vs:List D)(i:Nat):o6 (.tup vs) i=vs[i]? :=(rfl)
@[simp] theorem ndP(k i:Nat):R6 (.ptr k i)=some (.ptr k i):=(rfl)
@[simp] theorem ndR(k r i sz:Nat):R6 (.rel k r i sz)=some (.rel k r i sz):=(rfl)
@[simp] theorem ndE(row:List D)(i:Nat):R6 (.elt row i)=some (.elt row i):=(rfl)
@[simp] theorem ndF(f:FuncId)(a b:List D):R6 (.fn (.func f) a b)=some (.fn (.func f) a b):=(rfl)
@[simp] theorem ndI(t:TypeId)(v:D):R6 (.ifc t v)=some (.ifc t v):=(rfl)
@[simp] theorem I4(k i o:Nat):m7 o (.ptr k i)=some (.ptr k (i+o)):=(rfl)
@[simp] theorem ofR(k r i sz o:Nat):m7 o (.rel k r i sz)=some (.rel k r (i+o) sz):=(rfl)
@[simp] theorem ofE(row:List D)(i o:Nat):m7 o (.elt row i)=some (.elt row (i+o)):=(rfl)
@[simp] theorem paA(off n:Nat)(cs:List D):c2L off n (.agg cs)=some (.agg ((cs.drop off).take n)):=(rfl)
@[simp] theorem psA(off:Nat)(cs:List D):c3w off (.agg cs)=cs[off]? :=(rfl)
@[simp] theorem lnN:r6 .nilSlc=some (.int .i64 0):=(rfl)
@[simp] theorem lnL(rows:List (List D))(sz:Nat):r6 (.lst rows sz)=some (.int .i64 rows.length):=(rfl)
@[simp] theorem lnE(rows more:List (List D))(sz:Nat):r6 (.ext rows more sz)=some (.int .i64 rows.length):=(rfl)
@[simp] theorem lnR(k i len cap:Nat)(ex:Bool)(sz:Nat):r6 (.raw k i len cap ex sz)=some (.int .i64 len):=(rfl)
@[simp] theorem lnS(s:List UInt8):a8l (.str s)=some (.int .i64 s.length):=(rfl)
@[simp] theorem cvI(k k':IntKind)(n:Int):H7 k (.int k' n)=some (.int k (k.wrap n)):=(rfl)
@[simp] theorem cvS(s:List UInt8):c2H (.str s)=some (.str s):=(rfl)
@[simp] theorem unN(b:Bool):unD .not (.bool b)=some (.bool !b):=(rfl)
@[simp] theorem unM(k:IntKind)(n:Int):unD .neg (.int k n)=some (.int k (k.wrap (0 - n))):=(rfl)
@[simp] theorem F7(k:IntKind)(a b:Int):d9 .add (.int k a) (.int k b)=some (.int k (k.wrap (a+b))):=by simp[d9,P4,a0N]
@[simp] theorem a9J(k:IntKind)(a b:Int):d9 .sub (.int k a) (.int k b)=some (.int k (k.wrap (a - b))):=by simp[d9,P4,a0N]
@[simp] theorem c7u(k:IntKind)(a b:Int):d9 .mul (.int k a) (.int k b)=some (.int k (k.wrap (a*b))):=by simp[d9,P4,a0N]
@[simp] theorem a1Q(k:IntKind)(a b:Int):d9 .eql (.int k a) (.int k b)=some (.bool (a==b)):=by simp[d9,P4,a0N]
@[simp] theorem b6h(k:IntKind)(a b:Int):d9 .neq (.int k a) (.int k b)=some (.bool (a != b)):=by simp[d9,P4,a0N]
@[simp] theorem M9(k:IntKind)(a b:Int):d9 .lss (.int k a) (.int k b)=some (.bool (decide (a<b))):=by simp[d9,P4,a0N]
@[simp] theorem d0u(k:IntKind)(a b:Int):d9 .leq (.int k a) (.int k b)=some (.bool (decide (a≤b))):=by simp[d9,P4,a0N]
@[simp] theorem a3f(k:IntKind)(a b:Int):d9 .gtr (.int k a) (.int k b)=some (.bool (decide (a>b))):=by simp[d9,P4,a0N]
@[simp] theorem a9V(k:IntKind)(a b:Int):d9 .geq (.int k a) (.int k b)=some (.bool (decide (a≥b))):=by simp[d9,P4,a0N]
@[simp] theorem c2a(k:IntKind)(a b:Int):d9 .and (.int k a) (.int k b)=some (.int k (k.wrap (BitVec.ofInt k.bits a &&& BitVec.ofInt k.bits b).toNat)):=by simp[d9,P4,a0N]
@[simp] theorem d3D(k:IntKind)(a b:Int):d9 .or (.int k a) (.int k b)=some (.int k (k.wrap (BitVec.ofInt k.bits a ||| BitVec.ofInt k.bits b).toNat)):=by simp[d9,P4,a0N]
@[simp] theorem d1y(k:IntKind)(a b:Int):d9 .xor (.int k a) (.int k b)=some (.int k (k.wrap (BitVec.ofInt k.bits a ^^^ BitVec.ofInt k.bits b).toNat)):=by simp[d9,P4,a0N]
theorem d1D(k k':IntKind)(a:Int)(b:Int)(h:0≤b):d9 .shl (.int k a) (.int k' b)=some (.int k (k.wrap (a*2^(min b.toNat k.bits)))):=by simp only[d9];rw[if_neg (by omega)]
theorem c9s(k k':IntKind)(a:Int)(b:Int)(h:0≤b):d9 .shr (.int k a) (.int k' b)=some (.int k (a.fdiv (2^(min b.toNat k.bits)))):=by simp only[d9];rw[if_neg (by omega)]
@[simp] theorem d4g(a b:List UInt8):b7Y .add (.str a) (.str b)=if((a.length+b.length:Nat):Int)≤IntKind.i64.max then some (.str (a++b)) else none:=by
 simp only[b7Y,a6E];split<;>rfl
@[simp] theorem d3h(a b:List UInt8):b7Y .eql (.str a) (.str b)=some (.bool (a==b)):=(rfl)
@[simp] theorem d4j(a b:List UInt8):b7Y .neq (.str a) (.str b)=some (.bool !(a==b)):=(rfl)
@[simp] theorem eqE(b:Bool):b1n .eql (some b)=some (.bool b):=(rfl)
@[simp] theorem eqN(b:Bool):b1n .neq (some b)=some (.bool !b):=(rfl)
@[simp] theorem d4x(a b:Bool):d1W (.bool a) (.bool b)=some (a==b):=(rfl)
@[simp] theorem clB(b:Bool):r4 (.bool b)=some [.bool b]:=(rfl)
@[simp] theorem clI(k:IntKind)(n:Int):r4 (.int k n)=some [.int k n]:=(rfl)
@[simp] theorem clS(s:List UInt8):r4 (.str s)=some [.str s]:=(rfl)
@[simp] theorem clN:r4 .nilSlc=some [.nilSlc]:=(rfl)
@[simp] theorem clP:r4 .nilPtr=some [.nilPtr]:=(rfl)
@[simp] theorem clF:r4 .nilFn=some [.nilFn]:=(rfl)
@[simp] theorem clL(rows:List (List D))(sz:Nat):r4 (.lst rows sz)=some [.lst rows sz]:=(rfl)
@[simp] theorem clE(rows more:List (List D))(sz:Nat):r4 (.ext rows more sz)=some [.ext rows more sz]:=(rfl)
@[simp] theorem clR(k i len cap:Nat)(ex:Bool)(sz:Nat):r4 (.raw k i len cap ex sz)=some [.raw k i len cap ex sz]:=(rfl)
@[simp] theorem clA(cs:List D):r4 (.agg cs)=some cs:=(rfl)
@[simp] theorem d4m(k i:Nat):r4 (.ptr k i)=some [.ptr k i]:=(rfl)
@[simp] theorem d4w(f:Fn)(a b:List D):r4 (.fn f a b)=some [.fn f a b]:=(rfl)
@[simp] theorem d4n(t:TypeId)(v:D):r4 (.ifc t v)=some [.ifc t v]:=(rfl)
@[simp] theorem agS(cs:List D):E0 (some cs)=some (.agg cs):=(rfl)
@[simp] theorem fiN(cs:List D):u6 cs []=some cs:=(rfl)
@[simp] theorem frN(sz:Nat)(rows:List (List D)):p7 sz rows []=some rows:=(rfl)
@[simp] theorem lsE(row:List D)(i:Nat)(S:b7):c9 S (.elt row i)=row[i]? :=(rfl)
@[simp] theorem laE(row:List D)(i n:Nat)(S:b7):i9 S n (.elt row i)=if 0<n∧i+n≤row.length then some (.agg ((row.drop i).take n)) else none:=(rfl)
@[simp] theorem mxD(k:IntKind)(a b:Int):b3X true [.int k a, .int k b]=some (.int k (if b>a then b else a)):=(rfl)
@[simp] theorem mnD(k:IntKind)(a b:Int):b3X false [.int k a, .int k b]=some (.int k (if b<a then b else a)):=(rfl)
theorem b5q{rows:List (List D)}{sz i:Nat}{row:List D}(h:rows[i]? =some row):D1 sz (.lst rows sz) (.int .i64 (i:Int))=some (.elt row 0):=by
 simp only[D1]
 rw[if_pos ⟨by trivial,by omega⟩,Int.toNat_natCast,h]
theorem d3X{rows more:List (List D)}{sz i:Nat}{row:List D}(h:rows[i]? =some row):D1 sz (.ext rows more sz) (.int .i64 (i:Int))=some (.elt row 0):=by
 simp only[D1]
 rw[if_pos ⟨by trivial,by omega⟩,Int.toNat_natCast,h]
theorem d3O{k i len cap sz j:Nat}{ex:Bool}(h:j<len):D1 sz (.raw k i len cap ex sz) (.int .i64 (j:Int))=some (.rel k (i+j) 0 sz):=by
 simp only[D1]
 rw[if_pos ⟨by trivial,by omega,by omega⟩,Int.toNat_natCast]
theorem b8v{s:List UInt8}{i:Nat}{b:UInt8}(h:s[i]? =some b):c2W (.str s) (.int .i64 (i:Int))=some (.int .u8 b.toNat):=by
 simp only[c2W]
 rw[if_pos (by omega),Int.toNat_natCast,h]
theorem b7.fresh{S:b7}{j k:Nat}{o:L2}(h:(S.set j o) k=Option.none):k≠j∧S k=Option.none:=by
 unfold b7.set at h
 split at h
 ·cases h
 ·rename_i e;exact⟨e,h⟩
theorem c2c{S:b7}{k i sz:Nat}{cs:List D}{acs:List AV}(h:S k=some ⟨sz,[cs],acs⟩):c1D S (.ptr k i)=some (cs,i):=by
 simp only[c1D,h]
theorem ldP{S:b7}{k i sz:Nat}{cs:List D}{acs:List AV}(h:S k=some ⟨sz,[cs],acs⟩):c9 S (.ptr k i)=cs[i]? :=by simp only[c9,c2c h]
theorem laP{S:b7}{k i n sz:Nat}{cs:List D}{acs:List AV}(h:S k=some ⟨sz,[cs],acs⟩)(hn:0<n∧i+n≤cs.length):i9 S n (.ptr k i)=some (.agg ((cs.drop i).take n)):=by
 simp only[i9,c2c h];rw[if_pos hn]
theorem stP{S:b7}{k i n sz:Nat}{cs ds:List D}{acs:List AV}{v:D}{K:D→b7→Prop}(h:S k=some ⟨sz,[cs],acs⟩)(hv:r4 v=some ds)(hn:ds.length=n∧0<n∧i+n≤cs.length)
  (hK:∀acs,K b8 (S.set k ⟨sz,[o5 cs i ds],acs⟩)):f0 S n (.ptr k i) v K:=by
 simp only[f0,hv,h]
 rw[if_pos ⟨hn.1,hn.2.1⟩,if_pos hn.2.2]
 exact hK
theorem stR{S:b7}{k r i n sz:Nat}{rows:List (List D)}{row ds:List D}{acs:List AV}{v:D}{K:D→b7→Prop}(h:S k=some ⟨sz,rows,acs⟩)(hr:rows[r]? =some row)(hv:r4 v=some ds)(hn:ds.length=n∧0<n∧i+n≤row.length)
  (hK:∀acs,K b8 (S.set k ⟨sz,rows.set r (o5 row i ds),acs⟩)):f0 S n (.rel k r i sz) v K:=by
 simp only[f0,hv,h,hr]
 rw[if_pos ⟨hn.1,hn.2.1⟩,if_pos (by trivial),if_pos hn.2.2]
 exact hK
theorem b7.set_in(S:b7){k l:Nat}(h:k≠l)(a b c:L2):((S.set k a).set l b).set k c=(S.set k c).set l b:=by
 rw[b7.set_comm S h,b7.set_set,b7.set_comm S h]
theorem b7.le_new{S:b7}{k:Nat}{o:L2}(h:S k=Option.none):S.le (S.set k o):=b7.le_set (b7.le_refl S) h
def A4(l:List D):List (List D):=l.map fun d=>[d]
@[simp] theorem b0X(l:List D):(A4 l).length=l.length:=List.length_map _
theorem b4P{l:List D}{i:Nat}{d:D}(h:l[i]? =some d):(A4 l)[i]? =some [d]:=by simp only[A4,List.getElem?_map,h];rfl
def Grw(S0:b7)(t:D)(rows:List (List D))(sz:Nat)(S:b7):Prop:=
 (t= .nilSlc∧rows=[]∧S=S0)∨∃k acs,S0 k=Option.none∧t= .raw k 0 rows.length rows.length false sz∧S=S0.set k ⟨sz,rows,acs⟩
theorem Grw.nil(S:b7)(sz:Nat):Grw S .nilSlc [] sz S:= .inl ⟨rfl,rfl,rfl⟩
theorem Grw.le{S0 S:b7}{t:D}{rows:List (List D)}{sz:Nat}(h:Grw S0 t rows sz S):S0.le S:=by
 rcases h with ⟨_,_,rfl⟩|⟨k,acs,h,_,rfl⟩
 ·exact b7.le_refl _
 ·exact b7.le_new h
theorem Grw.len{S0 S:b7}{t:D}{rows:List (List D)}{sz:Nat}(h:Grw S0 t rows sz S):r6 t=some (.int .i64 rows.length):=by
 rcases h with ⟨rfl,rfl,rfl⟩|⟨k,acs,h,rfl,rfl⟩<;>rfl
theorem Grw.push{S0 S:b7}{t:D}{rows:List (List D)}{sz bytes:Nat}(h:Grw S0 t rows sz S){v:D}{news:List (List D)}(hv:rowsS S sz v=some news)(hb:0<bytes∧(2*(rows.length+news.length)+768)*bytes≤2^47){K:D→b7→Prop}
  (hK:∀t' S',Grw S0 t' (rows++news) sz S'→K t' S'):y8 S sz bytes t v K:=by
 simp only[y8,hv]
 rcases h with ⟨rfl,rfl,rfl⟩|⟨k,acs,h,rfl,rfl⟩
 ·simp only[a4o]
  by_cases hn:news=[]
  ·rw[if_pos hn]
   exact hK _ _ (.inl ⟨rfl,by rw[hn];rfl,rfl⟩)
  ·rw[if_neg hn]
   refine⟨⟨hb.1,by simpa using hb.2⟩, .inr fun k acs hk=>hK _ _ (.inr ⟨k,acs,hk, ?_, ?_⟩)⟩<;>simp
 ·simp only[a4o]
  by_cases hn:news=[]
  ·rw[if_pos hn]
   refine hK _ _ (.inr ⟨k,acs,h, ?_, ?_⟩)<;>simp[hn]
  ·rw[if_neg hn,b7.set_same]
   simp only
   rw[if_pos ⟨by trivial,by trivial,by omega⟩]
   refine⟨hb, .inr fun k' acs' hk'=> ?_⟩
   rw[b7.erase_set _ _ _ h]at hk' ⊢
   refine hK _ _ (.inr ⟨k',acs',hk', ?_, ?_⟩)<;>simp
theorem Grw.swap{S0 S1 S:b7}{t u:D}{r q:List (List D)}{s z:Nat}(h:Grw S0 t r s S1)(h':Grw S1 u q z S):∃S2,Grw S0 u q z S2∧Grw S2 t r s S:=by
 rcases h with ⟨rfl,rfl,rfl⟩|⟨k,acs,hk,rfl,rfl⟩
 ·exact⟨S,h', .inl ⟨rfl,rfl,rfl⟩⟩
 ·rcases h' with ⟨rfl,rfl,rfl⟩|⟨l,bcs,hl,rfl,rfl⟩
  ·exact⟨S0, .inl ⟨rfl,rfl,rfl⟩, .inr ⟨k,acs,hk,rfl,rfl⟩⟩
  ·obtain⟨hne,hl0⟩:=b7.fresh hl
   refine⟨S0.set l ⟨z,q,bcs⟩, .inr ⟨l,bcs,hl0,rfl,rfl⟩, .inr ⟨k,acs, ?_,rfl, ?_⟩⟩
   ·rw[b7.set_ne _ _ _ (Ne.symm hne)];exact hk
   ·exact b7.set_comm _ (Ne.symm hne) _ _
theorem Grw.fin{S0 S:b7}{t:D}{rows:List (List D)}{sz:Nat}(h:Grw S0 t rows sz S){Q:D→b7→Prop}(hq:d8 E Q (.lst rows sz) S0):d8 E Q t S:=by
 rcases h with ⟨rfl,rfl,rfl⟩|⟨k,acs,h,rfl,rfl⟩
 ·exact d8.nil hq
 ·refine d8.freeze (b7.set_same _ _ _) rfl (by simp) (Nat.le_refl _) ?_
  rw[b7.erase_set _ _ _ h]
  simpa using hq
theorem Grw.finT{S0 S:b7}{t:D}{rows:List (List D)}{sz:Nat}(h:Grw S0 t rows sz S){Q:D→b7→Prop}{lp lq:List D}(hq:d8 E Q (.tup (lp++ .lst rows sz::lq)) S0):d8 E Q (.tup (lp++t::lq)) S:=by
 rcases h with ⟨rfl,rfl,rfl⟩|⟨k,acs,h,rfl,rfl⟩
 ·exact d8.nilT hq
 ·refine d8.freezeT (b7.set_same _ _ _) rfl (by simp) (Nat.le_refl _) ?_
  rw[b7.erase_set _ _ _ h]
  simpa using hq
theorem Grw.under{S0 S:b7}{t:D}{rows:List (List D)}{sz:Nat}(h:Grw S0 t rows sz S){k:Nat}{o:L2}(hk:S k=Option.none):Grw (S0.set k o) t rows sz (S.set k o):=by
 rcases h with ⟨rfl,rfl,rfl⟩|⟨l,acs,h,rfl,rfl⟩
 ·exact .inl ⟨rfl,rfl,rfl⟩
 ·obtain⟨hne,hk0⟩:=b7.fresh hk
  refine .inr ⟨l,acs, ?_,rfl,b7.set_comm _ (Ne.symm hne) _ _⟩
  rw[b7.set_ne _ _ _ (Ne.symm hne)];exact h
theorem Grw.drop{S0 S:b7}{t:D}{rows:List (List D)}{sz k:Nat}{o:L2}(h:Grw (S0.set k o) t rows sz S)(hk:S0 k=Option.none):∃S',S'.le S∧Grw S0 t rows sz S':=by
 rcases h with ⟨rfl,rfl,rfl⟩|⟨l,acs,h,rfl,rfl⟩
 ·exact⟨S0,b7.le_new hk, .inl ⟨rfl,rfl,rfl⟩⟩
 ·obtain⟨hne,hl0⟩:=b7.fresh h
  refine⟨S0.set l ⟨sz,rows,acs⟩, ?_, .inr ⟨l,acs,hl0,rfl,rfl⟩⟩
  rw[b7.set_comm _ (Ne.symm hne)]
  refine b7.le_new ?_
  rw[b7.set_ne _ _ _ (Ne.symm hne)];exact hk
theorem Grw.base{S0 S1 S:b7}{t:D}{rows:List (List D)}{sz:Nat}(h:Grw S1 t rows sz S)(hle:S0.le S1):∃S',S'.le S∧Grw S0 t rows sz S':=by
 rcases h with ⟨rfl,rfl,rfl⟩|⟨l,acs,h,rfl,rfl⟩
 ·exact⟨S0,hle, .inl ⟨rfl,rfl,rfl⟩⟩
 ·have hl:S0 l=Option.none:=by
   cases e:S0 l with
   |none=>rfl
   |some o=>rw[hle _ _ e]at h;cases h
  refine⟨S0.set l ⟨sz,rows,acs⟩,fun j o e=> ?_, .inr ⟨l,acs,hl,rfl,rfl⟩⟩
  unfold b7.set at e ⊢
  split at e
  ·rename_i hj;rw[if_pos hj];exact e
  ·rename_i hj;rw[if_neg hj];exact hle _ _ e
theorem d3g{S:b7}{sz bytes:Nat}{z:List D}{n:Nat}{K:D→b7→Prop}(hb:bytes*n≤2^47∧n<2^60)(hK:∀k acs,S k=Option.none→K (.raw k 0 n n true sz) (S.set k ⟨sz,List.replicate n z,acs⟩)):b2C S sz bytes z (.int .i64 (n:Int)) (.int .i64 (n:Int)) K:=by
 simp only[b2C]
 rw[if_pos ⟨by omega,by omega,by have:=hb.1;exact_mod_cast this,by omega⟩,Int.toNat_natCast]
 exact .inr hK
theorem O7{S:b7}{sz:Nat}{rows:List (List D)}{len:Nat}{K:D→b7→Prop}(hl:rows.length=len)(h:K (.lst rows sz) S):u4 S sz (some rows) len K:=by
 simp only[u4,oD]
 refine .inl ?_
 rw[List.take_of_length_le (by omega)]
 exact h
theorem c2V{S:b7}{sz:Nat}{rows:List (List D)}{len:Nat}{K:D→b7→Prop}(h:∀k acs,S k=Option.none→K (.raw k 0 len len true sz) (S.set k ⟨sz,rows,acs⟩)):u4 S sz (some rows) len K:=by
 simp only[u4,oD]
 exact .inr h
theorem fwP(k i:Nat)(S S':b7):r9 (.ptr k i) S S'=(S' k=S k):=(rfl)
theorem fwR(x:D)(S:b7):r9 x S S:=by
 unfold r9
 split<;>trivial
end
end Go.Am
end
