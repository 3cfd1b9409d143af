/-
  TransferKnownSaid: part Kas of its proof.
-/
import Derived.Test.YtdkidgkiplcggaaRows
import Derived.Test.YtdkidgkiplcggaaKar
import Derived.KernelRfl
set_option linter.unusedVariables false
set_option linter.unusedSimpArgs false
set_option maxRecDepth 100000
section
open Go.Proofs Go Go.Am
namespace Go.Proofs.Ytdkidgkiplcggaa.d
def c5l:List (Nat×List Nat):=[]
def c3T:List (Nat×List Nat):=[]
def c4u:List (Nat×V5):=[]
def b8e(E:i9)(w0:j7)(Q:D→b8→Prop)(a0:D)(S:b8):Prop:=
 b7 (f9 .eql a0 (.int .u8 1)) fun v0=>
 i5 v0
 (Q (.int .i64 8) S)
 (b7 (f9 .eql a0 (.int .u8 2)) fun v1=>
 i5 v1
 (Q (.int .i64 32) S)
 (b7 (f9 .eql a0 (.int .u8 3)) fun v2=>
 i5 v2
 (Q (.int .i64 64) S)
 (Q (.int .i64 0) S)))
theorem c0o{E:i9}{w0:j7}{Q:D→b8→Prop}{a0:D}{S:b8}(h:b8e E w0 (d9 E Q) a0 S):j6 Try.prog E w0 b1J [a0] S Q:=
 j4 c5l c3T c4u (fn:=Try.f113) (c:=Try.f113.body.getD .skip) mixed Try.func113 (by kernel_rfl) (by kernel_rfl) h
def c4W:List (Nat×List Nat):=[]
def c4b:List (Nat×List Nat):=[]
def c4X:List (Nat×V5):=[]
def b8p(E:i9)(w0:j7)(Q:D→b8→Prop)(a0 a1:D)(S:b8):Prop:=
 b7 (f9 .eql a0 (.int .u8 1)) fun v0=>
 i5 v0
 (b7 (K1 .i8 a1) fun v1=>
 b7 (K1 .i64 v1) fun v2=>
 Q v2 S)
 (b7 (f9 .eql a0 (.int .u8 2)) fun v3=>
 i5 v3
 (b7 (K1 .i32 a1) fun v4=>
 b7 (K1 .i64 v4) fun v5=>
 Q v5 S)
 (b7 (f9 .eql a0 (.int .u8 3)) fun v6=>
 i5 v6
 (Q a1 S)
 (Q (.int .i64 0) S)))
theorem c1r{E:i9}{w0:j7}{Q:D→b8→Prop}{a0 a1:D}{S:b8}(h:b8p E w0 (d9 E Q) a0 a1 S):j6 Try.prog E w0 b1q [a0,a1] S Q:=
 j4 c4W c4b c4X (fn:=Try.f114) (c:=Try.f114.body.getD .skip) mixed Try.func114 (by kernel_rfl) (by kernel_rfl) h
def c4r:List (Nat×List Nat):=[]
def c4d:List (Nat×List Nat):=[]
def c3X:List (Nat×V5):=[]
def b7Y(E:i9)(w0:j7)(Q:D→b8→Prop)(a0 a1:D)(S:b8):Prop:=
 j6 Try.prog E w0 b1J [a0] S fun v0 S1=>
 b7 (f9 .gtr v0 (.int .i64 0)) fun v2=>
 b7 (d8 (b9 v2 true) (some a0)) fun v3=>
 b7 (d8 (b9 v2 true) (some a1)) fun v4=>
 p8 (b9 v2 true) (fun K=>j6 Try.prog E w0 b1q [v3,v4] S1 K) S1 fun v5 S6=>
 b7 (d8 (b9 v2 true) (some a1)) fun v7=>
 b7 (d8 (b9 v2 true) (f9 .eql v5 v7)) fun v8=>
 b7 (o0 v2 v8 (.bool false)) fun v9=>
 Q v9 S6
theorem c1b{E:i9}{w0:j7}{Q:D→b8→Prop}{a0 a1:D}{S:b8}(h:b7Y E w0 (d9 E Q) a0 a1 S):j6 Try.prog E w0 b1G [a0,a1] S Q:=
 j4 c4r c4d c3X (fn:=Try.f90) (c:=Try.f90.body.getD .skip) mixed Try.func90 (by kernel_rfl) (by kernel_rfl) h
def a7R:List (Nat×List Nat):=[(10,[0,5,15,16])]
def a7z:List (Nat×List Nat):=[]
def a7F:List (Nat×V5):=[]
noncomputable def a5K:Code:=(j9 [1,1,1,0,1,0,0] (Try.f102.body.getD .skip))
def a6t(E:i9)(w0:j7)(Q:D→b8→Prop):o7→List D→b8→Prop:=
 (r8 0 (L3 Try.prog E w0 a7R a7z a7F (j9 [1,1,1,1] (Try.f102.body.getD .skip)) (F3 Try.prog Try.f102 Q)))
def a6e(E:i9)(w0:j7)(N0:D→D→D→D→b8→Prop)(Q:D→b8→Prop)(x0 x5 x15 x16:D)(S:b8):Prop:=
 b7 (f9 .lss x16 x15) fun v6=>
 i5 v6
 (b7 (f9 .mul (.int .i64 8) x16) fun v7=>
 b7 (f9 .shr x0 v7) fun v8=>
 b7 (K1 .u8 v8) fun v9=>
 b7 (p9 1 x5 x16) fun v10=>
 i7 S 1 v10 v9 fun v11 S12=>
 b7 (f9 .add x16 (.int .i64 1)) fun v13=>
 N0 x0 x5 x15 v13 S12)
 (Q x5 S)
theorem b5F{E:i9}{w0:j7}{N0:D→D→D→D→b8→Prop}{Q:D→b8→Prop}{x0 x5 x15 x16:D}{S:b8}(h:a6e E w0 N0 Q x0 x5 x15 x16 S):
  j3 Try.prog E w0 a5K (l9 29 [0,5,15,16] [x0,x5,x15,x16]) S (D8 (fun T S=>N0 (T.getD 0 c9) (T.getD 5 c9) (T.getD 15 c9) (T.getD 16 c9) S) (a6t E w0 Q)):=j0 a7R a7z a7F mixed (by kernel_rfl) h
theorem b5y{E:i9}{w0:j7}{Q:D→b8→Prop}(I:Nat→D→D→D→D→b8→Prop)
  (step:∀n x0 x5 x15 x16 S,I n x0 x5 x15 x16 S→a6e E w0 (fun x0 x5 x15 x16 S=>∃m,m<n∧I m x0 x5 x15 x16 S) Q x0 x5 x15 x16 S)
  {n:Nat} {x0 x5 x15 x16:D} {S:b8} (h:I n x0 x5 x15 x16 S):j3 Try.prog E w0 (.loop a5K) (l9 29 [0,5,15,16] [x0,x5,x15,x16]) S (a6t E w0 Q):=
 q9 (k:=29) (n:=n) (I:=fun n T S=>I n (T.getD 0 c9) (T.getD 5 c9) (T.getD 15 c9) (T.getD 16 c9) S) (fun n T S hl hI=>s4 [0,5,15,16] hl (j3.mono (b5F (step n _ _ _ _ S hI)) fun ex T' S' _ hq=>by cases ex<;>exact hq)) (o5 ..) (Eq.mp (by kernel_rfl) h)
def b5v(E:i9)(w0:j7)(Q:D→b8→Prop)(a0 a1:D)(S:b8):Prop:=
 b7 (f9 .lss a1 (.int .i64 1)) fun v0=>
 b7 (d8 (b9 v0 false) (some a1)) fun v1=>
 b7 (d8 (b9 v0 false) (f9 .gtr v1 (.int .i64 8))) fun v2=>
 b7 (o0 v0 (.bool true) v2) fun v3=>
 i5 v3
 (Q .nilSlc S)
 (b1T S 1 1 [(.int .u8 0)] a1 a1 fun v4 S5=>
 j3 Try.prog E w0 (.loop a5K) (l9 29 [0,5,15,16] [a0,v4,a1,(.int .i64 0)]) S5 (a6t E w0 Q))
theorem b9b{E:i9}{w0:j7}{Q:D→b8→Prop}{a0 a1:D}{S:b8}(h:b5v E w0 (d9 E Q) a0 a1 S):j6 Try.prog E w0 a1k [a0,a1] S Q:=
 j4 a7R a7z a7F (fn:=Try.f102) (c:=Try.f102.body.getD .skip) mixed Try.func102 (by kernel_rfl) (by kernel_rfl) h
def a9K:List (Nat×List Nat):=[(20,[0,1,2,9,29,30])]
def a8D:List (Nat×List Nat):=[]
def a9A:List (Nat×V5):=[]
noncomputable def a7E:Code:=(j9 [1,1,1,0,1,0,0] (Try.f87.body.getD .skip))
def a7G(E:i9)(w0:j7)(Q:D→b8→Prop):o7→List D→b8→Prop:=
 (r8 1 (L3 Try.prog E w0 a9K a8D a9A (j9 [1,1,1,1] (Try.f87.body.getD .skip)) (F3 Try.prog Try.f87 Q)))
def a7r(E:i9)(w0:j7)(N0:D→D→D→D→D→D→b8→Prop)(Q:D→b8→Prop)(x0 x1 x2 x9 x29 x30:D)(S:b8):Prop:=
 b7 (f9 .lss x30 x29) fun v3=>
 i5 v3
 (b7 (f9 .add x1 x30) fun v4=>
 b7 (p9 1 x0 v4) fun v5=>
 b7 (d0 S v5) fun v6=>
 b7 (K1 .u64 v6) fun v7=>
 b7 (f9 .mul (.int .i64 8) x30) fun v8=>
 b7 (f9 .shl v7 v8) fun v9=>
 b7 (f9 .or x9 v9) fun v10=>
 b7 (f9 .add x30 (.int .i64 1)) fun v11=>
 N0 x0 x1 x2 v10 x29 v11 S)
 (b7 (f9 .add x1 x2) fun v12=>
 Q (.tup [x9,v12,(.int .i64 0)]) S)
theorem b7f{E:i9}{w0:j7}{N0:D→D→D→D→D→D→b8→Prop}{Q:D→b8→Prop}{x0 x1 x2 x9 x29 x30:D}{S:b8}(h:a7r E w0 N0 Q x0 x1 x2 x9 x29 x30 S):
  j3 Try.prog E w0 a7E (l9 50 [0,1,2,9,29,30] [x0,x1,x2,x9,x29,x30]) S (D8 (fun T S=>N0 (T.getD 0 c9) (T.getD 1 c9) (T.getD 2 c9) (T.getD 9 c9) (T.getD 29 c9) (T.getD 30 c9) S) (a7G E w0 Q)):=j0 a9K a8D a9A mixed (by kernel_rfl) h
theorem b6I{E:i9}{w0:j7}{Q:D→b8→Prop}(I:Nat→D→D→D→D→D→D→b8→Prop)
  (step:∀n x0 x1 x2 x9 x29 x30 S,I n x0 x1 x2 x9 x29 x30 S→a7r E w0 (fun x0 x1 x2 x9 x29 x30 S=>∃m,m<n∧I m x0 x1 x2 x9 x29 x30 S) Q x0 x1 x2 x9 x29 x30 S)
  {n:Nat} {x0 x1 x2 x9 x29 x30:D} {S:b8} (h:I n x0 x1 x2 x9 x29 x30 S):j3 Try.prog E w0 (.loop a7E) (l9 50 [0,1,2,9,29,30] [x0,x1,x2,x9,x29,x30]) S (a7G E w0 Q):=
 q9 (k:=50) (n:=n) (I:=fun n T S=>I n (T.getD 0 c9) (T.getD 1 c9) (T.getD 2 c9) (T.getD 9 c9) (T.getD 29 c9) (T.getD 30 c9) S) (fun n T S hl hI=>s4 [0,1,2,9,29,30] hl (j3.mono (b7f (step n _ _ _ _ _ _ S hI)) fun ex T' S' _ hq=>by cases ex<;>exact hq)) (o5 ..) (Eq.mp (by kernel_rfl) h)
def a1H(E:i9)(w0:j7)(Q:D→b8→Prop)(x0 x1 x2 x11:D)(S:b8):Prop:=
 i5 x11
 (Q (.tup [(.int .u64 0),(.int .i64 0),(.int .i64 2)]) S)
 (b7 (m9 x0) fun v0=>
 b7 (f9 .sub v0 x1) fun v1=>
 b7 (f9 .gtr x2 v1) fun v2=>
 i5 v2
 (Q (.tup [(.int .u64 0),(.int .i64 0),(.int .i64 10)]) S)
 (j3 Try.prog E w0 (.loop a7E) (l9 50 [0,1,2,9,29,30] [x0,x1,x2,(.int .u64 0),x2,(.int .i64 0)]) S (a7G E w0 Q)))
def b8n(E:i9)(w0:j7)(Q:D→b8→Prop)(a0 a1 a2:D)(S:b8):Prop:=
 b7 (f9 .lss a2 (.int .i64 1)) fun v13=>
 i5 v13
 (a1H E w0 Q a0 a1 a2 v13 S)
 (b7 (f9 .gtr a2 (.int .i64 8)) fun v14=>
 i5 v14
 (a1H E w0 Q a0 a1 a2 v14 S)
 (b7 (f9 .lss a1 (.int .i64 0)) fun v15=>
 i5 v15
 (a1H E w0 Q a0 a1 a2 v15 S)
 (b7 (m9 a0) fun v16=>
 b7 (f9 .gtr a1 v16) fun v17=>
 a1H E w0 Q a0 a1 a2 v17 S)))
theorem b9W{E:i9}{w0:j7}{Q:D→b8→Prop}{a0 a1 a2:D}{S:b8}(h:b8n E w0 (d9 E Q) a0 a1 a2 S):j6 Try.prog E w0 b2e [a0,a1,a2] S Q:=
 j4 a9K a8D a9A (fn:=Try.f87) (c:=Try.f87.body.getD .skip) mixed Try.func87 (by kernel_rfl) (by kernel_rfl) h
def c1k:List (Nat×List Nat):=[]
def c0w:List (Nat×List Nat):=[]
def c0T:List (Nat×V5):=[]
def b3h(E:i9)(w0:j7)(Q:D→b8→Prop)(a0 a1:D)(S:b8):Prop:=
 b7 (o4 a0) fun cs=>j8 S cs fun v0 S1=>
 b7 (o4 a1) fun cs=>j8 S1 cs fun v2 S3=>
 b7 (some (.fn (.func a0e) [] [v0,v2])) fun v4=>
 Q v4 S3
theorem b6S{E:i9}{w0:j7}{Q:D→b8→Prop}{a0 a1:D}{S:b8}(h:b3h E w0 (d9 E Q) a0 a1 S):j6 Try.prog E w0 r7 [a0,a1] S Q:=
 j4 c1k c0w c0T (fn:=Try.f62) (c:=Try.f62.body.getD .skip) mixed Try.func62 (by kernel_rfl) (by kernel_rfl) h
def c7n:List (Nat×List Nat):=[]
def c6G:List (Nat×List Nat):=[]
def c6b:List (Nat×V5):=[]
def b9S(E:i9)(w0:j7)(Q:D→b8→Prop)(a0:D)(S:b8):Prop:=
 b7 (o4 a0) fun cs=>j8 S cs fun v0 S1=>
 b7 (some (.fn (.func a2t) [] [v0])) fun v2=>
 Q v2 S1
theorem c2o{E:i9}{w0:j7}{Q:D→b8→Prop}{a0:D}{S:b8}(h:b9S E w0 (d9 E Q) a0 S):j6 Try.prog E w0 C8 [a0] S Q:=
 j4 c7n c6G c6b (fn:=Try.f63) (c:=Try.f63.body.getD .skip) mixed Try.func63 (by kernel_rfl) (by kernel_rfl) h
def b7e:List (Nat×List Nat):=[]
def b7K:List (Nat×List Nat):=[]
def b6Q:List (Nat×V5):=[]
def b0b(E:i9)(w0:j7)(Q:D→b8→Prop)(a0 c0 c1:D)(S:b8):Prop:=
 b7 (d0 S c0) fun v0=>
 b7 (f9 .leq v0 a0) fun v1=>
 b7 (d8 (b9 v1 true) (some a0)) fun v2=>
 b7 (d8 (b9 v1 true) (d0 S c1)) fun v3=>
 b7 (d8 (b9 v1 true) (f9 .leq v2 v3)) fun v4=>
 b7 (o0 v1 v4 (.bool false)) fun v5=>
 Q v5 S
theorem b3W{E:i9}{w0:j7}{Q:D→b8→Prop}{a0 c0 c1:D}{S:b8}(h:b0b E w0 (d9 E Q) a0 c0 c1 S):j6 Try.prog E w0 a0e [a0,c0,c1] S Q:=
 j4 b7e b7K b6Q (fn:=Try.f88) (c:=Try.f88.body.getD .skip) mixed Try.func88 (by kernel_rfl) (by kernel_rfl) h
def c2l:List (Nat×List Nat):=[]
def c2N:List (Nat×List Nat):=[]
def c2g:List (Nat×V5):=[]
def b6c(E:i9)(w0:j7)(Q:D→b8→Prop)(a0 c0:D)(S:b8):Prop:=
 b7 (d0 S c0) fun v0=>
 j6 Try.prog E w0 b1G [v0,a0] S fun v1 S2=>
 Q v1 S2
theorem b8I{E:i9}{w0:j7}{Q:D→b8→Prop}{a0 c0:D}{S:b8}(h:b6c E w0 (d9 E Q) a0 c0 S):j6 Try.prog E w0 a2t [a0,c0] S Q:=
 j4 c2l c2N c2g (fn:=Try.f89) (c:=Try.f89.body.getD .skip) mixed Try.func89 (by kernel_rfl) (by kernel_rfl) h
end Go.Proofs.Ytdkidgkiplcggaa.d
end
section
namespace Go.Am
section
variable{P:Program}{E:i9}{w0:j7}
@[simp] theorem oD{α:Type}(a:α)(Q:α→Prop):b7 (some a) Q=Q a:=(rfl)
@[simp] theorem cdT(a b:Prop):i5 (.bool true) a b=a:=(rfl)
@[simp] theorem cdF(a b:Prop):i5 (.bool false) a b=b:=(rfl)
theorem cdB(t:Bool)(a b:Prop):i5 (.bool t) a b↔(t=true→a)∧(t=false→b):=by cases t<;>simp
theorem M0(p:Prop)[Decidable p](a b:Prop):i5 (.bool (decide p)) a b↔(p→a)∧(¬p→b):=by
 by_cases h:p<;>simp[h]
@[simp] theorem gdT(s:(D→b8→Prop)→Prop)(S:b8)(Q:D→b8→Prop):p8 (some true) s S Q=s Q:=(rfl)
@[simp] theorem gdF(s:(D→b8→Prop)→Prop)(S:b8)(Q:D→b8→Prop):p8 (some false) s S Q=Q c9 S:=(rfl)
@[simp] theorem vdT(r:Option D):d8 (some true) r=r:=(rfl)
@[simp] theorem vdF(r:Option D):d8 (some false) r=some c9:=(rfl)
@[simp] theorem N6(b w:Bool):b9 (.bool b) w=some (b==w):=(rfl)
@[simp] theorem wdU(w:Bool):b9 c9 w=some false:=(rfl)
@[simp] theorem P0(t:Bool)(a b:D):o0 (.bool t) a b=some (if t then a else b):=(rfl)
@[simp] theorem exD(vs:List D)(i:Nat):j2 (.tup vs) i=vs[i]? :=(rfl)
@[simp] theorem ndP(k i:Nat):a0H (.ptr k i)=some (.ptr k i):=(rfl)
@[simp] theorem ndR(k r i sz:Nat):a0H (.rel k r i sz)=some (.rel k r i sz):=(rfl)
@[simp] theorem ndE(row:List D)(i:Nat):a0H (.elt row i)=some (.elt row i):=(rfl)
@[simp] theorem ndF(f:FuncId)(a b:List D):a0H (.fn (.func f) a b)=some (.fn (.func f) a b):=(rfl)
@[simp] theorem ndI(t:TypeId)(v:D):a0H (.ifc t v)=some (.ifc t v):=(rfl)
@[simp] theorem F8(k i o:Nat):j5 o (.ptr k i)=some (.ptr k (i+o)):=(rfl)
@[simp] theorem ofR(k r i sz o:Nat):j5 o (.rel k r i sz)=some (.rel k r (i+o) sz):=(rfl)
@[simp] theorem ofE(row:List D)(i o:Nat):j5 o (.elt row i)=some (.elt row (i+o)):=(rfl)
@[simp] theorem paA(off n:Nat)(cs:List D):c5i off n (.agg cs)=some (.agg ((cs.drop off).take n)):=(rfl)
@[simp] theorem psA(off:Nat)(cs:List D):c4E off (.agg cs)=cs[off]? :=(rfl)
@[simp] theorem lnN:m9 .nilSlc=some (.int .i64 0):=(rfl)
@[simp] theorem lnL(rows:List (List D))(sz:Nat):m9 (.lst rows sz)=some (.int .i64 rows.length):=(rfl)
@[simp] theorem lnE(rows more:List (List D))(sz:Nat):m9 (.ext rows more sz)=some (.int .i64 rows.length):=(rfl)
@[simp] theorem lnR(k i len cap:Nat)(ex:Bool)(sz:Nat):m9 (.raw k i len cap ex sz)=some (.int .i64 len):=(rfl)
@[simp] theorem lnS(s:List UInt8):a9l (.str s)=some (.int .i64 s.length):=(rfl)
@[simp] theorem cvI(k k':IntKind)(n:Int):K1 k (.int k' n)=some (.int k (k.wrap n)):=(rfl)
@[simp] theorem cvS(s:List UInt8):c5d (.str s)=some (.str s):=(rfl)
@[simp] theorem unN(b:Bool):unD .not (.bool b)=some (.bool !b):=(rfl)
@[simp] theorem unM(k:IntKind)(n:Int):unD .neg (.int k n)=some (.int k (k.wrap (0 - n))):=(rfl)
@[simp] theorem H7(k:IntKind)(a b:Int):f9 .add (.int k a) (.int k b)=some (.int k (k.wrap (a+b))):=by simp[f9,Q7,a0W]
@[simp] theorem b3c(k:IntKind)(a b:Int):f9 .sub (.int k a) (.int k b)=some (.int k (k.wrap (a - b))):=by simp[f9,Q7,a0W]
@[simp] theorem d2a(k:IntKind)(a b:Int):f9 .mul (.int k a) (.int k b)=some (.int k (k.wrap (a*b))):=by simp[f9,Q7,a0W]
@[simp] theorem a7J(k:IntKind)(a b:Int):f9 .eql (.int k a) (.int k b)=some (.bool (a==b)):=by simp[f9,Q7,a0W]
@[simp] theorem c2E(k:IntKind)(a b:Int):f9 .neq (.int k a) (.int k b)=some (.bool (a != b)):=by simp[f9,Q7,a0W]
@[simp] theorem L7(k:IntKind)(a b:Int):f9 .lss (.int k a) (.int k b)=some (.bool (decide (a<b))):=by simp[f9,Q7,a0W]
@[simp] theorem d1S(k:IntKind)(a b:Int):f9 .leq (.int k a) (.int k b)=some (.bool (decide (a≤b))):=by simp[f9,Q7,a0W]
@[simp] theorem a9k(k:IntKind)(a b:Int):f9 .gtr (.int k a) (.int k b)=some (.bool (decide (a>b))):=by simp[f9,Q7,a0W]
@[simp] theorem a9G(k:IntKind)(a b:Int):f9 .geq (.int k a) (.int k b)=some (.bool (decide (a≥b))):=by simp[f9,Q7,a0W]
@[simp] theorem d3L(k:IntKind)(a b:Int):f9 .and (.int k a) (.int k b)=some (.int k (k.wrap (BitVec.ofInt k.bits a &&& BitVec.ofInt k.bits b).toNat)):=by simp[f9,Q7,a0W]
@[simp] theorem d6b(k:IntKind)(a b:Int):f9 .or (.int k a) (.int k b)=some (.int k (k.wrap (BitVec.ofInt k.bits a ||| BitVec.ofInt k.bits b).toNat)):=by simp[f9,Q7,a0W]
@[simp] theorem d4b(k:IntKind)(a b:Int):f9 .xor (.int k a) (.int k b)=some (.int k (k.wrap (BitVec.ofInt k.bits a ^^^ BitVec.ofInt k.bits b).toNat)):=by simp[f9,Q7,a0W]
theorem d4a(k k':IntKind)(a:Int)(b:Int)(h:0≤b):f9 .shl (.int k a) (.int k' b)=some (.int k (k.wrap (a*2^(min b.toNat k.bits)))):=by simp only[f9];rw[if_neg (by omega)]
theorem c9k(k k':IntKind)(a:Int)(b:Int)(h:0≤b):f9 .shr (.int k a) (.int k' b)=some (.int k (a.fdiv (2^(min b.toNat k.bits)))):=by simp only[f9];rw[if_neg (by omega)]
@[simp] theorem d6R(a b:List UInt8):c6O .add (.str a) (.str b)=if((a.length+b.length:Nat):Int)≤IntKind.i64.max then some (.str (a++b)) else none:=by
 simp only[c6O,a7f];split<;>rfl
@[simp] theorem d6D(a b:List UInt8):c6O .eql (.str a) (.str b)=some (.bool (a==b)):=(rfl)
@[simp] theorem d7d(a b:List UInt8):c6O .neq (.str a) (.str b)=some (.bool !(a==b)):=(rfl)
@[simp] theorem eqE(b:Bool):b8S .eql (some b)=some (.bool b):=(rfl)
@[simp] theorem eqN(b:Bool):b8S .neq (some b)=some (.bool !b):=(rfl)
@[simp] theorem d7b(a b:Bool):d4M (.bool a) (.bool b)=some (a==b):=(rfl)
@[simp] theorem clB(b:Bool):o4 (.bool b)=some [.bool b]:=(rfl)
@[simp] theorem clI(k:IntKind)(n:Int):o4 (.int k n)=some [.int k n]:=(rfl)
@[simp] theorem clS(s:List UInt8):o4 (.str s)=some [.str s]:=(rfl)
@[simp] theorem clN:o4 .nilSlc=some [.nilSlc]:=(rfl)
@[simp] theorem clP:o4 .nilPtr=some [.nilPtr]:=(rfl)
@[simp] theorem clF:o4 .nilFn=some [.nilFn]:=(rfl)
@[simp] theorem clL(rows:List (List D))(sz:Nat):o4 (.lst rows sz)=some [.lst rows sz]:=(rfl)
@[simp] theorem clE(rows more:List (List D))(sz:Nat):o4 (.ext rows more sz)=some [.ext rows more sz]:=(rfl)
@[simp] theorem clR(k i len cap:Nat)(ex:Bool)(sz:Nat):o4 (.raw k i len cap ex sz)=some [.raw k i len cap ex sz]:=(rfl)
@[simp] theorem W3(cs:List D):o4 (.agg cs)=some cs:=(rfl)
@[simp] theorem d6U(k i:Nat):o4 (.ptr k i)=some [.ptr k i]:=(rfl)
@[simp] theorem d7a(f:Fn)(a b:List D):o4 (.fn f a b)=some [.fn f a b]:=(rfl)
@[simp] theorem d6W(t:TypeId)(v:D):o4 (.ifc t v)=some [.ifc t v]:=(rfl)
@[simp] theorem agS(cs:List D):C3 (some cs)=some (.agg cs):=(rfl)
@[simp] theorem fiN(cs:List D):o8 cs []=some cs:=(rfl)
theorem fiC{cs:List D}{off size:Nat}{v:D}{rest:List (Nat×Nat×D)}{ds:List D}(h:o4 v=some ds)(hl:ds.length=size∧off+size≤cs.length):o8 cs ((off,size,v)::rest)=o8 (l7 cs off ds) rest:=by
 simp only[o8,h];rw[if_pos hl]
@[simp] theorem frN(sz:Nat)(rows:List (List D)):j1 sz rows []=some rows:=(rfl)
@[simp] theorem lsE(row:List D)(i:Nat)(S:b8):d0 S (.elt row i)=row[i]? :=(rfl)
@[simp] theorem laE(row:List D)(i n:Nat)(S:b8):i4 S n (.elt row i)=if 0<n∧i+n≤row.length then some (.agg ((row.drop i).take n)) else none:=(rfl)
@[simp] theorem mxD(k:IntKind)(a b:Int):b4R true [.int k a, .int k b]=some (.int k (if b>a then b else a)):=(rfl)
@[simp] theorem mnD(k:IntKind)(a b:Int):b4R false [.int k a, .int k b]=some (.int k (if b<a then b else a)):=(rfl)
theorem b6m{rows:List (List D)}{sz i:Nat}{row:List D}(h:rows[i]? =some row):p9 sz (.lst rows sz) (.int .i64 (i:Int))=some (.elt row 0):=by
 simp only[p9]
 rw[if_pos ⟨by trivial,by omega⟩,Int.toNat_natCast,h]
theorem d6K{rows more:List (List D)}{sz i:Nat}{row:List D}(h:rows[i]? =some row):p9 sz (.ext rows more sz) (.int .i64 (i:Int))=some (.elt row 0):=by
 simp only[p9]
 rw[if_pos ⟨by trivial,by omega⟩,Int.toNat_natCast,h]
theorem d0q{k i len cap sz j:Nat}{ex:Bool}(h:j<len):p9 sz (.raw k i len cap ex sz) (.int .i64 (j:Int))=some (.rel k (i+j) 0 sz):=by
 simp only[p9]
 rw[if_pos ⟨by trivial,by omega,by omega⟩,Int.toNat_natCast]
theorem c0g{s:List UInt8}{i:Nat}{b:UInt8}(h:s[i]? =some b):c4c (.str s) (.int .i64 (i:Int))=some (.int .u8 b.toNat):=by
 simp only[c4c]
 rw[if_pos (by omega),Int.toNat_natCast,h]
theorem b8.fresh{S:b8}{j k:Nat}{o:D6}(h:(S.set j o) k=Option.none):k≠j∧S k=Option.none:=by
 unfold b8.set at h
 split at h
 ·cases h
 ·rename_i e;exact⟨e,h⟩
theorem c3C{S:b8}{k i sz:Nat}{cs:List D}{acs:List AV}(h:S k=some ⟨sz,[cs],acs⟩):b8o S (.ptr k i)=some (cs,i):=by
 simp only[b8o,h]
theorem d0R{S:b8}{k r i sz:Nat}{rows:List (List D)}{row:List D}{acs:List AV}(h:S k=some ⟨sz,rows,acs⟩)(hr:rows[r]? =some row):b8o S (.rel k r i sz)=some (row,i):=by
 simp only[b8o,h,hr];rfl
theorem ldP{S:b8}{k i sz:Nat}{cs:List D}{acs:List AV}(h:S k=some ⟨sz,[cs],acs⟩):d0 S (.ptr k i)=cs[i]? :=by simp only[d0,c3C h]
theorem laP{S:b8}{k i n sz:Nat}{cs:List D}{acs:List AV}(h:S k=some ⟨sz,[cs],acs⟩)(hn:0<n∧i+n≤cs.length):i4 S n (.ptr k i)=some (.agg ((cs.drop i).take n)):=by
 simp only[i4,c3C h];rw[if_pos hn]
theorem ldR{S:b8}{k r i sz:Nat}{rows:List (List D)}{row:List D}{acs:List AV}(h:S k=some ⟨sz,rows,acs⟩)(hr:rows[r]? =some row):d0 S (.rel k r i sz)=row[i]? :=by simp only[d0,d0R h hr]
theorem stP{S:b8}{k i n sz:Nat}{cs ds:List D}{acs:List AV}{v:D}{K:D→b8→Prop}(h:S k=some ⟨sz,[cs],acs⟩)(hv:o4 v=some ds)(hn:ds.length=n∧0<n∧i+n≤cs.length)
  (hK:∀acs,K c9 (S.set k ⟨sz,[l7 cs i ds],acs⟩)):i7 S n (.ptr k i) v K:=by
 simp only[i7,hv,h]
 rw[if_pos ⟨hn.1,hn.2.1⟩,if_pos hn.2.2]
 exact hK
theorem stR{S:b8}{k r i n sz:Nat}{rows:List (List D)}{row ds:List D}{acs:List AV}{v:D}{K:D→b8→Prop}(h:S k=some ⟨sz,rows,acs⟩)(hr:rows[r]? =some row)(hv:o4 v=some ds)(hn:ds.length=n∧0<n∧i+n≤row.length)
  (hK:∀acs,K c9 (S.set k ⟨sz,rows.set r (l7 row i ds),acs⟩)):i7 S n (.rel k r i sz) v K:=by
 simp only[i7,hv,h,hr]
 rw[if_pos ⟨hn.1,hn.2.1⟩,if_pos (by trivial),if_pos hn.2.2]
 exact hK
theorem b8.set_in(S:b8){k l:Nat}(h:k≠l)(a b c:D6):((S.set k a).set l b).set k c=(S.set k c).set l b:=by
 rw[b8.set_comm S h,b8.set_set,b8.set_comm S h]
theorem b8.le_new{S:b8}{k:Nat}{o:D6}(h:S k=Option.none):S.le (S.set k o):=b8.le_set (b8.le_refl S) h
def A9(l:List D):List (List D):=l.map fun d=>[d]
@[simp] theorem b1B(l:List D):(A9 l).length=l.length:=List.length_map _
theorem b4J{l:List D}{i:Nat}{d:D}(h:l[i]? =some d):(A9 l)[i]? =some [d]:=by simp only[A9,List.getElem?_map,h];rfl
def Grw(S0:b8)(t:D)(rows:List (List D))(sz:Nat)(S:b8):Prop:=
 (t= .nilSlc∧rows=[]∧S=S0)∨∃k acs,S0 k=Option.none∧t= .raw k 0 rows.length rows.length false sz∧S=S0.set k ⟨sz,rows,acs⟩
theorem Grw.nil(S:b8)(sz:Nat):Grw S .nilSlc [] sz S:= .inl ⟨rfl,rfl,rfl⟩
theorem Grw.le{S0 S:b8}{t:D}{rows:List (List D)}{sz:Nat}(h:Grw S0 t rows sz S):S0.le S:=by
 rcases h with ⟨_,_,rfl⟩|⟨k,acs,h,_,rfl⟩
 ·exact b8.le_refl _
 ·exact b8.le_new h
theorem Grw.len{S0 S:b8}{t:D}{rows:List (List D)}{sz:Nat}(h:Grw S0 t rows sz S):m9 t=some (.int .i64 rows.length):=by
 rcases h with ⟨rfl,rfl,rfl⟩|⟨k,acs,h,rfl,rfl⟩<;>rfl
theorem Grw.push{S0 S:b8}{t:D}{rows:List (List D)}{sz bytes:Nat}(h:Grw S0 t rows sz S){v:D}{news:List (List D)}(hv:rowsS S sz v=some news)(hb:0<bytes∧(2*(rows.length+news.length)+768)*bytes≤2^47){K:D→b8→Prop}
  (hK:∀t' S',Grw S0 t' (rows++news) sz S'→K t' S'):s8 S sz bytes t v K:=by
 simp only[s8,hv]
 rcases h with ⟨rfl,rfl,rfl⟩|⟨k,acs,h,rfl,rfl⟩
 ·simp only[a0B]
  by_cases hn:news=[]
  ·rw[if_pos hn]
   exact hK _ _ (.inl ⟨rfl,by rw[hn];rfl,rfl⟩)
  ·rw[if_neg hn]
   refine⟨⟨hb.1,by simpa using hb.2⟩, .inr fun k acs hk=>hK _ _ (.inr ⟨k,acs,hk, ?_, ?_⟩)⟩<;>simp
 ·simp only[a0B]
  by_cases hn:news=[]
  ·rw[if_pos hn]
   refine hK _ _ (.inr ⟨k,acs,h, ?_, ?_⟩)<;>simp[hn]
  ·rw[if_neg hn,b8.set_same]
   simp only
   rw[if_pos ⟨by trivial,by trivial,by omega⟩]
   refine⟨hb, .inr fun k' acs' hk'=> ?_⟩
   rw[b8.erase_set _ _ _ h]at hk' ⊢
   refine hK _ _ (.inr ⟨k',acs',hk', ?_, ?_⟩)<;>simp
theorem Grw.swap{S0 S1 S:b8}{t u:D}{r q:List (List D)}{s z:Nat}(h:Grw S0 t r s S1)(h':Grw S1 u q z S):∃S2,Grw S0 u q z S2∧Grw S2 t r s S:=by
 rcases h with ⟨rfl,rfl,rfl⟩|⟨k,acs,hk,rfl,rfl⟩
 ·exact⟨S,h', .inl ⟨rfl,rfl,rfl⟩⟩
 ·rcases h' with ⟨rfl,rfl,rfl⟩|⟨l,bcs,hl,rfl,rfl⟩
  ·exact⟨S0, .inl ⟨rfl,rfl,rfl⟩, .inr ⟨k,acs,hk,rfl,rfl⟩⟩
  ·obtain⟨hne,hl0⟩:=b8.fresh hl
   refine⟨S0.set l ⟨z,q,bcs⟩, .inr ⟨l,bcs,hl0,rfl,rfl⟩, .inr ⟨k,acs, ?_,rfl, ?_⟩⟩
   ·rw[b8.set_ne _ _ _ (Ne.symm hne)];exact hk
   ·exact b8.set_comm _ (Ne.symm hne) _ _
theorem Grw.fin{S0 S:b8}{t:D}{rows:List (List D)}{sz:Nat}(h:Grw S0 t rows sz S){Q:D→b8→Prop}(hq:d9 E Q (.lst rows sz) S0):d9 E Q t S:=by
 rcases h with ⟨rfl,rfl,rfl⟩|⟨k,acs,h,rfl,rfl⟩
 ·exact d9.nil hq
 ·refine d9.freeze (b8.set_same _ _ _) rfl (by simp) (Nat.le_refl _) ?_
  rw[b8.erase_set _ _ _ h]
  simpa using hq
theorem Grw.finT{S0 S:b8}{t:D}{rows:List (List D)}{sz:Nat}(h:Grw S0 t rows sz S){Q:D→b8→Prop}{lp lq:List D}(hq:d9 E Q (.tup (lp++ .lst rows sz::lq)) S0):d9 E Q (.tup (lp++t::lq)) S:=by
 rcases h with ⟨rfl,rfl,rfl⟩|⟨k,acs,h,rfl,rfl⟩
 ·exact d9.nilT hq
 ·refine d9.freezeT (b8.set_same _ _ _) rfl (by simp) (Nat.le_refl _) ?_
  rw[b8.erase_set _ _ _ h]
  simpa using hq
theorem Grw.under{S0 S:b8}{t:D}{rows:List (List D)}{sz:Nat}(h:Grw S0 t rows sz S){k:Nat}{o:D6}(hk:S k=Option.none):Grw (S0.set k o) t rows sz (S.set k o):=by
 rcases h with ⟨rfl,rfl,rfl⟩|⟨l,acs,h,rfl,rfl⟩
 ·exact .inl ⟨rfl,rfl,rfl⟩
 ·obtain⟨hne,hk0⟩:=b8.fresh hk
  refine .inr ⟨l,acs, ?_,rfl,b8.set_comm _ (Ne.symm hne) _ _⟩
  rw[b8.set_ne _ _ _ (Ne.symm hne)];exact h
theorem Grw.drop{S0 S:b8}{t:D}{rows:List (List D)}{sz k:Nat}{o:D6}(h:Grw (S0.set k o) t rows sz S)(hk:S0 k=Option.none):∃S',S'.le S∧Grw S0 t rows sz S':=by
 rcases h with ⟨rfl,rfl,rfl⟩|⟨l,acs,h,rfl,rfl⟩
 ·exact⟨S0,b8.le_new hk, .inl ⟨rfl,rfl,rfl⟩⟩
 ·obtain⟨hne,hl0⟩:=b8.fresh h
  refine⟨S0.set l ⟨sz,rows,acs⟩, ?_, .inr ⟨l,acs,hl0,rfl,rfl⟩⟩
  rw[b8.set_comm _ (Ne.symm hne)]
  refine b8.le_new ?_
  rw[b8.set_ne _ _ _ (Ne.symm hne)];exact hk
theorem Grw.base{S0 S1 S:b8}{t:D}{rows:List (List D)}{sz:Nat}(h:Grw S1 t rows sz S)(hle:S0.le S1):∃S',S'.le S∧Grw S0 t rows sz S':=by
 rcases h with ⟨rfl,rfl,rfl⟩|⟨l,acs,h,rfl,rfl⟩
 ·exact⟨S0,hle, .inl ⟨rfl,rfl,rfl⟩⟩
 ·have hl:S0 l=Option.none:=by
   cases e:S0 l with
   |none=>rfl
   |some o=>rw[hle _ _ e]at h;cases h
  refine⟨S0.set l ⟨sz,rows,acs⟩,fun j o e=> ?_, .inr ⟨l,acs,hl,rfl,rfl⟩⟩
  unfold b8.set at e ⊢
  split at e
  ·rename_i hj;rw[if_pos hj];exact e
  ·rename_i hj;rw[if_neg hj];exact hle _ _ e
theorem d3X{S:b8}{sz bytes:Nat}{z:List D}{n:Nat}{K:D→b8→Prop}(hb:bytes*n≤2^47∧n<2^60)(hK:∀k acs,S k=Option.none→K (.raw k 0 n n true sz) (S.set k ⟨sz,List.replicate n z,acs⟩)):b1T S sz bytes z (.int .i64 (n:Int)) (.int .i64 (n:Int)) K:=by
 simp only[b1T]
 rw[if_pos ⟨by omega,by omega,by have:=hb.1;exact_mod_cast this,by omega⟩,Int.toNat_natCast]
 exact .inr hK
theorem C9{S:b8}{sz:Nat}{rows:List (List D)}{len:Nat}{K:D→b8→Prop}(hl:rows.length=len)(h:K (.lst rows sz) S):m8 S sz (some rows) len K:=by
 simp only[m8,oD]
 refine .inl ?_
 rw[List.take_of_length_le (by omega)]
 exact h
theorem c5a{S:b8}{sz:Nat}{rows:List (List D)}{len:Nat}{K:D→b8→Prop}(h:∀k acs,S k=Option.none→K (.raw k 0 len len true sz) (S.set k ⟨sz,rows,acs⟩)):m8 S sz (some rows) len K:=by
 simp only[m8,oD]
 exact .inr h
theorem fwP(k i:Nat)(S S':b8):r3 (.ptr k i) S S'=(S' k=S k):=(rfl)
theorem fwR(x:D)(S:b8):r3 x S S:=by
 unfold r3
 split<;>trivial
end
end Go.Am
end
