/-
  TransferRisesSaid: part Qas of its proof.
-/
import Derived.Test.YtdkidgkiplcggaaGreatRows
import Derived.Test.YtdkidgkiplcggaaGreatQar
import Derived.KernelRfl
set_option linter.unusedVariables false
set_option linter.unusedSimpArgs false
set_option maxRecDepth 100000
section
open Go.Proofs Go Go.Am
namespace Go.Proofs.YtdkidgkiplcggaaGreat.d
def c7t:List (Nat×List Nat):=[]
def c7v:List (Nat×List Nat):=[]
def c7w:List (Nat×O6):=[]
def b9u(E:j2)(w0:j9)(Q:D→b8→Prop)(a0:D)(S:b8):Prop:=
 b7 (i4 .eql a0 (.int .u8 1)) fun v0=>
 i6 v0
 (Q (.int .i64 8) S)
 (b7 (i4 .eql a0 (.int .u8 2)) fun v1=>
 i6 v1
 (Q (.int .i64 32) S)
 (b7 (i4 .eql a0 (.int .u8 3)) fun v2=>
 i6 v2
 (Q (.int .i64 64) S)
 (Q (.int .i64 0) S)))
theorem c2Z{E:j2}{w0:j9}{Q:D→b8→Prop}{a0:D}{S:b8}(h:b9u E w0 (d9 E Q) a0 S):j8 Tryz.prog E w0 b2t [a0] S Q:=
 j0 c7t c7v c7w (fn:=Tryz.f139) (c:=Tryz.f139.body.getD .skip) mixed Tryz.func139 (by kernel_rfl) (by kernel_rfl) h
def c6z:List (Nat×List Nat):=[]
def c6i:List (Nat×List Nat):=[]
def c6H:List (Nat×O6):=[]
def b9D(E:j2)(w0:j9)(Q:D→b8→Prop)(a0 a1:D)(S:b8):Prop:=
 b7 (i4 .eql a0 (.int .u8 1)) fun v0=>
 i6 v0
 (b7 (J9 .i8 a1) fun v1=>
 b7 (J9 .i64 v1) fun v2=>
 Q v2 S)
 (b7 (i4 .eql a0 (.int .u8 2)) fun v3=>
 i6 v3
 (b7 (J9 .i32 a1) fun v4=>
 b7 (J9 .i64 v4) fun v5=>
 Q v5 S)
 (b7 (i4 .eql a0 (.int .u8 3)) fun v6=>
 i6 v6
 (Q a1 S)
 (Q (.int .i64 0) S)))
theorem c1O{E:j2}{w0:j9}{Q:D→b8→Prop}{a0 a1:D}{S:b8}(h:b9D E w0 (d9 E Q) a0 a1 S):j8 Tryz.prog E w0 b2p [a0,a1] S Q:=
 j0 c6z c6i c6H (fn:=Tryz.f140) (c:=Tryz.f140.body.getD .skip) mixed Tryz.func140 (by kernel_rfl) (by kernel_rfl) h
def c6D:List (Nat×List Nat):=[]
def c6x:List (Nat×List Nat):=[]
def c7j:List (Nat×O6):=[]
def b9P(E:j2)(w0:j9)(Q:D→b8→Prop)(a0 a1:D)(S:b8):Prop:=
 j8 Tryz.prog E w0 b2t [a0] S fun v0 S1=>
 b7 (i4 .gtr v0 (.int .i64 0)) fun v2=>
 b7 (f9 (d6 v2 true) (some a0)) fun v3=>
 b7 (f9 (d6 v2 true) (some a1)) fun v4=>
 Q1 (d6 v2 true) (fun K=>j8 Tryz.prog E w0 b2p [v3,v4] S1 K) S1 fun v5 S6=>
 b7 (f9 (d6 v2 true) (some a1)) fun v7=>
 b7 (f9 (d6 v2 true) (i4 .eql v5 v7)) fun v8=>
 b7 (q9 v2 v8 (.bool false)) fun v9=>
 Q v9 S6
theorem c3n{E:j2}{w0:j9}{Q:D→b8→Prop}{a0 a1:D}{S:b8}(h:b9P E w0 (d9 E Q) a0 a1 S):j8 Tryz.prog E w0 b2V [a0,a1] S Q:=
 j0 c6D c6x c7j (fn:=Tryz.f110) (c:=Tryz.f110.body.getD .skip) mixed Tryz.func110 (by kernel_rfl) (by kernel_rfl) h
def a8j:List (Nat×List Nat):=[(10,[0,5,15,16])]
def a8m:List (Nat×List Nat):=[]
def a8l:List (Nat×O6):=[]
noncomputable def a7d:Code:=(j7 [1,1,1,0,1,0,0] (Tryz.f97.body.getD .skip))
def a6E(E:j2)(w0:j9)(Q:D→b8→Prop):o8→List D→b8→Prop:=
 (q8 0 (H4 Tryz.prog E w0 a8j a8m a8l (j7 [1,1,1,1] (Tryz.f97.body.getD .skip)) (F5 Tryz.prog Tryz.f97 Q)))
def a6B(E:j2)(w0:j9)(N0:D→D→D→D→b8→Prop)(Q:D→b8→Prop)(x0 x5 x15 x16:D)(S:b8):Prop:=
 b7 (i4 .lss x16 x15) fun v6=>
 i6 v6
 (b7 (i4 .mul (.int .i64 8) x16) fun v7=>
 b7 (i4 .shr x0 v7) fun v8=>
 b7 (J9 .u8 v8) fun v9=>
 b7 (o6 1 x5 x16) fun v10=>
 i7 S 1 v10 v9 fun v11 S12=>
 b7 (i4 .add x16 (.int .i64 1)) fun v13=>
 N0 x0 x5 x15 v13 S12)
 (Q x5 S)
theorem b7r{E:j2}{w0:j9}{N0:D→D→D→D→b8→Prop}{Q:D→b8→Prop}{x0 x5 x15 x16:D}{S:b8}(h:a6B E w0 N0 Q x0 x5 x15 x16 S):
  j1 Tryz.prog E w0 a7d (m6 29 [0,5,15,16] [x0,x5,x15,x16]) S (B0 (fun T S=>N0 (T.getD 0 b9) (T.getD 5 b9) (T.getD 15 b9) (T.getD 16 b9) S) (a6E E w0 Q)):=j3 a8j a8m a8l mixed (by kernel_rfl) h
theorem b7p{E:j2}{w0:j9}{Q:D→b8→Prop}(I:Nat→D→D→D→D→b8→Prop)
  (step:∀n x0 x5 x15 x16 S,I n x0 x5 x15 x16 S→a6B E w0 (fun x0 x5 x15 x16 S=>∃m,m<n∧I m x0 x5 x15 x16 S) Q x0 x5 x15 x16 S)
  {n:Nat} {x0 x5 x15 x16:D} {S:b8} (h:I n x0 x5 x15 x16 S):j1 Tryz.prog E w0 (.loop a7d) (m6 29 [0,5,15,16] [x0,x5,x15,x16]) S (a6E E w0 Q):=
 o7 (k:=29) (n:=n) (I:=fun n T S=>I n (T.getD 0 b9) (T.getD 5 b9) (T.getD 15 b9) (T.getD 16 b9) S) (fun n T S hl hI=>p8 [0,5,15,16] hl (j1.mono (b7r (step n _ _ _ _ S hI)) fun ex T' S' _ hq=>by cases ex<;>exact hq)) (m7 ..) (Eq.mp (by kernel_rfl) h)
def b6m(E:j2)(w0:j9)(Q:D→b8→Prop)(a0 a1:D)(S:b8):Prop:=
 b7 (i4 .lss a1 (.int .i64 1)) fun v0=>
 b7 (f9 (d6 v0 false) (some a1)) fun v1=>
 b7 (f9 (d6 v0 false) (i4 .gtr v1 (.int .i64 8))) fun v2=>
 b7 (q9 v0 (.bool true) v2) fun v3=>
 i6 v3
 (Q .nilSlc S)
 (a6o S 1 1 [(.int .u8 0)] a1 a1 fun v4 S5=>
 j1 Tryz.prog E w0 (.loop a7d) (m6 29 [0,5,15,16] [a0,v4,a1,(.int .i64 0)]) S5 (a6E E w0 Q))
theorem c0I{E:j2}{w0:j9}{Q:D→b8→Prop}{a0 a1:D}{S:b8}(h:b6m E w0 (d9 E Q) a0 a1 S):j8 Tryz.prog E w0 a1R [a0,a1] S Q:=
 j0 a8j a8m a8l (fn:=Tryz.f97) (c:=Tryz.f97.body.getD .skip) mixed Tryz.func97 (by kernel_rfl) (by kernel_rfl) h
def b0h:List (Nat×List Nat):=[(20,[0,1,2,9,29,30])]
def b0y:List (Nat×List Nat):=[]
def b0x:List (Nat×O6):=[]
noncomputable def a8e:Code:=(j7 [1,1,1,0,1,0,0] (Tryz.f107.body.getD .skip))
def a8i(E:j2)(w0:j9)(Q:D→b8→Prop):o8→List D→b8→Prop:=
 (q8 1 (H4 Tryz.prog E w0 b0h b0y b0x (j7 [1,1,1,1] (Tryz.f107.body.getD .skip)) (F5 Tryz.prog Tryz.f107 Q)))
def a8t(E:j2)(w0:j9)(N0:D→D→D→D→D→D→b8→Prop)(Q:D→b8→Prop)(x0 x1 x2 x9 x29 x30:D)(S:b8):Prop:=
 b7 (i4 .lss x30 x29) fun v3=>
 i6 v3
 (b7 (i4 .add x1 x30) fun v4=>
 b7 (o6 1 x0 v4) fun v5=>
 b7 (c9 S v5) fun v6=>
 b7 (J9 .u64 v6) fun v7=>
 b7 (i4 .mul (.int .i64 8) x30) fun v8=>
 b7 (i4 .shl v7 v8) fun v9=>
 b7 (i4 .or x9 v9) fun v10=>
 b7 (i4 .add x30 (.int .i64 1)) fun v11=>
 N0 x0 x1 x2 v10 x29 v11 S)
 (b7 (i4 .add x1 x2) fun v12=>
 Q (.tup [x9,v12,(.int .i64 0)]) S)
theorem b8W{E:j2}{w0:j9}{N0:D→D→D→D→D→D→b8→Prop}{Q:D→b8→Prop}{x0 x1 x2 x9 x29 x30:D}{S:b8}(h:a8t E w0 N0 Q x0 x1 x2 x9 x29 x30 S):
  j1 Tryz.prog E w0 a8e (m6 50 [0,1,2,9,29,30] [x0,x1,x2,x9,x29,x30]) S (B0 (fun T S=>N0 (T.getD 0 b9) (T.getD 1 b9) (T.getD 2 b9) (T.getD 9 b9) (T.getD 29 b9) (T.getD 30 b9) S) (a8i E w0 Q)):=j3 b0h b0y b0x mixed (by kernel_rfl) h
theorem b8g{E:j2}{w0:j9}{Q:D→b8→Prop}(I:Nat→D→D→D→D→D→D→b8→Prop)
  (step:∀n x0 x1 x2 x9 x29 x30 S,I n x0 x1 x2 x9 x29 x30 S→a8t E w0 (fun x0 x1 x2 x9 x29 x30 S=>∃m,m<n∧I m x0 x1 x2 x9 x29 x30 S) Q x0 x1 x2 x9 x29 x30 S)
  {n:Nat} {x0 x1 x2 x9 x29 x30:D} {S:b8} (h:I n x0 x1 x2 x9 x29 x30 S):j1 Tryz.prog E w0 (.loop a8e) (m6 50 [0,1,2,9,29,30] [x0,x1,x2,x9,x29,x30]) S (a8i E w0 Q):=
 o7 (k:=50) (n:=n) (I:=fun n T S=>I n (T.getD 0 b9) (T.getD 1 b9) (T.getD 2 b9) (T.getD 9 b9) (T.getD 29 b9) (T.getD 30 b9) S) (fun n T S hl hI=>p8 [0,1,2,9,29,30] hl (j1.mono (b8W (step n _ _ _ _ _ _ S hI)) fun ex T' S' _ hq=>by cases ex<;>exact hq)) (m7 ..) (Eq.mp (by kernel_rfl) h)
def a2h(E:j2)(w0:j9)(Q:D→b8→Prop)(x0 x1 x2 x11:D)(S:b8):Prop:=
 i6 x11
 (Q (.tup [(.int .u64 0),(.int .i64 0),(.int .i64 2)]) S)
 (b7 (m9 x0) fun v0=>
 b7 (i4 .sub v0 x1) fun v1=>
 b7 (i4 .gtr x2 v1) fun v2=>
 i6 v2
 (Q (.tup [(.int .u64 0),(.int .i64 0),(.int .i64 10)]) S)
 (j1 Tryz.prog E w0 (.loop a8e) (m6 50 [0,1,2,9,29,30] [x0,x1,x2,(.int .u64 0),x2,(.int .i64 0)]) S (a8i E w0 Q)))
def b9z(E:j2)(w0:j9)(Q:D→b8→Prop)(a0 a1 a2:D)(S:b8):Prop:=
 b7 (i4 .lss a2 (.int .i64 1)) fun v13=>
 i6 v13
 (a2h E w0 Q a0 a1 a2 v13 S)
 (b7 (i4 .gtr a2 (.int .i64 8)) fun v14=>
 i6 v14
 (a2h E w0 Q a0 a1 a2 v14 S)
 (b7 (i4 .lss a1 (.int .i64 0)) fun v15=>
 i6 v15
 (a2h E w0 Q a0 a1 a2 v15 S)
 (b7 (m9 a0) fun v16=>
 b7 (i4 .gtr a1 v16) fun v17=>
 a2h E w0 Q a0 a1 a2 v17 S)))
theorem c3D{E:j2}{w0:j9}{Q:D→b8→Prop}{a0 a1 a2:D}{S:b8}(h:b9z E w0 (d9 E Q) a0 a1 a2 S):j8 Tryz.prog E w0 b2s [a0,a1,a2] S Q:=
 j0 b0h b0y b0x (fn:=Tryz.f107) (c:=Tryz.f107.body.getD .skip) mixed Tryz.func107 (by kernel_rfl) (by kernel_rfl) h
def c3J:List (Nat×List Nat):=[]
def c2j:List (Nat×List Nat):=[]
def c2L:List (Nat×O6):=[]
def b4K(E:j2)(w0:j9)(Q:D→b8→Prop)(a0 a1:D)(S:b8):Prop:=
 b7 (o3 a0) fun cs=>j6 S cs fun v0 S1=>
 b7 (o3 a1) fun cs=>j6 S1 cs fun v2 S3=>
 b7 (some (.fn (.func a0B) [] [v0,v2])) fun v4=>
 Q v4 S3
theorem b9d{E:j2}{w0:j9}{Q:D→b8→Prop}{a0 a1:D}{S:b8}(h:b4K E w0 (d9 E Q) a0 a1 S):j8 Tryz.prog E w0 s5 [a0,a1] S Q:=
 j0 c3J c2j c2L (fn:=Tryz.f81) (c:=Tryz.f81.body.getD .skip) mixed Tryz.func81 (by kernel_rfl) (by kernel_rfl) h
def c9D:List (Nat×List Nat):=[]
def c8e:List (Nat×List Nat):=[]
def c8D:List (Nat×O6):=[]
def c2V(E:j2)(w0:j9)(Q:D→b8→Prop)(a0:D)(S:b8):Prop:=
 b7 (o3 a0) fun cs=>j6 S cs fun v0 S1=>
 b7 (some (.fn (.func a3w) [] [v0])) fun v2=>
 Q v2 S1
theorem c4G{E:j2}{w0:j9}{Q:D→b8→Prop}{a0:D}{S:b8}(h:c2V E w0 (d9 E Q) a0 S):j8 Tryz.prog E w0 D3 [a0] S Q:=
 j0 c9D c8e c8D (fn:=Tryz.f82) (c:=Tryz.f82.body.getD .skip) mixed Tryz.func82 (by kernel_rfl) (by kernel_rfl) h
def b9m:List (Nat×List Nat):=[]
def b9a:List (Nat×List Nat):=[]
def b8f:List (Nat×O6):=[]
def b1b(E:j2)(w0:j9)(Q:D→b8→Prop)(a0 c0 c1:D)(S:b8):Prop:=
 b7 (c9 S c0) fun v0=>
 b7 (i4 .leq v0 a0) fun v1=>
 b7 (f9 (d6 v1 true) (some a0)) fun v2=>
 b7 (f9 (d6 v1 true) (c9 S c1)) fun v3=>
 b7 (f9 (d6 v1 true) (i4 .leq v2 v3)) fun v4=>
 b7 (q9 v1 v4 (.bool false)) fun v5=>
 Q v5 S
theorem b5h{E:j2}{w0:j9}{Q:D→b8→Prop}{a0 c0 c1:D}{S:b8}(h:b1b E w0 (d9 E Q) a0 c0 c1 S):j8 Tryz.prog E w0 a0B [a0,c0,c1] S Q:=
 j0 b9m b9a b8f (fn:=Tryz.f108) (c:=Tryz.f108.body.getD .skip) mixed Tryz.func108 (by kernel_rfl) (by kernel_rfl) h
def c4S:List (Nat×List Nat):=[]
def c4N:List (Nat×List Nat):=[]
def c4M:List (Nat×O6):=[]
def b6X(E:j2)(w0:j9)(Q:D→b8→Prop)(a0 c0:D)(S:b8):Prop:=
 b7 (c9 S c0) fun v0=>
 j8 Tryz.prog E w0 b2V [v0,a0] S fun v1 S2=>
 Q v1 S2
theorem c0J{E:j2}{w0:j9}{Q:D→b8→Prop}{a0 c0:D}{S:b8}(h:b6X E w0 (d9 E Q) a0 c0 S):j8 Tryz.prog E w0 a3w [a0,c0] S Q:=
 j0 c4S c4N c4M (fn:=Tryz.f109) (c:=Tryz.f109.body.getD .skip) mixed Tryz.func109 (by kernel_rfl) (by kernel_rfl) h
end Go.Proofs.YtdkidgkiplcggaaGreat.d
end
section
namespace Go.Am
section
variable{P:Program}{E:j2}{w0:j9}
@[simp] theorem oD{α:Type}(a:α)(Q:α→Prop):b7 (some a) Q=Q a:=(rfl)
@[simp] theorem cdT(a b:Prop):i6 (.bool true) a b=a:=(rfl)
@[simp] theorem cdF(a b:Prop):i6 (.bool false) a b=b:=(rfl)
theorem cdB(t:Bool)(a b:Prop):i6 (.bool t) a b↔(t=true→a)∧(t=false→b):=by cases t<;>simp
theorem I6(p:Prop)[Decidable p](a b:Prop):i6 (.bool (decide p)) a b↔(p→a)∧(¬p→b):=by
 by_cases h:p<;>simp[h]
@[simp] theorem gdT(s:(D→b8→Prop)→Prop)(S:b8)(Q:D→b8→Prop):Q1 (some true) s S Q=s Q:=(rfl)
@[simp] theorem gdF(s:(D→b8→Prop)→Prop)(S:b8)(Q:D→b8→Prop):Q1 (some false) s S Q=Q b9 S:=(rfl)
@[simp] theorem vdT(r:Option D):f9 (some true) r=r:=(rfl)
@[simp] theorem vdF(r:Option D):f9 (some false) r=some b9:=(rfl)
@[simp] theorem M4(b w:Bool):d6 (.bool b) w=some (b==w):=(rfl)
@[simp] theorem wdU(w:Bool):d6 b9 w=some false:=(rfl)
@[simp] theorem M8(t:Bool)(a b:D):q9 (.bool t) a b=some (if t then a else b):=(rfl)
@[simp] theorem exD(vs:List D)(i:Nat):j5 (.tup vs) i=vs[i]? :=(rfl)
@[simp] theorem ndP(k i:Nat):a1h (.ptr k i)=some (.ptr k i):=(rfl)
@[simp] theorem ndR(k r i sz:Nat):a1h (.rel k r i sz)=some (.rel k r i sz):=(rfl)
@[simp] theorem ndE(row:List D)(i:Nat):a1h (.elt row i)=some (.elt row i):=(rfl)
@[simp] theorem ndF(f:FuncId)(a b:List D):a1h (.fn (.func f) a b)=some (.fn (.func f) a b):=(rfl)
@[simp] theorem ndI(t:TypeId)(v:D):a1h (.ifc t v)=some (.ifc t v):=(rfl)
@[simp] theorem E2(k i o:Nat):j4 o (.ptr k i)=some (.ptr k (i+o)):=(rfl)
@[simp] theorem ofR(k r i sz o:Nat):j4 o (.rel k r i sz)=some (.rel k r (i+o) sz):=(rfl)
@[simp] theorem ofE(row:List D)(i o:Nat):j4 o (.elt row i)=some (.elt row (i+o)):=(rfl)
@[simp] theorem paA(off n:Nat)(cs:List D):c5V off n (.agg cs)=some (.agg ((cs.drop off).take n)):=(rfl)
@[simp] theorem psA(off:Nat)(cs:List D):c6y off (.agg cs)=cs[off]? :=(rfl)
@[simp] theorem lnN:m9 .nilSlc=some (.int .i64 0):=(rfl)
@[simp] theorem lnL(rows:List (List D))(sz:Nat):m9 (.lst rows sz)=some (.int .i64 rows.length):=(rfl)
@[simp] theorem lnE(rows more:List (List D))(sz:Nat):m9 (.ext rows more sz)=some (.int .i64 rows.length):=(rfl)
@[simp] theorem lnR(k i len cap:Nat)(ex:Bool)(sz:Nat):m9 (.raw k i len cap ex sz)=some (.int .i64 len):=(rfl)
@[simp] theorem lnS(s:List UInt8):a4b (.str s)=some (.int .i64 s.length):=(rfl)
@[simp] theorem cvI(k k':IntKind)(n:Int):J9 k (.int k' n)=some (.int k (k.wrap n)):=(rfl)
@[simp] theorem cvS(s:List UInt8):c6t (.str s)=some (.str s):=(rfl)
@[simp] theorem unN(b:Bool):unD .not (.bool b)=some (.bool !b):=(rfl)
@[simp] theorem unM(k:IntKind)(n:Int):unD .neg (.int k n)=some (.int k (k.wrap (0 - n))):=(rfl)
@[simp] theorem D7(k:IntKind)(a b:Int):i4 .add (.int k a) (.int k b)=some (.int k (k.wrap (a+b))):=by simp[i4,U6,a1D]
@[simp] theorem b4u(k:IntKind)(a b:Int):i4 .sub (.int k a) (.int k b)=some (.int k (k.wrap (a - b))):=by simp[i4,U6,a1D]
@[simp] theorem d4T(k:IntKind)(a b:Int):i4 .mul (.int k a) (.int k b)=some (.int k (k.wrap (a*b))):=by simp[i4,U6,a1D]
@[simp] theorem a8b(k:IntKind)(a b:Int):i4 .eql (.int k a) (.int k b)=some (.bool (a==b)):=by simp[i4,U6,a1D]
@[simp] theorem c4H(k:IntKind)(a b:Int):i4 .neq (.int k a) (.int k b)=some (.bool (a != b)):=by simp[i4,U6,a1D]
@[simp] theorem H7(k:IntKind)(a b:Int):i4 .lss (.int k a) (.int k b)=some (.bool (decide (a<b))):=by simp[i4,U6,a1D]
@[simp] theorem d4A(k:IntKind)(a b:Int):i4 .leq (.int k a) (.int k b)=some (.bool (decide (a≤b))):=by simp[i4,U6,a1D]
@[simp] theorem a7w(k:IntKind)(a b:Int):i4 .gtr (.int k a) (.int k b)=some (.bool (decide (a>b))):=by simp[i4,U6,a1D]
@[simp] theorem a8S(k:IntKind)(a b:Int):i4 .geq (.int k a) (.int k b)=some (.bool (decide (a≥b))):=by simp[i4,U6,a1D]
@[simp] theorem d6t(k:IntKind)(a b:Int):i4 .and (.int k a) (.int k b)=some (.int k (k.wrap (BitVec.ofInt k.bits a &&& BitVec.ofInt k.bits b).toNat)):=by simp[i4,U6,a1D]
@[simp] theorem d8m(k:IntKind)(a b:Int):i4 .or (.int k a) (.int k b)=some (.int k (k.wrap (BitVec.ofInt k.bits a ||| BitVec.ofInt k.bits b).toNat)):=by simp[i4,U6,a1D]
@[simp] theorem d6f(k:IntKind)(a b:Int):i4 .xor (.int k a) (.int k b)=some (.int k (k.wrap (BitVec.ofInt k.bits a ^^^ BitVec.ofInt k.bits b).toNat)):=by simp[i4,U6,a1D]
theorem d6p(k k':IntKind)(a:Int)(b:Int)(h:0≤b):i4 .shl (.int k a) (.int k' b)=some (.int k (k.wrap (a*2^(min b.toNat k.bits)))):=by simp only[i4];rw[if_neg (by omega)]
theorem d1o(k k':IntKind)(a:Int)(b:Int)(h:0≤b):i4 .shr (.int k a) (.int k' b)=some (.int k (a.fdiv (2^(min b.toNat k.bits)))):=by simp only[i4];rw[if_neg (by omega)]
@[simp] theorem d9m(a b:List UInt8):c8V .add (.str a) (.str b)=if((a.length+b.length:Nat):Int)≤IntKind.i64.max then some (.str (a++b)) else none:=by
 simp only[c8V,a7M];split<;>rfl
@[simp] theorem d8V(a b:List UInt8):c8V .eql (.str a) (.str b)=some (.bool (a==b)):=(rfl)
@[simp] theorem d9y(a b:List UInt8):c8V .neq (.str a) (.str b)=some (.bool !(a==b)):=(rfl)
@[simp] theorem eqE(b:Bool):b8j .eql (some b)=some (.bool b):=(rfl)
@[simp] theorem eqN(b:Bool):b8j .neq (some b)=some (.bool !b):=(rfl)
@[simp] theorem d8U(a b:Bool):d5A (.bool a) (.bool b)=some (a==b):=(rfl)
@[simp] theorem clB(b:Bool):o3 (.bool b)=some [.bool b]:=(rfl)
@[simp] theorem clI(k:IntKind)(n:Int):o3 (.int k n)=some [.int k n]:=(rfl)
@[simp] theorem clS(s:List UInt8):o3 (.str s)=some [.str s]:=(rfl)
@[simp] theorem clN:o3 .nilSlc=some [.nilSlc]:=(rfl)
@[simp] theorem clP:o3 .nilPtr=some [.nilPtr]:=(rfl)
@[simp] theorem clF:o3 .nilFn=some [.nilFn]:=(rfl)
@[simp] theorem clL(rows:List (List D))(sz:Nat):o3 (.lst rows sz)=some [.lst rows sz]:=(rfl)
@[simp] theorem clE(rows more:List (List D))(sz:Nat):o3 (.ext rows more sz)=some [.ext rows more sz]:=(rfl)
@[simp] theorem clR(k i len cap:Nat)(ex:Bool)(sz:Nat):o3 (.raw k i len cap ex sz)=some [.raw k i len cap ex sz]:=(rfl)
@[simp] theorem U9(cs:List D):o3 (.agg cs)=some cs:=(rfl)
@[simp] theorem d9z(k i:Nat):o3 (.ptr k i)=some [.ptr k i]:=(rfl)
@[simp] theorem d9p(f:Fn)(a b:List D):o3 (.fn f a b)=some [.fn f a b]:=(rfl)
@[simp] theorem d9t(t:TypeId)(v:D):o3 (.ifc t v)=some [.ifc t v]:=(rfl)
@[simp] theorem agS(cs:List D):E1 (some cs)=some (.agg cs):=(rfl)
@[simp] theorem fiN(cs:List D):r6 cs []=some cs:=(rfl)
theorem fiC{cs:List D}{off size:Nat}{v:D}{rest:List (Nat×Nat×D)}{ds:List D}(h:o3 v=some ds)(hl:ds.length=size∧off+size≤cs.length):r6 cs ((off,size,v)::rest)=r6 (l7 cs off ds) rest:=by
 simp only[r6,h];rw[if_pos hl]
@[simp] theorem frN(sz:Nat)(rows:List (List D)):m8 sz rows []=some rows:=(rfl)
@[simp] theorem lsE(row:List D)(i:Nat)(S:b8):c9 S (.elt row i)=row[i]? :=(rfl)
@[simp] theorem laE(row:List D)(i n:Nat)(S:b8):i5 S n (.elt row i)=if 0<n∧i+n≤row.length then some (.agg ((row.drop i).take n)) else none:=(rfl)
@[simp] theorem mxD(k:IntKind)(a b:Int):b6G true [.int k a, .int k b]=some (.int k (if b>a then b else a)):=(rfl)
@[simp] theorem mnD(k:IntKind)(a b:Int):b6G false [.int k a, .int k b]=some (.int k (if b<a then b else a)):=(rfl)
theorem b1X{rows:List (List D)}{sz i:Nat}{row:List D}(h:rows[i]? =some row):o6 sz (.lst rows sz) (.int .i64 (i:Int))=some (.elt row 0):=by
 simp only[o6]
 rw[if_pos ⟨by trivial,by omega⟩,Int.toNat_natCast,h]
theorem d8R{rows more:List (List D)}{sz i:Nat}{row:List D}(h:rows[i]? =some row):o6 sz (.ext rows more sz) (.int .i64 (i:Int))=some (.elt row 0):=by
 simp only[o6]
 rw[if_pos ⟨by trivial,by omega⟩,Int.toNat_natCast,h]
theorem c8P{k i len cap sz j:Nat}{ex:Bool}(h:j<len):o6 sz (.raw k i len cap ex sz) (.int .i64 (j:Int))=some (.rel k (i+j) 0 sz):=by
 simp only[o6]
 rw[if_pos ⟨by trivial,by omega,by omega⟩,Int.toNat_natCast]
theorem c1y{s:List UInt8}{i:Nat}{b:UInt8}(h:s[i]? =some b):c7u (.str s) (.int .i64 (i:Int))=some (.int .u8 b.toNat):=by
 simp only[c7u]
 rw[if_pos (by omega),Int.toNat_natCast,h]
theorem b8.fresh{S:b8}{j k:Nat}{o:D5}(h:(S.set j o) k=Option.none):k≠j∧S k=Option.none:=by
 unfold b8.set at h
 split at h
 ·cases h
 ·rename_i e;exact⟨e,h⟩
theorem c5l{S:b8}{k i sz:Nat}{cs:List D}{acs:List AV}(h:S k=some ⟨sz,[cs],acs⟩):b9W S (.ptr k i)=some (cs,i):=by
 simp only[b9W,h]
theorem d3j{S:b8}{k r i sz:Nat}{rows:List (List D)}{row:List D}{acs:List AV}(h:S k=some ⟨sz,rows,acs⟩)(hr:rows[r]? =some row):b9W S (.rel k r i sz)=some (row,i):=by
 simp only[b9W,h,hr];rfl
theorem ldP{S:b8}{k i sz:Nat}{cs:List D}{acs:List AV}(h:S k=some ⟨sz,[cs],acs⟩):c9 S (.ptr k i)=cs[i]? :=by simp only[c9,c5l h]
theorem laP{S:b8}{k i n sz:Nat}{cs:List D}{acs:List AV}(h:S k=some ⟨sz,[cs],acs⟩)(hn:0<n∧i+n≤cs.length):i5 S n (.ptr k i)=some (.agg ((cs.drop i).take n)):=by
 simp only[i5,c5l h];rw[if_pos hn]
theorem ldR{S:b8}{k r i sz:Nat}{rows:List (List D)}{row:List D}{acs:List AV}(h:S k=some ⟨sz,rows,acs⟩)(hr:rows[r]? =some row):c9 S (.rel k r i sz)=row[i]? :=by simp only[c9,d3j h hr]
theorem stP{S:b8}{k i n sz:Nat}{cs ds:List D}{acs:List AV}{v:D}{K:D→b8→Prop}(h:S k=some ⟨sz,[cs],acs⟩)(hv:o3 v=some ds)(hn:ds.length=n∧0<n∧i+n≤cs.length)
  (hK:∀acs,K b9 (S.set k ⟨sz,[l7 cs i ds],acs⟩)):i7 S n (.ptr k i) v K:=by
 simp only[i7,hv,h]
 rw[if_pos ⟨hn.1,hn.2.1⟩,if_pos hn.2.2]
 exact hK
theorem stR{S:b8}{k r i n sz:Nat}{rows:List (List D)}{row ds:List D}{acs:List AV}{v:D}{K:D→b8→Prop}(h:S k=some ⟨sz,rows,acs⟩)(hr:rows[r]? =some row)(hv:o3 v=some ds)(hn:ds.length=n∧0<n∧i+n≤row.length)
  (hK:∀acs,K b9 (S.set k ⟨sz,rows.set r (l7 row i ds),acs⟩)):i7 S n (.rel k r i sz) v K:=by
 simp only[i7,hv,h,hr]
 rw[if_pos ⟨hn.1,hn.2.1⟩,if_pos (by trivial),if_pos hn.2.2]
 exact hK
theorem b8.set_in(S:b8){k l:Nat}(h:k≠l)(a b c:D5):((S.set k a).set l b).set k c=(S.set k c).set l b:=by
 rw[b8.set_comm S h,b8.set_set,b8.set_comm S h]
theorem b8.le_new{S:b8}{k:Nat}{o:D5}(h:S k=Option.none):S.le (S.set k o):=b8.le_set (b8.le_refl S) h
def B4(l:List D):List (List D):=l.map fun d=>[d]
@[simp] theorem b2d(l:List D):(B4 l).length=l.length:=List.length_map _
theorem a6q{l:List D}{i:Nat}{d:D}(h:l[i]? =some d):(B4 l)[i]? =some [d]:=by simp only[B4,List.getElem?_map,h];rfl
def Grw(S0:b8)(t:D)(rows:List (List D))(sz:Nat)(S:b8):Prop:=
 (t= .nilSlc∧rows=[]∧S=S0)∨∃k acs,S0 k=Option.none∧t= .raw k 0 rows.length rows.length false sz∧S=S0.set k ⟨sz,rows,acs⟩
theorem Grw.nil(S:b8)(sz:Nat):Grw S .nilSlc [] sz S:= .inl ⟨rfl,rfl,rfl⟩
theorem Grw.le{S0 S:b8}{t:D}{rows:List (List D)}{sz:Nat}(h:Grw S0 t rows sz S):S0.le S:=by
 rcases h with ⟨_,_,rfl⟩|⟨k,acs,h,_,rfl⟩
 ·exact b8.le_refl _
 ·exact b8.le_new h
theorem Grw.len{S0 S:b8}{t:D}{rows:List (List D)}{sz:Nat}(h:Grw S0 t rows sz S):m9 t=some (.int .i64 rows.length):=by
 rcases h with ⟨rfl,rfl,rfl⟩|⟨k,acs,h,rfl,rfl⟩<;>rfl
theorem Grw.push{S0 S:b8}{t:D}{rows:List (List D)}{sz bytes:Nat}(h:Grw S0 t rows sz S){v:D}{news:List (List D)}(hv:rowsS S sz v=some news)(hb:0<bytes∧(2*(rows.length+news.length)+768)*bytes≤2^47){K:D→b8→Prop}
  (hK:∀t' S',Grw S0 t' (rows++news) sz S'→K t' S'):w9 S sz bytes t v K:=by
 simp only[w9,hv]
 rcases h with ⟨rfl,rfl,rfl⟩|⟨k,acs,h,rfl,rfl⟩
 ·simp only[a1d]
  by_cases hn:news=[]
  ·rw[if_pos hn]
   exact hK _ _ (.inl ⟨rfl,by rw[hn];rfl,rfl⟩)
  ·rw[if_neg hn]
   refine⟨⟨hb.1,by simpa using hb.2⟩, .inr fun k acs hk=>hK _ _ (.inr ⟨k,acs,hk, ?_, ?_⟩)⟩<;>simp
 ·simp only[a1d]
  by_cases hn:news=[]
  ·rw[if_pos hn]
   refine hK _ _ (.inr ⟨k,acs,h, ?_, ?_⟩)<;>simp[hn]
  ·rw[if_neg hn,b8.set_same]
   simp only
   rw[if_pos ⟨by trivial,by trivial,by omega⟩]
   refine⟨hb, .inr fun k' acs' hk'=> ?_⟩
   rw[b8.erase_set _ _ _ h]at hk' ⊢
   refine hK _ _ (.inr ⟨k',acs',hk', ?_, ?_⟩)<;>simp
theorem Grw.swap{S0 S1 S:b8}{t u:D}{r q:List (List D)}{s z:Nat}(h:Grw S0 t r s S1)(h':Grw S1 u q z S):∃S2,Grw S0 u q z S2∧Grw S2 t r s S:=by
 rcases h with ⟨rfl,rfl,rfl⟩|⟨k,acs,hk,rfl,rfl⟩
 ·exact⟨S,h', .inl ⟨rfl,rfl,rfl⟩⟩
 ·rcases h' with ⟨rfl,rfl,rfl⟩|⟨l,bcs,hl,rfl,rfl⟩
  ·exact⟨S0, .inl ⟨rfl,rfl,rfl⟩, .inr ⟨k,acs,hk,rfl,rfl⟩⟩
  ·obtain⟨hne,hl0⟩:=b8.fresh hl
   refine⟨S0.set l ⟨z,q,bcs⟩, .inr ⟨l,bcs,hl0,rfl,rfl⟩, .inr ⟨k,acs, ?_,rfl, ?_⟩⟩
   ·rw[b8.set_ne _ _ _ (Ne.symm hne)];exact hk
   ·exact b8.set_comm _ (Ne.symm hne) _ _
theorem Grw.fin{S0 S:b8}{t:D}{rows:List (List D)}{sz:Nat}(h:Grw S0 t rows sz S){Q:D→b8→Prop}(hq:d9 E Q (.lst rows sz) S0):d9 E Q t S:=by
 rcases h with ⟨rfl,rfl,rfl⟩|⟨k,acs,h,rfl,rfl⟩
 ·exact d9.nil hq
 ·refine d9.freeze (b8.set_same _ _ _) rfl (by simp) (Nat.le_refl _) ?_
  rw[b8.erase_set _ _ _ h]
  simpa using hq
theorem Grw.finT{S0 S:b8}{t:D}{rows:List (List D)}{sz:Nat}(h:Grw S0 t rows sz S){Q:D→b8→Prop}{lp lq:List D}(hq:d9 E Q (.tup (lp++ .lst rows sz::lq)) S0):d9 E Q (.tup (lp++t::lq)) S:=by
 rcases h with ⟨rfl,rfl,rfl⟩|⟨k,acs,h,rfl,rfl⟩
 ·exact d9.nilT hq
 ·refine d9.freezeT (b8.set_same _ _ _) rfl (by simp) (Nat.le_refl _) ?_
  rw[b8.erase_set _ _ _ h]
  simpa using hq
theorem Grw.under{S0 S:b8}{t:D}{rows:List (List D)}{sz:Nat}(h:Grw S0 t rows sz S){k:Nat}{o:D5}(hk:S k=Option.none):Grw (S0.set k o) t rows sz (S.set k o):=by
 rcases h with ⟨rfl,rfl,rfl⟩|⟨l,acs,h,rfl,rfl⟩
 ·exact .inl ⟨rfl,rfl,rfl⟩
 ·obtain⟨hne,hk0⟩:=b8.fresh hk
  refine .inr ⟨l,acs, ?_,rfl,b8.set_comm _ (Ne.symm hne) _ _⟩
  rw[b8.set_ne _ _ _ (Ne.symm hne)];exact h
theorem Grw.drop{S0 S:b8}{t:D}{rows:List (List D)}{sz k:Nat}{o:D5}(h:Grw (S0.set k o) t rows sz S)(hk:S0 k=Option.none):∃S',S'.le S∧Grw S0 t rows sz S':=by
 rcases h with ⟨rfl,rfl,rfl⟩|⟨l,acs,h,rfl,rfl⟩
 ·exact⟨S0,b8.le_new hk, .inl ⟨rfl,rfl,rfl⟩⟩
 ·obtain⟨hne,hl0⟩:=b8.fresh h
  refine⟨S0.set l ⟨sz,rows,acs⟩, ?_, .inr ⟨l,acs,hl0,rfl,rfl⟩⟩
  rw[b8.set_comm _ (Ne.symm hne)]
  refine b8.le_new ?_
  rw[b8.set_ne _ _ _ (Ne.symm hne)];exact hk
theorem Grw.base{S0 S1 S:b8}{t:D}{rows:List (List D)}{sz:Nat}(h:Grw S1 t rows sz S)(hle:S0.le S1):∃S',S'.le S∧Grw S0 t rows sz S':=by
 rcases h with ⟨rfl,rfl,rfl⟩|⟨l,acs,h,rfl,rfl⟩
 ·exact⟨S0,hle, .inl ⟨rfl,rfl,rfl⟩⟩
 ·have hl:S0 l=Option.none:=by
   cases e:S0 l with
   |none=>rfl
   |some o=>rw[hle _ _ e]at h;cases h
  refine⟨S0.set l ⟨sz,rows,acs⟩,fun j o e=> ?_, .inr ⟨l,acs,hl,rfl,rfl⟩⟩
  unfold b8.set at e ⊢
  split at e
  ·rename_i hj;rw[if_pos hj];exact e
  ·rename_i hj;rw[if_neg hj];exact hle _ _ e
theorem d6g{S:b8}{sz bytes:Nat}{z:List D}{n:Nat}{K:D→b8→Prop}(hb:bytes*n≤2^47∧n<2^60)(hK:∀k acs,S k=Option.none→K (.raw k 0 n n true sz) (S.set k ⟨sz,List.replicate n z,acs⟩)):a6o S sz bytes z (.int .i64 (n:Int)) (.int .i64 (n:Int)) K:=by
 simp only[a6o]
 rw[if_pos ⟨by omega,by omega,by have:=hb.1;exact_mod_cast this,by omega⟩,Int.toNat_natCast]
 exact .inr hK
theorem G6{S:b8}{sz:Nat}{rows:List (List D)}{len:Nat}{K:D→b8→Prop}(hl:rows.length=len)(h:K (.lst rows sz) S):r9 S sz (some rows) len K:=by
 simp only[r9,oD]
 refine .inl ?_
 rw[List.take_of_length_le (by omega)]
 exact h
theorem c5X{S:b8}{sz:Nat}{rows:List (List D)}{len:Nat}{K:D→b8→Prop}(h:∀k acs,S k=Option.none→K (.raw k 0 len len true sz) (S.set k ⟨sz,rows,acs⟩)):r9 S sz (some rows) len K:=by
 simp only[r9,oD]
 exact .inr h
theorem fwP(k i:Nat)(S S':b8):r7 (.ptr k i) S S'=(S' k=S k):=(rfl)
theorem fwR(x:D)(S:b8):r7 x S S:=by
 unfold r7
 split<;>trivial
end
end Go.Am
end
