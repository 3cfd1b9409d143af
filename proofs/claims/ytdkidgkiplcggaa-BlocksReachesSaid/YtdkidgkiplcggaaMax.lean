/-
  BlocksReachesSaid: part Max of its proof.
-/
import Derived.Test.YtdkidgkiplcggaaRows
import Derived.Test.YtdkidgkiplcggaaMar
import Derived.KernelRfl
set_option linter.unusedVariables false
set_option linter.unusedSimpArgs false
set_option maxRecDepth 100000
section
open Go.Proofs Go Go.Am
namespace Go.Proofs.Ytdkidgkiplcggaa.d
def j0:List (Nat×List Nat):=[(10,[0,3,4]),(16,[0,3,4,5]),(24,[0,3,4,5,6,7]),(36,[0,3,4,5,8]),(46,[0,3,4,5,8,9,10,11])]
def i7:List (Nat×List Nat):=[(26,[0,3,4,5,6,7]),(48,[0,3,4,5,8,9,10,11]),(38,[0,3,4,5,8]),(18,[0,3,4,5])]
def i9:List (Nat×Arr):=[]
noncomputable def C5:Code:=(f0 [1,1,1,0,1,0,0,1,0,1,1,0,0,1,1] (Try.f20.body.getD .skip))
def a9L(E:d6)(w0:i5)(N1:D→D→D→D→b4→Prop)(N0:D→D→D→b4→Prop)(Q:D→b4→Prop):j2→List D→b4→Prop:=
 (m9 (fun T S=>N1 (T.getD 0 a8) (T.getD 3 a8) (T.getD 4 a8) (T.getD 5 a8) S) (i4 2 (i4 1 (m9 (fun T S=>N0 (T.getD 0 a8) (T.getD 3 a8) (T.getD 4 a8) S) (i4 0 (J0 Try.prog E w0 j0 i7 i9 (f0 [1,1,1,1] (Try.f20.body.getD .skip)) (E3 Try.prog Try.f20 Q)))))))
def a3W(E:d6)(w0:i5)(N1:D→D→D→D→b4→Prop)(N0:D→D→D→b4→Prop)(Q:D→b4→Prop)(x0 x3 x4 x5:D)(S:b4):Prop:=
 b5 (d4 .add x5 (.int .i64 1)) fun v9=>
 N1 x0 x3 x4 v9 S
def K1(E:d6)(w0:i5)(N1:D→D→D→D→b4→Prop)(N0:D→D→D→b4→Prop)(Q:D→b4→Prop)(x0 x3 x4 x5:D)(S:b4):Prop:=b8 Try.prog E w0 C5 (d8 97 [0,3,4,5] [x0,x3,x4,x5]) S (a9L E w0 N1 N0 Q)
theorem a7n{E:d6}{w0:i5}{N1:D→D→D→D→b4→Prop}{N0:D→D→D→b4→Prop}{Q:D→b4→Prop}{x0 x3 x4 x5:D}{S:b4}(h:a3W E w0 N1 N0 Q x0 x3 x4 x5 S):K1 E w0 N1 N0 Q x0 x3 x4 x5 S:=d5 j0 i7 i9 mixed (by kernel_rfl) h
noncomputable def b1c:Code:=(f0 [1,1,1,0,1,0,0,1,0,1,1,0,0,1,0,0,1,0,1,0,0,1,1] (Try.f20.body.getD .skip))
def a9h(E:d6)(w0:i5)(N2:D→D→D→D→D→D→b4→Prop)(N1:D→D→D→D→b4→Prop)(N0:D→D→D→b4→Prop)(Q:D→b4→Prop):j2→List D→b4→Prop:=
 (m9 (fun T S=>N2 (T.getD 0 a8) (T.getD 3 a8) (T.getD 4 a8) (T.getD 5 a8) (T.getD 6 a8) (T.getD 7 a8) S) (i4 4 (J0 Try.prog E w0 j0 i7 i9 (f0 [1,1,1,0,1,0,0,1,0,1,1,0,0,1,0,0,1,1] (Try.f20.body.getD .skip)) (i4 3 (a7h Try.prog E w0 97 [0,3,4,5] C5 (m9 (fun T S=>N1 (T.getD 0 a8) (T.getD 3 a8) (T.getD 4 a8) (T.getD 5 a8) S) (i4 2 (i4 1 (m9 (fun T S=>N0 (T.getD 0 a8) (T.getD 3 a8) (T.getD 4 a8) S) (i4 0 (J0 Try.prog E w0 j0 i7 i9 (f0 [1,1,1,1] (Try.f20.body.getD .skip)) (E3 Try.prog Try.f20 Q))))))))))))
def a4g(E:d6)(w0:i5)(N2:D→D→D→D→D→D→b4→Prop)(N1:D→D→D→D→b4→Prop)(N0:D→D→D→b4→Prop)(Q:D→b4→Prop)(x0 x3 x4 x5 x6 x7:D)(S:b4):Prop:=
 b5 (d4 .add x7 (.int .i64 1)) fun v11=>
 N2 x0 x3 x4 x5 x6 v11 S
def Q3(E:d6)(w0:i5)(N2:D→D→D→D→D→D→b4→Prop)(N1:D→D→D→D→b4→Prop)(N0:D→D→D→b4→Prop)(Q:D→b4→Prop)(x0 x3 x4 x5 x6 x7:D)(S:b4):Prop:=b8 Try.prog E w0 b1c (d8 97 [0,3,4,5,6,7] [x0,x3,x4,x5,x6,x7]) S (a9h E w0 N2 N1 N0 Q)
theorem a7w{E:d6}{w0:i5}{N2:D→D→D→D→D→D→b4→Prop}{N1:D→D→D→D→b4→Prop}{N0:D→D→D→b4→Prop}{Q:D→b4→Prop}{x0 x3 x4 x5 x6 x7:D}{S:b4}(h:a4g E w0 N2 N1 N0 Q x0 x3 x4 x5 x6 x7 S):Q3 E w0 N2 N1 N0 Q x0 x3 x4 x5 x6 x7 S:=d5 j0 i7 i9 mixed (by kernel_rfl) h
noncomputable def a0F:Code:=(f0 [1,1,1,0,1,0,0,1,0,1,1,0,0,1,0,0,1,1,1,1,0,0,1,1] (Try.f20.body.getD .skip))
def a9E(E:d6)(w0:i5)(N3:D→D→D→D→D→b4→Prop)(N1:D→D→D→D→b4→Prop)(N0:D→D→D→b4→Prop)(Q:D→b4→Prop):j2→List D→b4→Prop:=
 (m9 (fun T S=>N3 (T.getD 0 a8) (T.getD 3 a8) (T.getD 4 a8) (T.getD 5 a8) (T.getD 8 a8) S) (i4 6 (i4 3 (a7h Try.prog E w0 97 [0,3,4,5] C5 (m9 (fun T S=>N1 (T.getD 0 a8) (T.getD 3 a8) (T.getD 4 a8) (T.getD 5 a8) S) (i4 2 (i4 1 (m9 (fun T S=>N0 (T.getD 0 a8) (T.getD 3 a8) (T.getD 4 a8) S) (i4 0 (J0 Try.prog E w0 j0 i7 i9 (f0 [1,1,1,1] (Try.f20.body.getD .skip)) (E3 Try.prog Try.f20 Q)))))))))))
def a4s(E:d6)(w0:i5)(N3:D→D→D→D→D→b4→Prop)(N1:D→D→D→D→b4→Prop)(N0:D→D→D→b4→Prop)(Q:D→b4→Prop)(x0 x3 x4 x5 x8:D)(S:b4):Prop:=
 b5 (d4 .add x8 (.int .i64 1)) fun v35=>
 N3 x0 x3 x4 x5 v35 S
def Q9(E:d6)(w0:i5)(N3:D→D→D→D→D→b4→Prop)(N1:D→D→D→D→b4→Prop)(N0:D→D→D→b4→Prop)(Q:D→b4→Prop)(x0 x3 x4 x5 x8:D)(S:b4):Prop:=b8 Try.prog E w0 a0F (d8 97 [0,3,4,5,8] [x0,x3,x4,x5,x8]) S (a9E E w0 N3 N1 N0 Q)
theorem a7c{E:d6}{w0:i5}{N3:D→D→D→D→D→b4→Prop}{N1:D→D→D→D→b4→Prop}{N0:D→D→D→b4→Prop}{Q:D→b4→Prop}{x0 x3 x4 x5 x8:D}{S:b4}(h:a4s E w0 N3 N1 N0 Q x0 x3 x4 x5 x8 S):Q9 E w0 N3 N1 N0 Q x0 x3 x4 x5 x8 S:=d5 j0 i7 i9 mixed (by kernel_rfl) h
noncomputable def b0Y:Code:=(f0 [1,1,1,0,1,0,0,1,0,1,1,0,0,1,0,0,1,1,1,1,0,0,1,0,0,1,1,0,1,0,0,1,1] (Try.f20.body.getD .skip))
def a9j(E:d6)(w0:i5)(N4:D→D→D→D→D→D→D→D→b4→Prop)(N3:D→D→D→D→D→b4→Prop)(N1:D→D→D→D→b4→Prop)(N0:D→D→D→b4→Prop)(Q:D→b4→Prop):j2→List D→b4→Prop:=
 (m9 (fun T S=>N4 (T.getD 0 a8) (T.getD 3 a8) (T.getD 4 a8) (T.getD 5 a8) (T.getD 8 a8) (T.getD 9 a8) (T.getD 10 a8) (T.getD 11 a8) S) (i4 8 (J0 Try.prog E w0 j0 i7 i9 (f0 [1,1,1,0,1,0,0,1,0,1,1,0,0,1,0,0,1,1,1,1,0,0,1,0,0,1,1,1] (Try.f20.body.getD .skip)) (i4 7 (a7h Try.prog E w0 97 [0,3,4,5,8] a0F (m9 (fun T S=>N3 (T.getD 0 a8) (T.getD 3 a8) (T.getD 4 a8) (T.getD 5 a8) (T.getD 8 a8) S) (i4 6 (i4 3 (a7h Try.prog E w0 97 [0,3,4,5] C5 (m9 (fun T S=>N1 (T.getD 0 a8) (T.getD 3 a8) (T.getD 4 a8) (T.getD 5 a8) S) (i4 2 (i4 1 (m9 (fun T S=>N0 (T.getD 0 a8) (T.getD 3 a8) (T.getD 4 a8) S) (i4 0 (J0 Try.prog E w0 j0 i7 i9 (f0 [1,1,1,1] (Try.f20.body.getD .skip)) (E3 Try.prog Try.f20 Q))))))))))))))))
def a4r(E:d6)(w0:i5)(N4:D→D→D→D→D→D→D→D→b4→Prop)(N3:D→D→D→D→D→b4→Prop)(N1:D→D→D→D→b4→Prop)(N0:D→D→D→b4→Prop)(Q:D→b4→Prop)(x0 x3 x4 x5 x8 x9 x10 x11:D)(S:b4):Prop:=
 b5 (d4 .add x11 (.int .i64 1)) fun v43=>
 N4 x0 x3 x4 x5 x8 x9 x10 v43 S
def Q4(E:d6)(w0:i5)(N4:D→D→D→D→D→D→D→D→b4→Prop)(N3:D→D→D→D→D→b4→Prop)(N1:D→D→D→D→b4→Prop)(N0:D→D→D→b4→Prop)(Q:D→b4→Prop)(x0 x3 x4 x5 x8 x9 x10 x11:D)(S:b4):Prop:=b8 Try.prog E w0 b0Y (d8 97 [0,3,4,5,8,9,10,11] [x0,x3,x4,x5,x8,x9,x10,x11]) S (a9j E w0 N4 N3 N1 N0 Q)
theorem a7k{E:d6}{w0:i5}{N4:D→D→D→D→D→D→D→D→b4→Prop}{N3:D→D→D→D→D→b4→Prop}{N1:D→D→D→D→b4→Prop}{N0:D→D→D→b4→Prop}{Q:D→b4→Prop}{x0 x3 x4 x5 x8 x9 x10 x11:D}{S:b4}(h:a4r E w0 N4 N3 N1 N0 Q x0 x3 x4 x5 x8 x9 x10 x11 S):Q4 E w0 N4 N3 N1 N0 Q x0 x3 x4 x5 x8 x9 x10 x11 S:=d5 j0 i7 i9 mixed (by kernel_rfl) h
noncomputable def X5:Code:=(f0 [1,1,1,0,1,0,0,1,0,1,1,0,0,1,0,0,1,1,1,1,0,0,1,0,0,1,1,0,1,0,0] (Try.f20.body.getD .skip))
def X4(E:d6)(w0:i5)(N3:D→D→D→D→D→b4→Prop)(N1:D→D→D→D→b4→Prop)(N0:D→D→D→b4→Prop)(Q:D→b4→Prop):j2→List D→b4→Prop:=
 (i4 8 (J0 Try.prog E w0 j0 i7 i9 (f0 [1,1,1,0,1,0,0,1,0,1,1,0,0,1,0,0,1,1,1,1,0,0,1,0,0,1,1,1] (Try.f20.body.getD .skip)) (i4 7 (a7h Try.prog E w0 97 [0,3,4,5,8] a0F (m9 (fun T S=>N3 (T.getD 0 a8) (T.getD 3 a8) (T.getD 4 a8) (T.getD 5 a8) (T.getD 8 a8) S) (i4 6 (i4 3 (a7h Try.prog E w0 97 [0,3,4,5] C5 (m9 (fun T S=>N1 (T.getD 0 a8) (T.getD 3 a8) (T.getD 4 a8) (T.getD 5 a8) S) (i4 2 (i4 1 (m9 (fun T S=>N0 (T.getD 0 a8) (T.getD 3 a8) (T.getD 4 a8) S) (i4 0 (J0 Try.prog E w0 j0 i7 i9 (f0 [1,1,1,1] (Try.f20.body.getD .skip)) (E3 Try.prog Try.f20 Q)))))))))))))))
def a1B(E:d6)(w0:i5)(N3:D→D→D→D→D→b4→Prop)(N1:D→D→D→D→b4→Prop)(N0:D→D→D→b4→Prop)(N4:D→D→D→D→D→D→D→D→b4→Prop)(Q:D→b4→Prop)(x0 x3 x4 x5 x8 x9 x10 x11:D)(S:b4):Prop:=
 b5 (m6 x0) fun v41=>
 b5 (d4 .lss x11 v41) fun v42=>
 g8 v42
 (b5 (j5 3 x0 x11) fun v44=>
 b5 (t8 0 v44) fun v45=>
 b5 (c9 S v45) fun v46=>
 b5 (d4 .eql v46 x9) fun v47=>
 g8 v47
 (Q4 E w0 N4 N3 N1 N0 Q x0 x3 x4 x5 x8 x9 (.bool true) x11 S)
 (Q4 E w0 N4 N3 N1 N0 Q x0 x3 x4 x5 x8 x9 x10 x11 S))
 (b5 (d9 (b7 x10 true) (some x3)) fun v48=>
 b5 (d9 (b7 x10 true) (some x9)) fun v49=>
 Z6 (b7 x10 true) (fun K=>r8 Try.prog E w0 a3d [v48,v49] S K) S fun v50 S51=>
 b5 (d9 (b7 x10 true) (unD .not v50)) fun v52=>
 b5 (H5 x10 v52 (.bool false)) fun v53=>
 g8 v53
 (r8 Try.prog E w0 a4T [x3,x9] S51 fun v54 S55=>
 Q9 E w0 N3 N1 N0 Q x0 v54 (.bool true) x5 x8 S55)
 (Q9 E w0 N3 N1 N0 Q x0 x3 x4 x5 x8 S51))
theorem a8C{E:d6}{w0:i5}{N3:D→D→D→D→D→b4→Prop}{N1:D→D→D→D→b4→Prop}{N0:D→D→D→b4→Prop}{N4:D→D→D→D→D→D→D→D→b4→Prop}{Q:D→b4→Prop}{x0 x3 x4 x5 x8 x9 x10 x11:D}{S:b4}(h:a1B E w0 N3 N1 N0 N4 Q x0 x3 x4 x5 x8 x9 x10 x11 S):
  b8 Try.prog E w0 X5 (d8 97 [0,3,4,5,8,9,10,11] [x0,x3,x4,x5,x8,x9,x10,x11]) S (m9 (fun T S=>N4 (T.getD 0 a8) (T.getD 3 a8) (T.getD 4 a8) (T.getD 5 a8) (T.getD 8 a8) (T.getD 9 a8) (T.getD 10 a8) (T.getD 11 a8) S) (X4 E w0 N3 N1 N0 Q)):=d5 j0 i7 i9 mixed (by kernel_rfl) h
theorem a8e{E:d6}{w0:i5}{N3:D→D→D→D→D→b4→Prop}{N1:D→D→D→D→b4→Prop}{N0:D→D→D→b4→Prop}{Q:D→b4→Prop}(I:Nat→D→D→D→D→D→D→D→D→b4→Prop)
  (step:∀n x0 x3 x4 x5 x8 x9 x10 x11 S,I n x0 x3 x4 x5 x8 x9 x10 x11 S→a1B E w0 N3 N1 N0 (fun x0 x3 x4 x5 x8 x9 x10 x11 S=>∃m,m<n∧I m x0 x3 x4 x5 x8 x9 x10 x11 S) Q x0 x3 x4 x5 x8 x9 x10 x11 S)
  {n:Nat} {x0 x3 x4 x5 x8 x9 x10 x11:D} {S:b4} (h:I n x0 x3 x4 x5 x8 x9 x10 x11 S):b8 Try.prog E w0 (.loop X5) (d8 97 [0,3,4,5,8,9,10,11] [x0,x3,x4,x5,x8,x9,x10,x11]) S (X4 E w0 N3 N1 N0 Q):=
 j7 (k:=97) (n:=n) (I:=fun n T S=>I n (T.getD 0 a8) (T.getD 3 a8) (T.getD 4 a8) (T.getD 5 a8) (T.getD 8 a8) (T.getD 9 a8) (T.getD 10 a8) (T.getD 11 a8) S) (fun n T S hl hI=>l9 [0,3,4,5,8,9,10,11] hl (b8.mono (a8C (step n _ _ _ _ _ _ _ _ S hI)) fun ex T' S' _ hq=>by cases ex<;>exact hq)) (f9 ..) (Eq.mp (by kernel_rfl) h)
noncomputable def X2:Code:=(f0 [1,1,1,0,1,0,0,1,0,1,1,0,0,1,0,0,1,1,1,1,0,0] (Try.f20.body.getD .skip))
def X8(E:d6)(w0:i5)(N1:D→D→D→D→b4→Prop)(N0:D→D→D→b4→Prop)(Q:D→b4→Prop):j2→List D→b4→Prop:=
 (i4 6 (i4 3 (a7h Try.prog E w0 97 [0,3,4,5] C5 (m9 (fun T S=>N1 (T.getD 0 a8) (T.getD 3 a8) (T.getD 4 a8) (T.getD 5 a8) S) (i4 2 (i4 1 (m9 (fun T S=>N0 (T.getD 0 a8) (T.getD 3 a8) (T.getD 4 a8) S) (i4 0 (J0 Try.prog E w0 j0 i7 i9 (f0 [1,1,1,1] (Try.f20.body.getD .skip)) (E3 Try.prog Try.f20 Q))))))))))
def a1v(E:d6)(w0:i5)(N1:D→D→D→D→b4→Prop)(N0:D→D→D→b4→Prop)(N3:D→D→D→D→D→b4→Prop)(Q:D→b4→Prop)(x0 x3 x4 x5 x8:D)(S:b4):Prop:=
 b5 (j5 3 x0 x5) fun v30=>
 b5 (t8 2 v30) fun v31=>
 b5 (c9 S v31) fun v32=>
 b5 (m6 v32) fun v33=>
 b5 (d4 .lss x8 v33) fun v34=>
 g8 v34
 (b5 (j5 3 x0 x5) fun v36=>
 b5 (t8 2 v36) fun v37=>
 b5 (c9 S v37) fun v38=>
 b5 (j5 1 v38 x8) fun v39=>
 b5 (c9 S v39) fun v40=>
 b8 Try.prog E w0 (.loop X5) (d8 97 [0,3,4,5,8,9,10,11] [x0,x3,x4,x5,x8,v40,(.bool false),(.int .i64 0)]) S (X4 E w0 N3 N1 N0 Q))
 (K1 E w0 N1 N0 Q x0 x3 x4 x5 S)
theorem a8g{E:d6}{w0:i5}{N1:D→D→D→D→b4→Prop}{N0:D→D→D→b4→Prop}{N3:D→D→D→D→D→b4→Prop}{Q:D→b4→Prop}{x0 x3 x4 x5 x8:D}{S:b4}(h:a1v E w0 N1 N0 N3 Q x0 x3 x4 x5 x8 S):
  b8 Try.prog E w0 X2 (d8 97 [0,3,4,5,8] [x0,x3,x4,x5,x8]) S (m9 (fun T S=>N3 (T.getD 0 a8) (T.getD 3 a8) (T.getD 4 a8) (T.getD 5 a8) (T.getD 8 a8) S) (X8 E w0 N1 N0 Q)):=d5 j0 i7 i9 mixed (by kernel_rfl) h
theorem a7X{E:d6}{w0:i5}{N1:D→D→D→D→b4→Prop}{N0:D→D→D→b4→Prop}{Q:D→b4→Prop}(I:Nat→D→D→D→D→D→b4→Prop)
  (step:∀n x0 x3 x4 x5 x8 S,I n x0 x3 x4 x5 x8 S→a1v E w0 N1 N0 (fun x0 x3 x4 x5 x8 S=>∃m,m<n∧I m x0 x3 x4 x5 x8 S) Q x0 x3 x4 x5 x8 S)
  {n:Nat} {x0 x3 x4 x5 x8:D} {S:b4} (h:I n x0 x3 x4 x5 x8 S):b8 Try.prog E w0 (.loop X2) (d8 97 [0,3,4,5,8] [x0,x3,x4,x5,x8]) S (X8 E w0 N1 N0 Q):=
 j7 (k:=97) (n:=n) (I:=fun n T S=>I n (T.getD 0 a8) (T.getD 3 a8) (T.getD 4 a8) (T.getD 5 a8) (T.getD 8 a8) S) (fun n T S hl hI=>l9 [0,3,4,5,8] hl (b8.mono (a8g (step n _ _ _ _ _ S hI)) fun ex T' S' _ hq=>by cases ex<;>exact hq)) (f9 ..) (Eq.mp (by kernel_rfl) h)
noncomputable def X1:Code:=(f0 [1,1,1,0,1,0,0,1,0,1,1,0,0,1,0,0,1,0,1,0,0] (Try.f20.body.getD .skip))
def X9(E:d6)(w0:i5)(N1:D→D→D→D→b4→Prop)(N0:D→D→D→b4→Prop)(Q:D→b4→Prop):j2→List D→b4→Prop:=
 (i4 4 (J0 Try.prog E w0 j0 i7 i9 (f0 [1,1,1,0,1,0,0,1,0,1,1,0,0,1,0,0,1,1] (Try.f20.body.getD .skip)) (i4 3 (a7h Try.prog E w0 97 [0,3,4,5] C5 (m9 (fun T S=>N1 (T.getD 0 a8) (T.getD 3 a8) (T.getD 4 a8) (T.getD 5 a8) S) (i4 2 (i4 1 (m9 (fun T S=>N0 (T.getD 0 a8) (T.getD 3 a8) (T.getD 4 a8) S) (i4 0 (J0 Try.prog E w0 j0 i7 i9 (f0 [1,1,1,1] (Try.f20.body.getD .skip)) (E3 Try.prog Try.f20 Q)))))))))))
def a1q(E:d6)(w0:i5)(N1:D→D→D→D→b4→Prop)(N0:D→D→D→b4→Prop)(N2:D→D→D→D→D→D→b4→Prop)(Q:D→b4→Prop)(x0 x3 x4 x5 x6 x7:D)(S:b4):Prop:=
 b5 (d4 .lss x7 x5) fun v10=>
 g8 v10
 (b5 (j5 3 x0 x7) fun v12=>
 b5 (t8 0 v12) fun v13=>
 b5 (c9 S v13) fun v14=>
 b5 (j5 3 x0 x5) fun v15=>
 b5 (t8 0 v15) fun v16=>
 b5 (c9 S v16) fun v17=>
 b5 (d4 .eql v14 v17) fun v18=>
 g8 v18
 (Q3 E w0 N2 N1 N0 Q x0 x3 x4 x5 (.bool false) x7 S)
 (Q3 E w0 N2 N1 N0 Q x0 x3 x4 x5 x6 x7 S))
 (b5 (unD .not x6) fun v19=>
 b5 (d9 (b7 v19 false) (some x3)) fun v20=>
 b5 (d9 (b7 v19 false) (some x0)) fun v21=>
 b5 (d9 (b7 v19 false) (some x5)) fun v22=>
 b5 (d9 (b7 v19 false) (j5 3 v21 v22)) fun v23=>
 b5 (d9 (b7 v19 false) (t8 0 v23)) fun v24=>
 b5 (d9 (b7 v19 false) (c9 S v24)) fun v25=>
 Z6 (b7 v19 false) (fun K=>r8 Try.prog E w0 a3d [v20,v25] S K) S fun v26 S27=>
 b5 (d9 (b7 v19 false) (unD .not v26)) fun v28=>
 b5 (H5 v19 (.bool true) v28) fun v29=>
 g8 v29
 (K1 E w0 N1 N0 Q x0 x3 x4 x5 S27)
 (b8 Try.prog E w0 (.loop X2) (d8 97 [0,3,4,5,8] [x0,x3,x4,x5,(.int .i64 0)]) S27 (X8 E w0 N1 N0 Q)))
theorem a8z{E:d6}{w0:i5}{N1:D→D→D→D→b4→Prop}{N0:D→D→D→b4→Prop}{N2:D→D→D→D→D→D→b4→Prop}{Q:D→b4→Prop}{x0 x3 x4 x5 x6 x7:D}{S:b4}(h:a1q E w0 N1 N0 N2 Q x0 x3 x4 x5 x6 x7 S):
  b8 Try.prog E w0 X1 (d8 97 [0,3,4,5,6,7] [x0,x3,x4,x5,x6,x7]) S (m9 (fun T S=>N2 (T.getD 0 a8) (T.getD 3 a8) (T.getD 4 a8) (T.getD 5 a8) (T.getD 6 a8) (T.getD 7 a8) S) (X9 E w0 N1 N0 Q)):=d5 j0 i7 i9 mixed (by kernel_rfl) h
theorem a8w{E:d6}{w0:i5}{N1:D→D→D→D→b4→Prop}{N0:D→D→D→b4→Prop}{Q:D→b4→Prop}(I:Nat→D→D→D→D→D→D→b4→Prop)
  (step:∀n x0 x3 x4 x5 x6 x7 S,I n x0 x3 x4 x5 x6 x7 S→a1q E w0 N1 N0 (fun x0 x3 x4 x5 x6 x7 S=>∃m,m<n∧I m x0 x3 x4 x5 x6 x7 S) Q x0 x3 x4 x5 x6 x7 S)
  {n:Nat} {x0 x3 x4 x5 x6 x7:D} {S:b4} (h:I n x0 x3 x4 x5 x6 x7 S):b8 Try.prog E w0 (.loop X1) (d8 97 [0,3,4,5,6,7] [x0,x3,x4,x5,x6,x7]) S (X9 E w0 N1 N0 Q):=
 j7 (k:=97) (n:=n) (I:=fun n T S=>I n (T.getD 0 a8) (T.getD 3 a8) (T.getD 4 a8) (T.getD 5 a8) (T.getD 6 a8) (T.getD 7 a8) S) (fun n T S hl hI=>l9 [0,3,4,5,6,7] hl (b8.mono (a8z (step n _ _ _ _ _ _ S hI)) fun ex T' S' _ hq=>by cases ex<;>exact hq)) (f9 ..) (Eq.mp (by kernel_rfl) h)
noncomputable def X6:Code:=(f0 [1,1,1,0,1,0,0,1,0,1,1,0,0] (Try.f20.body.getD .skip))
def X7(E:d6)(w0:i5)(N0:D→D→D→b4→Prop)(Q:D→b4→Prop):j2→List D→b4→Prop:=
 (i4 2 (i4 1 (m9 (fun T S=>N0 (T.getD 0 a8) (T.getD 3 a8) (T.getD 4 a8) S) (i4 0 (J0 Try.prog E w0 j0 i7 i9 (f0 [1,1,1,1] (Try.f20.body.getD .skip)) (E3 Try.prog Try.f20 Q))))))
def a1p(E:d6)(w0:i5)(N0:D→D→D→b4→Prop)(N1:D→D→D→D→b4→Prop)(Q:D→b4→Prop)(x0 x3 x4 x5:D)(S:b4):Prop:=
 b5 (m6 x0) fun v7=>
 b5 (d4 .lss x5 v7) fun v8=>
 g8 v8
 (b8 Try.prog E w0 (.loop X1) (d8 97 [0,3,4,5,6,7] [x0,x3,x4,x5,(.bool true),(.int .i64 0)]) S (X9 E w0 N1 N0 Q))
 (N0 x0 x3 x4 S)
theorem a8b{E:d6}{w0:i5}{N0:D→D→D→b4→Prop}{N1:D→D→D→D→b4→Prop}{Q:D→b4→Prop}{x0 x3 x4 x5:D}{S:b4}(h:a1p E w0 N0 N1 Q x0 x3 x4 x5 S):
  b8 Try.prog E w0 X6 (d8 97 [0,3,4,5] [x0,x3,x4,x5]) S (m9 (fun T S=>N1 (T.getD 0 a8) (T.getD 3 a8) (T.getD 4 a8) (T.getD 5 a8) S) (X7 E w0 N0 Q)):=d5 j0 i7 i9 mixed (by kernel_rfl) h
theorem a8v{E:d6}{w0:i5}{N0:D→D→D→b4→Prop}{Q:D→b4→Prop}(I:Nat→D→D→D→D→b4→Prop)
  (step:∀n x0 x3 x4 x5 S,I n x0 x3 x4 x5 S→a1p E w0 N0 (fun x0 x3 x4 x5 S=>∃m,m<n∧I m x0 x3 x4 x5 S) Q x0 x3 x4 x5 S)
  {n:Nat} {x0 x3 x4 x5:D} {S:b4} (h:I n x0 x3 x4 x5 S):b8 Try.prog E w0 (.loop X6) (d8 97 [0,3,4,5] [x0,x3,x4,x5]) S (X7 E w0 N0 Q):=
 j7 (k:=97) (n:=n) (I:=fun n T S=>I n (T.getD 0 a8) (T.getD 3 a8) (T.getD 4 a8) (T.getD 5 a8) S) (fun n T S hl hI=>l9 [0,3,4,5] hl (b8.mono (a8b (step n _ _ _ _ S hI)) fun ex T' S' _ hq=>by cases ex<;>exact hq)) (f9 ..) (Eq.mp (by kernel_rfl) h)
noncomputable def a1r:Code:=(f0 [1,1,1,0,1,0,0] (Try.f20.body.getD .skip))
def a1C(E:d6)(w0:i5)(Q:D→b4→Prop):j2→List D→b4→Prop:=
 (i4 0 (J0 Try.prog E w0 j0 i7 i9 (f0 [1,1,1,1] (Try.f20.body.getD .skip)) (E3 Try.prog Try.f20 Q)))
def a1D(E:d6)(w0:i5)(N0:D→D→D→b4→Prop)(Q:D→b4→Prop)(x0 x3 x4:D)(S:b4):Prop:=
 g8 x4
 (b8 Try.prog E w0 (.loop X6) (d8 97 [0,3,4,5] [x0,x3,(.bool false),(.int .i64 0)]) S (X7 E w0 N0 Q))
 (Q x3 S)
theorem a8n{E:d6}{w0:i5}{N0:D→D→D→b4→Prop}{Q:D→b4→Prop}{x0 x3 x4:D}{S:b4}(h:a1D E w0 N0 Q x0 x3 x4 S):
  b8 Try.prog E w0 a1r (d8 97 [0,3,4] [x0,x3,x4]) S (m9 (fun T S=>N0 (T.getD 0 a8) (T.getD 3 a8) (T.getD 4 a8) S) (a1C E w0 Q)):=d5 j0 i7 i9 mixed (by kernel_rfl) h
theorem a8A{E:d6}{w0:i5}{Q:D→b4→Prop}(I:Nat→D→D→D→b4→Prop)
  (step:∀n x0 x3 x4 S,I n x0 x3 x4 S→a1D E w0 (fun x0 x3 x4 S=>∃m,m<n∧I m x0 x3 x4 S) Q x0 x3 x4 S)
  {n:Nat} {x0 x3 x4:D} {S:b4} (h:I n x0 x3 x4 S):b8 Try.prog E w0 (.loop a1r) (d8 97 [0,3,4] [x0,x3,x4]) S (a1C E w0 Q):=
 j7 (k:=97) (n:=n) (I:=fun n T S=>I n (T.getD 0 a8) (T.getD 3 a8) (T.getD 4 a8) S) (fun n T S hl hI=>l9 [0,3,4] hl (b8.mono (a8n (step n _ _ _ S hI)) fun ex T' S' _ hq=>by cases ex<;>exact hq)) (f9 ..) (Eq.mp (by kernel_rfl) h)
def a7R(E:d6)(w0:i5)(Q:D→b4→Prop)(a0:D)(S:b4):Prop:=
 b5 (m6 a0) fun v0=>
 b5 (d4 .eql v0 (.int .i64 0)) fun v1=>
 g8 v1
 (Q .nilSlc S)
 (b5 (j5 3 a0 (.int .i64 0)) fun v2=>
 b5 (t8 0 v2) fun v3=>
 b5 (c9 S v3) fun v4=>
 I4 S 1 (s4 1 (List.replicate 1 [(.int .i64 0)]) [(0,v4)]) 1 fun v5 S6=>
 b8 Try.prog E w0 (.loop a1r) (d8 97 [0,3,4] [a0,v5,(.bool true)]) S6 (a1C E w0 Q))
theorem b1r{E:d6}{w0:i5}{Q:D→b4→Prop}{a0:D}{S:b4}(h:a7R E w0 (b9 E Q) a0 S):r8 Try.prog E w0 X0 [a0] S Q:=
 o6 j0 i7 i9 (fn:=Try.f20) (c:=Try.f20.body.getD .skip) mixed Try.func20 (by kernel_rfl) (by kernel_rfl) h
def a4y:List (Nat×List Nat):=[(4,[0,1,5])]
def a4Z:List (Nat×List Nat):=[]
def a4z:List (Nat×Arr):=[]
noncomputable def a3S:Code:=(f0 [1,0,1,0,0] (Try.f36.body.getD .skip))
def a3z(E:d6)(w0:i5)(Q:D→b4→Prop):j2→List D→b4→Prop:=
 (i4 0 (J0 Try.prog E w0 a4y a4Z a4z (f0 [1,1] (Try.f36.body.getD .skip)) (E3 Try.prog Try.f36 Q)))
def a3J(E:d6)(w0:i5)(N0:D→D→D→b4→Prop)(Q:D→b4→Prop)(x0 x1 x5:D)(S:b4):Prop:=
 b5 (m6 x0) fun v0=>
 b5 (d4 .lss x5 v0) fun v1=>
 g8 v1
 (b5 (j5 1 x0 x5) fun v2=>
 b5 (c9 S v2) fun v3=>
 b5 (d4 .eql v3 x1) fun v4=>
 g8 v4
 (Q (.bool true) S)
 (b5 (d4 .add x5 (.int .i64 1)) fun v5=>
 N0 x0 x1 v5 S))
 (Q (.bool false) S)
theorem b0G{E:d6}{w0:i5}{N0:D→D→D→b4→Prop}{Q:D→b4→Prop}{x0 x1 x5:D}{S:b4}(h:a3J E w0 N0 Q x0 x1 x5 S):
  b8 Try.prog E w0 a3S (d8 18 [0,1,5] [x0,x1,x5]) S (m9 (fun T S=>N0 (T.getD 0 a8) (T.getD 1 a8) (T.getD 5 a8) S) (a3z E w0 Q)):=d5 a4y a4Z a4z mixed (by kernel_rfl) h
theorem b0p{E:d6}{w0:i5}{Q:D→b4→Prop}(I:Nat→D→D→D→b4→Prop)
  (step:∀n x0 x1 x5 S,I n x0 x1 x5 S→a3J E w0 (fun x0 x1 x5 S=>∃m,m<n∧I m x0 x1 x5 S) Q x0 x1 x5 S)
  {n:Nat} {x0 x1 x5:D} {S:b4} (h:I n x0 x1 x5 S):b8 Try.prog E w0 (.loop a3S) (d8 18 [0,1,5] [x0,x1,x5]) S (a3z E w0 Q):=
 j7 (k:=18) (n:=n) (I:=fun n T S=>I n (T.getD 0 a8) (T.getD 1 a8) (T.getD 5 a8) S) (fun n T S hl hI=>l9 [0,1,5] hl (b8.mono (b0G (step n _ _ _ S hI)) fun ex T' S' _ hq=>by cases ex<;>exact hq)) (f9 ..) (Eq.mp (by kernel_rfl) h)
def b1K(E:d6)(w0:i5)(Q:D→b4→Prop)(a0 a1:D)(S:b4):Prop:=
 b8 Try.prog E w0 (.loop a3S) (d8 18 [0,1,5] [a0,a1,(.int .i64 0)]) S (a3z E w0 Q)
theorem b2U{E:d6}{w0:i5}{Q:D→b4→Prop}{a0 a1:D}{S:b4}(h:b1K E w0 (b9 E Q) a0 a1 S):r8 Try.prog E w0 a3d [a0,a1] S Q:=
 o6 a4y a4Z a4z (fn:=Try.f36) (c:=Try.f36.body.getD .skip) mixed Try.func36 (by kernel_rfl) (by kernel_rfl) h
def V2:List (Nat×List Nat):=[(4,[0,1,5]),(16,[0,1,5,6])]
def W8:List (Nat×List Nat):=[]
def W4:List (Nat×Arr):=[]
noncomputable def a0n:Code:=(f0 [1,1,1,1,1,0,1,0,0] (Try.f43.body.getD .skip))
def Z8(E:d6)(w0:i5)(Q:D→b4→Prop):j2→List D→b4→Prop:=
 (i4 2 (J0 Try.prog E w0 V2 W8 W4 (f0 [1,1,1,1,1,1] (Try.f43.body.getD .skip)) (E3 Try.prog Try.f43 Q)))
def a2k(E:d6)(w0:i5)(N1:D→D→D→D→b4→Prop)(Q:D→b4→Prop)(x0 x1 x5 x6:D)(S:b4):Prop:=
 b5 (d4 .gtr x6 x5) fun v25=>
 g8 v25
 (b5 (d4 .sub x6 (.int .i64 1)) fun v26=>
 b5 (j5 1 x0 v26) fun v27=>
 b5 (c9 S v27) fun v28=>
 b5 (j5 1 x0 x6) fun v29=>
 j4 S 1 v29 v28 fun v30 S31=>
 b5 (d4 .sub x6 (.int .i64 1)) fun v32=>
 N1 x0 x1 x5 v32 S31)
 (b5 (j5 1 x0 x5) fun v33=>
 j4 S 1 v33 x1 fun v34 S35=>
 Q x0 S35)
theorem b0g{E:d6}{w0:i5}{N1:D→D→D→D→b4→Prop}{Q:D→b4→Prop}{x0 x1 x5 x6:D}{S:b4}(h:a2k E w0 N1 Q x0 x1 x5 x6 S):
  b8 Try.prog E w0 a0n (d8 58 [0,1,5,6] [x0,x1,x5,x6]) S (m9 (fun T S=>N1 (T.getD 0 a8) (T.getD 1 a8) (T.getD 5 a8) (T.getD 6 a8) S) (Z8 E w0 Q)):=d5 V2 W8 W4 mixed (by kernel_rfl) h
theorem b0b{E:d6}{w0:i5}{Q:D→b4→Prop}(I:Nat→D→D→D→D→b4→Prop)
  (step:∀n x0 x1 x5 x6 S,I n x0 x1 x5 x6 S→a2k E w0 (fun x0 x1 x5 x6 S=>∃m,m<n∧I m x0 x1 x5 x6 S) Q x0 x1 x5 x6 S)
  {n:Nat} {x0 x1 x5 x6:D} {S:b4} (h:I n x0 x1 x5 x6 S):b8 Try.prog E w0 (.loop a0n) (d8 58 [0,1,5,6] [x0,x1,x5,x6]) S (Z8 E w0 Q):=
 j7 (k:=58) (n:=n) (I:=fun n T S=>I n (T.getD 0 a8) (T.getD 1 a8) (T.getD 5 a8) (T.getD 6 a8) S) (fun n T S hl hI=>l9 [0,1,5,6] hl (b8.mono (b0g (step n _ _ _ _ S hI)) fun ex T' S' _ hq=>by cases ex<;>exact hq)) (f9 ..) (Eq.mp (by kernel_rfl) h)
noncomputable def a2d:Code:=(f0 [1,1,0,0,0] (Try.f43.body.getD .skip))
def a2l(E:d6)(w0:i5)(Q:D→b4→Prop):j2→List D→b4→Prop:=
 (i4 0 (J0 Try.prog E w0 V2 W8 W4 (f0 [1,1,1] (Try.f43.body.getD .skip)) (E3 Try.prog Try.f43 Q)))
def a2q(E:d6)(w0:i5)(N0:D→D→D→b4→Prop)(Q:D→b4→Prop)(x0 x1 x5:D)(S:b4):Prop:=
 b5 (m6 x0) fun v0=>
 b5 (d4 .lss x5 v0) fun v1=>
 b5 (d9 (b7 v1 true) (some x0)) fun v2=>
 b5 (d9 (b7 v1 true) (some x5)) fun v3=>
 b5 (d9 (b7 v1 true) (j5 1 v2 v3)) fun v4=>
 b5 (d9 (b7 v1 true) (c9 S v4)) fun v5=>
 b5 (d9 (b7 v1 true) (some x1)) fun v6=>
 b5 (d9 (b7 v1 true) (d4 .lss v5 v6)) fun v7=>
 b5 (H5 v1 v7 (.bool false)) fun v8=>
 g8 v8
 (b5 (d4 .add x5 (.int .i64 1)) fun v9=>
 N0 x0 x1 v9 S)
 (b5 (m6 x0) fun v10=>
 b5 (d4 .lss x5 v10) fun v11=>
 b5 (d9 (b7 v11 true) (some x0)) fun v12=>
 b5 (d9 (b7 v11 true) (some x5)) fun v13=>
 b5 (d9 (b7 v11 true) (j5 1 v12 v13)) fun v14=>
 b5 (d9 (b7 v11 true) (c9 S v14)) fun v15=>
 b5 (d9 (b7 v11 true) (some x1)) fun v16=>
 b5 (d9 (b7 v11 true) (d4 .eql v15 v16)) fun v17=>
 b5 (H5 v11 v17 (.bool false)) fun v18=>
 g8 v18
 (Q x0 S)
 (I4 S 1 (s4 1 (List.replicate 1 [(.int .i64 0)]) [(0,(.int .i64 0))]) 1 fun v19 S20=>
 s0 S20 1 8 x0 v19 fun v21 S22=>
 b5 (m6 v21) fun v23=>
 b5 (d4 .sub v23 (.int .i64 1)) fun v24=>
 b8 Try.prog E w0 (.loop a0n) (d8 58 [0,1,5,6] [v21,x1,x5,v24]) S22 (Z8 E w0 Q)))
theorem a9m{E:d6}{w0:i5}{N0:D→D→D→b4→Prop}{Q:D→b4→Prop}{x0 x1 x5:D}{S:b4}(h:a2q E w0 N0 Q x0 x1 x5 S):
  b8 Try.prog E w0 a2d (d8 58 [0,1,5] [x0,x1,x5]) S (m9 (fun T S=>N0 (T.getD 0 a8) (T.getD 1 a8) (T.getD 5 a8) S) (a2l E w0 Q)):=d5 V2 W8 W4 mixed (by kernel_rfl) h
theorem a9R{E:d6}{w0:i5}{Q:D→b4→Prop}(I:Nat→D→D→D→b4→Prop)
  (step:∀n x0 x1 x5 S,I n x0 x1 x5 S→a2q E w0 (fun x0 x1 x5 S=>∃m,m<n∧I m x0 x1 x5 S) Q x0 x1 x5 S)
  {n:Nat} {x0 x1 x5:D} {S:b4} (h:I n x0 x1 x5 S):b8 Try.prog E w0 (.loop a2d) (d8 58 [0,1,5] [x0,x1,x5]) S (a2l E w0 Q):=
 j7 (k:=58) (n:=n) (I:=fun n T S=>I n (T.getD 0 a8) (T.getD 1 a8) (T.getD 5 a8) S) (fun n T S hl hI=>l9 [0,1,5] hl (b8.mono (a9m (step n _ _ _ S hI)) fun ex T' S' _ hq=>by cases ex<;>exact hq)) (f9 ..) (Eq.mp (by kernel_rfl) h)
def a9S(E:d6)(w0:i5)(Q:D→b4→Prop)(a0 a1:D)(S:b4):Prop:=
 b8 Try.prog E w0 (.loop a2d) (d8 58 [0,1,5] [a0,a1,(.int .i64 0)]) S (a2l E w0 Q)
theorem b2I{E:d6}{w0:i5}{Q:D→b4→Prop}{a0 a1:D}{S:b4}(h:a9S E w0 (b9 E Q) a0 a1 S):r8 Try.prog E w0 a4T [a0,a1] S Q:=
 o6 V2 W8 W4 (fn:=Try.f43) (c:=Try.f43.body.getD .skip) mixed Try.func43 (by kernel_rfl) (by kernel_rfl) h
def L8:List (Nat×List Nat):=[(28,[4,33,34,35])]
def L5:List (Nat×List Nat):=[(21,[1,2,9,12]),(41,[1,2,9,20]),(36,[4])]
def L6:List (Nat×Arr):=[]
noncomputable def N5:Code:=(f0 [1,1] (Try.f38.body.getD .skip))
def a8I(E:d6)(w0:i5)(Q:D→b4→Prop):j2→List D→b4→Prop:=
 (E3 Try.prog Try.f38 Q)
def a3r(E:d6)(w0:i5)(Q:D→b4→Prop)(x4:D)(S:b4):Prop:=
 r8 Try.prog E w0 I0 [x4] S fun v2 S3=>
 r8 Try.prog E w0 H3 [x4] S3 fun v4 S5=>
 Q (.tup [v4,(.bool true)]) S5
def O3(E:d6)(w0:i5)(Q:D→b4→Prop)(x4:D)(S:b4):Prop:=b8 Try.prog E w0 N5 (d8 49 [4] [x4]) S (a8I E w0 Q)
theorem a6o{E:d6}{w0:i5}{Q:D→b4→Prop}{x4:D}{S:b4}(h:a3r E w0 Q x4 S):O3 E w0 Q x4 S:=d5 L8 L5 L6 mixed (by kernel_rfl) h
noncomputable def Q6:Code:=(f0 [1,0,1,0,1,1,1,1,1,1,1,0,1,1,0,0] (Try.f38.body.getD .skip))
def Q2(E:d6)(w0:i5)(Q:D→b4→Prop):j2→List D→b4→Prop:=
 (i4 1 (i4 0 (a7h Try.prog E w0 49 [4] N5 (E3 Try.prog Try.f38 Q))))
def a0E(E:d6)(w0:i5)(N0:D→D→D→D→b4→Prop)(Q:D→b4→Prop)(x4 x33 x34 x35:D)(S:b4):Prop:=
 b5 (d4 .lss x35 x34) fun v25=>
 g8 v25
 (b5 (j5 2 x33 x35) fun v26=>
 b5 (s8 S 2 v26) fun v27=>
 q7 S [(.int .i64 0),(.int .i64 0)] fun v28 S29=>
 j4 S29 2 v28 v27 fun v30 S31=>
 b5 (t8 1 v28) fun v32=>
 b5 (c9 S31 v32) fun v33=>
 I4 S31 1 (s4 1 (List.replicate 1 [(.int .i64 0)]) [(0,v33)]) 1 fun v34 S35=>
 s0 S35 1 8 x4 v34 fun v36 S37=>
 b5 (d4 .add x35 (.int .i64 1)) fun v38=>
 N0 v36 x33 x34 v38 S37)
 (O3 E w0 Q x4 S)
theorem a7q{E:d6}{w0:i5}{N0:D→D→D→D→b4→Prop}{Q:D→b4→Prop}{x4 x33 x34 x35:D}{S:b4}(h:a0E E w0 N0 Q x4 x33 x34 x35 S):
  b8 Try.prog E w0 Q6 (d8 49 [4,33,34,35] [x4,x33,x34,x35]) S (m9 (fun T S=>N0 (T.getD 4 a8) (T.getD 33 a8) (T.getD 34 a8) (T.getD 35 a8) S) (Q2 E w0 Q)):=d5 L8 L5 L6 mixed (by kernel_rfl) h
theorem a7s{E:d6}{w0:i5}{Q:D→b4→Prop}(I:Nat→D→D→D→D→b4→Prop)
  (step:∀n x4 x33 x34 x35 S,I n x4 x33 x34 x35 S→a0E E w0 (fun x4 x33 x34 x35 S=>∃m,m<n∧I m x4 x33 x34 x35 S) Q x4 x33 x34 x35 S)
  {n:Nat} {x4 x33 x34 x35:D} {S:b4} (h:I n x4 x33 x34 x35 S):b8 Try.prog E w0 (.loop Q6) (d8 49 [4,33,34,35] [x4,x33,x34,x35]) S (Q2 E w0 Q):=
 j7 (k:=49) (n:=n) (I:=fun n T S=>I n (T.getD 4 a8) (T.getD 33 a8) (T.getD 34 a8) (T.getD 35 a8) S) (fun n T S hl hI=>l9 [4,33,34,35] hl (b8.mono (a7q (step n _ _ _ _ S hI)) fun ex T' S' _ hq=>by cases ex<;>exact hq)) (f9 ..) (Eq.mp (by kernel_rfl) h)
noncomputable def b0n:Code:=(f0 [1,0,1,0,1,1,1,1,1] (Try.f38.body.getD .skip))
def a8c(E:d6)(w0:i5)(Q:D→b4→Prop):j2→List D→b4→Prop:=
 (i4 0 (a7h Try.prog E w0 49 [4] N5 (E3 Try.prog Try.f38 Q)))
def a3n(E:d6)(w0:i5)(Q:D→b4→Prop)(x1 x2 x9 x20:D)(S:b4):Prop:=
 g8 x20
 (b5 (t8 1 x2) fun v13=>
 b5 (c9 S v13) fun v14=>
 I4 S 1 (s4 1 (List.replicate 2 [(.int .i64 0)]) [(0,v14),(1,x1)]) 2 fun v15 S16=>
 O3 E w0 Q v15 S16)
 (b5 (d4 .eql x9 (.int .u8 49)) fun v17=>
 g8 v17
 (b5 (t8 2 x2) fun v18=>
 b5 (c9 S v18) fun v19=>
 I4 S 1 (s4 1 (List.replicate 1 [(.int .i64 0)]) [(0,v19)]) 1 fun v20 S21=>
 b5 (t8 3 x2) fun v22=>
 b5 (c9 S21 v22) fun v23=>
 b5 (m6 v23) fun v24=>
 b8 Try.prog E w0 (.loop Q6) (d8 49 [4,33,34,35] [v20,v23,v24,(.int .i64 0)]) S21 (Q2 E w0 Q))
 (I4 S 1 (s4 1 (List.replicate 1 [(.int .i64 0)]) [(0,x1)]) 1 fun v39 S40=>
 Q (.tup [v39,(.bool false)]) S40))
def O2(E:d6)(w0:i5)(Q:D→b4→Prop)(x1 x2 x9 x20:D)(S:b4):Prop:=b8 Try.prog E w0 b0n (d8 49 [1,2,9,20] [x1,x2,x9,x20]) S (a8c E w0 Q)
theorem a5O{E:d6}{w0:i5}{Q:D→b4→Prop}{x1 x2 x9 x20:D}{S:b4}(h:a3n E w0 Q x1 x2 x9 x20 S):O2 E w0 Q x1 x2 x9 x20 S:=d5 L8 L5 L6 mixed (by kernel_rfl) h
noncomputable def a9n:Code:=(f0 [1,0,1,0,1] (Try.f38.body.getD .skip))
def a8d(E:d6)(w0:i5)(Q:D→b4→Prop):j2→List D→b4→Prop:=
 (i4 0 (a7h Try.prog E w0 49 [4] N5 (E3 Try.prog Try.f38 Q)))
def a3f(E:d6)(w0:i5)(Q:D→b4→Prop)(x1 x2 x9 x12:D)(S:b4):Prop:=
 g8 x12
 (Q (.tup [.nilSlc,(.bool true)]) S)
 (b5 (d4 .eql x9 (.int .u8 46)) fun v8=>
 g8 v8
 (b5 (t8 1 x2) fun v9=>
 b5 (c9 S v9) fun v10=>
 I4 S 1 (s4 1 (List.replicate 1 [(.int .i64 0)]) [(0,v10)]) 1 fun v11 S12=>
 Q (.tup [v11,(.bool true)]) S12)
 (b5 (d4 .eql x9 (.int .u8 47)) fun v41=>
 g8 v41
 (O2 E w0 Q x1 x2 x9 v41 S)
 (b5 (d4 .eql x9 (.int .u8 48)) fun v42=>
 O2 E w0 Q x1 x2 x9 v42 S)))
def O0(E:d6)(w0:i5)(Q:D→b4→Prop)(x1 x2 x9 x12:D)(S:b4):Prop:=b8 Try.prog E w0 a9n (d8 49 [1,2,9,12] [x1,x2,x9,x12]) S (a8d E w0 Q)
theorem a6k{E:d6}{w0:i5}{Q:D→b4→Prop}{x1 x2 x9 x12:D}{S:b4}(h:a3f E w0 Q x1 x2 x9 x12 S):O0 E w0 Q x1 x2 x9 x12 S:=d5 L8 L5 L6 mixed (by kernel_rfl) h
def a6b(E:d6)(w0:i5)(Q:D→b4→Prop)(a0 a1:D)(S:b4):Prop:=
 b5 (s6 a0) fun cs=>q7 S cs fun v0 S1=>
 b5 (t8 0 v0) fun v6=>
 b5 (c9 S1 v6) fun v7=>
 b5 (d4 .eql v7 (.int .u8 51)) fun v43=>
 g8 v43
 (O0 E w0 Q a1 v0 v7 v43 S1)
 (b5 (d4 .eql v7 (.int .u8 52)) fun v44=>
 O0 E w0 Q a1 v0 v7 v44 S1)
theorem a9k{E:d6}{w0:i5}{Q:D→b4→Prop}{a0 a1:D}{S:b4}(h:a6b E w0 (b9 E Q) a0 a1 S):r8 Try.prog E w0 J3 [a0,a1] S Q:=
 o6 L8 L5 L6 (fn:=Try.f38) (c:=Try.f38.body.getD .skip) mixed Try.func38 (by kernel_rfl) (by kernel_rfl) h
def w9:List (Nat×List Nat):=[(14,[0,4,5,7,38,39,40]),(24,[0,4,5,7,8,38,39,40,57,58,59]),(42,[0,4,5,14,83]),(54,[0,5,14,16,94,95,96])]
def z7:List (Nat×List Nat):=[(66,[0,5,14,16,17,19,94,95,96])]
def z8:List (Nat×Arr):=[]
noncomputable def a0T:Code:=(f0 [1,1,1,1,1,0,1,0,0,1,1,0,0,1,1,1,0,1,0,0] (Try.f14.body.getD .skip))
def a0R(E:d6)(w0:i5)(N0:D→D→D→D→D→D→D→b4→Prop)(Q:D→b4→Prop):j2→List D→b4→Prop:=
 (i4 2 (J0 Try.prog E w0 w9 z7 z8 (f0 [1,1,1,1,1,0,1,0,0,1,1,0,0,1,1,1,1] (Try.f14.body.getD .skip)) (i4 1 (J0 Try.prog E w0 w9 z7 z8 (f0 [1,1,1,1,1,0,1,0,0,1,1,1] (Try.f14.body.getD .skip)) (m9 (fun T S=>N0 (T.getD 0 a8) (T.getD 4 a8) (T.getD 5 a8) (T.getD 7 a8) (T.getD 38 a8) (T.getD 39 a8) (T.getD 40 a8) S) (i4 0 (J0 Try.prog E w0 w9 z7 z8 (f0 [1,1,1,1,1,1] (Try.f14.body.getD .skip)) (E3 Try.prog Try.f14 Q))))))))
def a3N(E:d6)(w0:i5)(N0:D→D→D→D→D→D→D→b4→Prop)(N1:D→D→D→D→D→D→D→D→D→D→D→b4→Prop)(Q:D→b4→Prop)(x0 x4 x5 x7 x8 x38 x39 x40 x57 x58 x59:D)(S:b4):Prop:=
 b5 (d4 .lss x59 x58) fun v34=>
 g8 v34
 (b5 (j5 1 x57 x59) fun v35=>
 b5 (c9 S v35) fun v36=>
 b5 (a6g S 0 (.int .i64 0) false x7 v36) fun v37=>
 b5 (d4 .add v37 (.int .i64 1)) fun v38=>
 b2l S 0 x7 v36 v38 fun v39 S40=>
 b5 (d4 .add x59 (.int .i64 1)) fun v41=>
 N1 x0 x4 x5 x7 x8 x38 x39 x40 x57 x58 v41 S40)
 (b5 (d4 .add x8 (.int .i64 1)) fun v42=>
 b5 (m6 x4) fun v43=>
 b5 (d4 .lss v42 v43) fun v44=>
 g8 v44
 (b5 (d4 .add x8 (.int .i64 1)) fun v45=>
 b5 (j5 1 x5 v45) fun v46=>
 b5 (c9 S v46) fun v47=>
 b5 (a6g S 0 (.int .i64 0) false x7 v47) fun v48=>
 b5 (d4 .add v48 (.int .i64 1)) fun v49=>
 b2l S 0 x7 v47 v49 fun v50 S51=>
 b5 (d4 .add x40 (.int .i64 1)) fun v52=>
 N0 x0 x4 x5 x7 x38 x39 v52 S51)
 (b5 (d4 .add x40 (.int .i64 1)) fun v53=>
 N0 x0 x4 x5 x7 x38 x39 v53 S))
theorem b1b{E:d6}{w0:i5}{N0:D→D→D→D→D→D→D→b4→Prop}{N1:D→D→D→D→D→D→D→D→D→D→D→b4→Prop}{Q:D→b4→Prop}{x0 x4 x5 x7 x8 x38 x39 x40 x57 x58 x59:D}{S:b4}(h:a3N E w0 N0 N1 Q x0 x4 x5 x7 x8 x38 x39 x40 x57 x58 x59 S):
  b8 Try.prog E w0 a0T (d8 173 [0,4,5,7,8,38,39,40,57,58,59] [x0,x4,x5,x7,x8,x38,x39,x40,x57,x58,x59]) S (m9 (fun T S=>N1 (T.getD 0 a8) (T.getD 4 a8) (T.getD 5 a8) (T.getD 7 a8) (T.getD 8 a8) (T.getD 38 a8) (T.getD 39 a8) (T.getD 40 a8) (T.getD 57 a8) (T.getD 58 a8) (T.getD 59 a8) S) (a0R E w0 N0 Q)):=d5 w9 z7 z8 mixed (by kernel_rfl) h
theorem b0O{E:d6}{w0:i5}{N0:D→D→D→D→D→D→D→b4→Prop}{Q:D→b4→Prop}(I:Nat→D→D→D→D→D→D→D→D→D→D→D→b4→Prop)
  (step:∀n x0 x4 x5 x7 x8 x38 x39 x40 x57 x58 x59 S,I n x0 x4 x5 x7 x8 x38 x39 x40 x57 x58 x59 S→a3N E w0 N0 (fun x0 x4 x5 x7 x8 x38 x39 x40 x57 x58 x59 S=>∃m,m<n∧I m x0 x4 x5 x7 x8 x38 x39 x40 x57 x58 x59 S) Q x0 x4 x5 x7 x8 x38 x39 x40 x57 x58 x59 S)
  {n:Nat} {x0 x4 x5 x7 x8 x38 x39 x40 x57 x58 x59:D} {S:b4} (h:I n x0 x4 x5 x7 x8 x38 x39 x40 x57 x58 x59 S):b8 Try.prog E w0 (.loop a0T) (d8 173 [0,4,5,7,8,38,39,40,57,58,59] [x0,x4,x5,x7,x8,x38,x39,x40,x57,x58,x59]) S (a0R E w0 N0 Q):=
 j7 (k:=173) (n:=n) (I:=fun n T S=>I n (T.getD 0 a8) (T.getD 4 a8) (T.getD 5 a8) (T.getD 7 a8) (T.getD 8 a8) (T.getD 38 a8) (T.getD 39 a8) (T.getD 40 a8) (T.getD 57 a8) (T.getD 58 a8) (T.getD 59 a8) S) (fun n T S hl hI=>l9 [0,4,5,7,8,38,39,40,57,58,59] hl (b8.mono (b1b (step n _ _ _ _ _ _ _ _ _ _ _ S hI)) fun ex T' S' _ hq=>by cases ex<;>exact hq)) (f9 ..) (Eq.mp (by kernel_rfl) h)
noncomputable def b3u:Code:=(f0 [1,1,1,1,1,1,1,1,1,1,0,1,0,0,1,1,0,0,1,1,1] (Try.f14.body.getD .skip))
def b2F(E:d6)(w0:i5)(N3:D→D→D→D→D→D→D→b4→Prop)(Q:D→b4→Prop):j2→List D→b4→Prop:=
 (i4 7 (J0 Try.prog E w0 w9 z7 z8 (f0 [1,1,1,1,1,1,1,1,1,1,0,1,0,0,1,1,1] (Try.f14.body.getD .skip)) (m9 (fun T S=>N3 (T.getD 0 a8) (T.getD 5 a8) (T.getD 14 a8) (T.getD 16 a8) (T.getD 94 a8) (T.getD 95 a8) (T.getD 96 a8) S) (i4 6 (J0 Try.prog E w0 w9 z7 z8 (f0 [1,1,1,1,1,1,1,1,1,1,1] (Try.f14.body.getD .skip)) (E3 Try.prog Try.f14 Q))))))
def a5H(E:d6)(w0:i5)(N3:D→D→D→D→D→D→D→b4→Prop)(Q:D→b4→Prop)(x0 x5 x14 x16 x17 x19 x94 x95 x96:D)(S:b4):Prop:=
 b5 (m6 x16) fun v84=>
 b5 (d4 .sub v84 (.int .i64 1)) fun v85=>
 b5 (j5 3 x16 v85) fun v86=>
 b5 (d4 .add x17 (.int .i64 1)) fun v87=>
 b5 (j5 1 x5 v87) fun v88=>
 b5 (c9 S v88) fun v89=>
 b5 (a3O v86) fun v90=>
 b5 (t8 1 v90) fun v91=>
 j4 S 1 v91 v89 fun v92 S93=>
 b5 (a3O v86) fun v94=>
 b5 (t8 2 v94) fun v95=>
 j4 S93 1 v95 x19 fun v96 S97=>
 b5 (d4 .add x96 (.int .i64 1)) fun v98=>
 N3 x0 x5 x14 x16 x94 x95 v98 S97
def P6(E:d6)(w0:i5)(N3:D→D→D→D→D→D→D→b4→Prop)(Q:D→b4→Prop)(x0 x5 x14 x16 x17 x19 x94 x95 x96:D)(S:b4):Prop:=b8 Try.prog E w0 b3u (d8 173 [0,5,14,16,17,19,94,95,96] [x0,x5,x14,x16,x17,x19,x94,x95,x96]) S (b2F E w0 N3 Q)
theorem a9K{E:d6}{w0:i5}{N3:D→D→D→D→D→D→D→b4→Prop}{Q:D→b4→Prop}{x0 x5 x14 x16 x17 x19 x94 x95 x96:D}{S:b4}(h:a5H E w0 N3 Q x0 x5 x14 x16 x17 x19 x94 x95 x96 S):P6 E w0 N3 Q x0 x5 x14 x16 x17 x19 x94 x95 x96 S:=d5 w9 z7 z8 mixed (by kernel_rfl) h
noncomputable def W7:Code:=(f0 [1,1,1,1,1,1,1,1,1,1,0,1,0,0] (Try.f14.body.getD .skip))
def W6(E:d6)(w0:i5)(Q:D→b4→Prop):j2→List D→b4→Prop:=
 (i4 6 (J0 Try.prog E w0 w9 z7 z8 (f0 [1,1,1,1,1,1,1,1,1,1,1] (Try.f14.body.getD .skip)) (E3 Try.prog Try.f14 Q)))
def a3H(E:d6)(w0:i5)(N3:D→D→D→D→D→D→D→b4→Prop)(Q:D→b4→Prop)(x0 x5 x14 x16 x94 x95 x96:D)(S:b4):Prop:=
 b5 (d4 .lss x96 x95) fun v69=>
 g8 v69
 (b5 (j5 4 x94 x96) fun v70=>
 b5 (s8 S 4 v70) fun v71=>
 q7 S [(.int .u8 0),(.int .i64 0),(.int .i64 0), .nilSlc] fun v72 S73=>
 j4 S73 4 v72 v71 fun v74 S75=>
 b5 (s8 S75 4 v72) fun v76=>
 b5 (d4 .add x96 (.int .i64 1)) fun v77=>
 b5 (j5 1 x5 v77) fun v78=>
 b5 (c9 S75 v78) fun v79=>
 r8 Try.prog E w0 J3 [v76,v79] S75 fun v80 S81=>
 b5 (u4 v80 0) fun v82=>
 b5 (u4 v80 1) fun v83=>
 b5 (m6 x14) fun v99=>
 b5 (d4 .gtr v99 (.int .i64 0)) fun v100=>
 b5 (d9 (b7 v100 true) (some x14)) fun v101=>
 b5 (d9 (b7 v100 true) (j5 1 v101 (.int .i64 0))) fun v102=>
 b5 (d9 (b7 v100 true) (c9 S81 v102)) fun v103=>
 b5 (d9 (b7 v100 true) (some x5)) fun v104=>
 b5 (d9 (b7 v100 true) (some x96)) fun v105=>
 b5 (d9 (b7 v100 true) (j5 1 v104 v105)) fun v106=>
 b5 (d9 (b7 v100 true) (c9 S81 v106)) fun v107=>
 b5 (d9 (b7 v100 true) (d4 .eql v103 v107)) fun v108=>
 b5 (H5 v100 v108 (.bool false)) fun v109=>
 g8 v109
 (b5 (N6 1 x14 (some (.int .i64 1)) none none) fun v110=>
 b5 (j5 1 x5 x96) fun v111=>
 b5 (c9 S81 v111) fun v112=>
 b5 (E4 (s9 [(.int .i64 0),(.int .i64 0), .nilSlc] [(0,1,v112)])) fun v113=>
 I4 S81 3 (s4 3 (List.replicate 1 [(.int .i64 0),(.int .i64 0), .nilSlc]) [(0,v113)]) 1 fun v114 S115=>
 s0 S115 3 40 x16 v114 fun v116 S117=>
 P6 E w0 N3 Q x0 x5 v110 v116 x96 v82 x94 x95 x96 S117)
 (P6 E w0 N3 Q x0 x5 x14 x16 x96 v82 x94 x95 x96 S81))
 (b5 (m6 x14) fun v118=>
 b5 (d4 .gtr v118 (.int .i64 0)) fun v119=>
 b5 (d9 (b7 v119 false) (some x16)) fun v120=>
 b5 (d9 (b7 v119 false) (m6 v120)) fun v121=>
 b5 (d9 (b7 v119 false) (d4 .eql v121 (.int .i64 0))) fun v122=>
 b5 (H5 v119 (.bool true) v122) fun v123=>
 b5 (d9 (b7 v123 false) (some x16)) fun v124=>
 b5 (d9 (b7 v123 false) (some x16)) fun v125=>
 b5 (d9 (b7 v123 false) (m6 v125)) fun v126=>
 b5 (d9 (b7 v123 false) (d4 .sub v126 (.int .i64 1))) fun v127=>
 b5 (d9 (b7 v123 false) (j5 3 v124 v127)) fun v128=>
 b5 (d9 (b7 v123 false) (t8 2 v128)) fun v129=>
 b5 (d9 (b7 v123 false) (c9 S v129)) fun v130=>
 b5 (d9 (b7 v123 false) (some x0)) fun v131=>
 b5 (d9 (b7 v123 false) (m6 v131)) fun v132=>
 Z6 (b7 v123 false) (fun K=>r8 Try.prog E w0 M6 [v130,v132] S K) S fun v133 S134=>
 b5 (H5 v123 (.bool true) v133) fun v135=>
 g8 v135
 (Q (.tup [.nilSlc,(.int .i64 190)]) S134)
 (Q (.tup [x16,(.int .i64 0)]) S134))
theorem b0V{E:d6}{w0:i5}{N3:D→D→D→D→D→D→D→b4→Prop}{Q:D→b4→Prop}{x0 x5 x14 x16 x94 x95 x96:D}{S:b4}(h:a3H E w0 N3 Q x0 x5 x14 x16 x94 x95 x96 S):
  b8 Try.prog E w0 W7 (d8 173 [0,5,14,16,94,95,96] [x0,x5,x14,x16,x94,x95,x96]) S (m9 (fun T S=>N3 (T.getD 0 a8) (T.getD 5 a8) (T.getD 14 a8) (T.getD 16 a8) (T.getD 94 a8) (T.getD 95 a8) (T.getD 96 a8) S) (W6 E w0 Q)):=d5 w9 z7 z8 mixed (by kernel_rfl) h
theorem b0N{E:d6}{w0:i5}{Q:D→b4→Prop}(I:Nat→D→D→D→D→D→D→D→b4→Prop)
  (step:∀n x0 x5 x14 x16 x94 x95 x96 S,I n x0 x5 x14 x16 x94 x95 x96 S→a3H E w0 (fun x0 x5 x14 x16 x94 x95 x96 S=>∃m,m<n∧I m x0 x5 x14 x16 x94 x95 x96 S) Q x0 x5 x14 x16 x94 x95 x96 S)
  {n:Nat} {x0 x5 x14 x16 x94 x95 x96:D} {S:b4} (h:I n x0 x5 x14 x16 x94 x95 x96 S):b8 Try.prog E w0 (.loop W7) (d8 173 [0,5,14,16,94,95,96] [x0,x5,x14,x16,x94,x95,x96]) S (W6 E w0 Q):=
 j7 (k:=173) (n:=n) (I:=fun n T S=>I n (T.getD 0 a8) (T.getD 5 a8) (T.getD 14 a8) (T.getD 16 a8) (T.getD 94 a8) (T.getD 95 a8) (T.getD 96 a8) S) (fun n T S hl hI=>l9 [0,5,14,16,94,95,96] hl (b8.mono (b0V (step n _ _ _ _ _ _ _ S hI)) fun ex T' S' _ hq=>by cases ex<;>exact hq)) (f9 ..) (Eq.mp (by kernel_rfl) h)
noncomputable def V4:Code:=(f0 [1,1,1,1,1,1,1,0,1,0,0] (Try.f14.body.getD .skip))
def W5(E:d6)(w0:i5)(Q:D→b4→Prop):j2→List D→b4→Prop:=
 (i4 4 (J0 Try.prog E w0 w9 z7 z8 (f0 [1,1,1,1,1,1,1,1] (Try.f14.body.getD .skip)) (E3 Try.prog Try.f14 Q)))
def a3A(E:d6)(w0:i5)(N2:D→D→D→D→D→b4→Prop)(Q:D→b4→Prop)(x0 x4 x5 x14 x83:D)(S:b4):Prop:=
 b6c S x83 fun v56 S57=>
 b5 (u4 v56 0) fun v58=>
 g8 v58
 (b0u S57 x83 fun v59 S60=>
 b5 (u4 v59 0) fun v61=>
 I4 S60 1 (s4 1 (List.replicate 1 [(.int .i64 0)]) [(0,v61)]) 1 fun v62 S63=>
 s0 S63 1 8 x14 v62 fun v64 S65=>
 N2 x0 x4 x5 v64 x83 S65)
 (r8 Try.prog E w0 I0 [x14] S57 fun v66 S67=>
 b5 (m6 x4) fun v68=>
 b8 Try.prog E w0 (.loop W7) (d8 173 [0,5,14,16,94,95,96] [x0,x5,x14, .nilSlc,x4,v68,(.int .i64 0)]) S67 (W6 E w0 Q))
theorem b1a{E:d6}{w0:i5}{N2:D→D→D→D→D→b4→Prop}{Q:D→b4→Prop}{x0 x4 x5 x14 x83:D}{S:b4}(h:a3A E w0 N2 Q x0 x4 x5 x14 x83 S):
  b8 Try.prog E w0 V4 (d8 173 [0,4,5,14,83] [x0,x4,x5,x14,x83]) S (m9 (fun T S=>N2 (T.getD 0 a8) (T.getD 4 a8) (T.getD 5 a8) (T.getD 14 a8) (T.getD 83 a8) S) (W5 E w0 Q)):=d5 w9 z7 z8 mixed (by kernel_rfl) h
theorem b1p{E:d6}{w0:i5}{Q:D→b4→Prop}(I:Nat→D→D→D→D→D→b4→Prop)
  (step:∀n x0 x4 x5 x14 x83 S,I n x0 x4 x5 x14 x83 S→a3A E w0 (fun x0 x4 x5 x14 x83 S=>∃m,m<n∧I m x0 x4 x5 x14 x83 S) Q x0 x4 x5 x14 x83 S)
  {n:Nat} {x0 x4 x5 x14 x83:D} {S:b4} (h:I n x0 x4 x5 x14 x83 S):b8 Try.prog E w0 (.loop V4) (d8 173 [0,4,5,14,83] [x0,x4,x5,x14,x83]) S (W5 E w0 Q):=
 j7 (k:=173) (n:=n) (I:=fun n T S=>I n (T.getD 0 a8) (T.getD 4 a8) (T.getD 5 a8) (T.getD 14 a8) (T.getD 83 a8) S) (fun n T S hl hI=>l9 [0,4,5,14,83] hl (b8.mono (b1a (step n _ _ _ _ _ S hI)) fun ex T' S' _ hq=>by cases ex<;>exact hq)) (f9 ..) (Eq.mp (by kernel_rfl) h)
noncomputable def a0U:Code:=(f0 [1,1,1,1,1,0,1,0,0] (Try.f14.body.getD .skip))
def a0V(E:d6)(w0:i5)(Q:D→b4→Prop):j2→List D→b4→Prop:=
 (i4 0 (J0 Try.prog E w0 w9 z7 z8 (f0 [1,1,1,1,1,1] (Try.f14.body.getD .skip)) (E3 Try.prog Try.f14 Q)))
def a3I(E:d6)(w0:i5)(N0:D→D→D→D→D→D→D→b4→Prop)(Q:D→b4→Prop)(x0 x4 x5 x7 x38 x39 x40:D)(S:b4):Prop:=
 b5 (d4 .lss x40 x39) fun v16=>
 g8 v16
 (b5 (j5 4 x38 x40) fun v17=>
 b5 (s8 S 4 v17) fun v18=>
 q7 S [(.int .u8 0),(.int .i64 0),(.int .i64 0), .nilSlc] fun v19 S20=>
 j4 S20 4 v19 v18 fun v21 S22=>
 b5 (s8 S22 4 v19) fun v23=>
 b5 (d4 .add x40 (.int .i64 1)) fun v24=>
 b5 (j5 1 x5 v24) fun v25=>
 b5 (c9 S22 v25) fun v26=>
 r8 Try.prog E w0 J3 [v23,v26] S22 fun v27 S28=>
 b5 (u4 v27 0) fun v29=>
 b5 (u4 v27 1) fun v30=>
 b5 (unD .not v30) fun v31=>
 g8 v31
 (b5 (d4 .add x40 (.int .i64 1)) fun v32=>
 N0 x0 x4 x5 x7 x38 x39 v32 S28)
 (b5 (m6 v29) fun v33=>
 b8 Try.prog E w0 (.loop a0T) (d8 173 [0,4,5,7,8,38,39,40,57,58,59] [x0,x4,x5,x7,x40,x38,x39,x40,v29,v33,(.int .i64 0)]) S28 (a0R E w0 N0 Q)))
 (a8E S x7 fun v54 S55=>
 b8 Try.prog E w0 (.loop V4) (d8 173 [0,4,5,14,83] [x0,x4,x5, .nilSlc,v54]) S55 (W5 E w0 Q))
theorem b0t{E:d6}{w0:i5}{N0:D→D→D→D→D→D→D→b4→Prop}{Q:D→b4→Prop}{x0 x4 x5 x7 x38 x39 x40:D}{S:b4}(h:a3I E w0 N0 Q x0 x4 x5 x7 x38 x39 x40 S):
  b8 Try.prog E w0 a0U (d8 173 [0,4,5,7,38,39,40] [x0,x4,x5,x7,x38,x39,x40]) S (m9 (fun T S=>N0 (T.getD 0 a8) (T.getD 4 a8) (T.getD 5 a8) (T.getD 7 a8) (T.getD 38 a8) (T.getD 39 a8) (T.getD 40 a8) S) (a0V E w0 Q)):=d5 w9 z7 z8 mixed (by kernel_rfl) h
theorem b1z{E:d6}{w0:i5}{Q:D→b4→Prop}(I:Nat→D→D→D→D→D→D→D→b4→Prop)
  (step:∀n x0 x4 x5 x7 x38 x39 x40 S,I n x0 x4 x5 x7 x38 x39 x40 S→a3I E w0 (fun x0 x4 x5 x7 x38 x39 x40 S=>∃m,m<n∧I m x0 x4 x5 x7 x38 x39 x40 S) Q x0 x4 x5 x7 x38 x39 x40 S)
  {n:Nat} {x0 x4 x5 x7 x38 x39 x40:D} {S:b4} (h:I n x0 x4 x5 x7 x38 x39 x40 S):b8 Try.prog E w0 (.loop a0U) (d8 173 [0,4,5,7,38,39,40] [x0,x4,x5,x7,x38,x39,x40]) S (a0V E w0 Q):=
 j7 (k:=173) (n:=n) (I:=fun n T S=>I n (T.getD 0 a8) (T.getD 4 a8) (T.getD 5 a8) (T.getD 7 a8) (T.getD 38 a8) (T.getD 39 a8) (T.getD 40 a8) S) (fun n T S hl hI=>l9 [0,4,5,7,38,39,40] hl (b8.mono (b0t (step n _ _ _ _ _ _ _ S hI)) fun ex T' S' _ hq=>by cases ex<;>exact hq)) (f9 ..) (Eq.mp (by kernel_rfl) h)
def b1N(E:d6)(w0:i5)(Q:D→b4→Prop)(a0:D)(S:b4):Prop:=
 r8 Try.prog E w0 a6N [a0] S fun v0 S1=>
 b5 (u4 v0 0) fun v2=>
 b5 (u4 v0 1) fun v3=>
 b5 (u4 v0 2) fun v4=>
 b5 (d4 .neq v4 (.int .i64 0)) fun v5=>
 g8 v5
 (Q (.tup [.nilSlc,v4]) S1)
 (b5 (m6 a0) fun v6=>
 I4 S1 1 (s4 1 (List.replicate 1 [(.int .i64 0)]) [(0,v6)]) 1 fun v7 S8=>
 s0 S8 1 8 v3 v7 fun v9 S10=>
 b2X S10 fun v11 S12=>
 b2l S12 0 v11 (.int .i64 0) (.int .i64 0) fun v13 S14=>
 b5 (m6 v2) fun v15=>
 b8 Try.prog E w0 (.loop a0U) (d8 173 [0,4,5,7,38,39,40] [a0,v2,v9,v11,v2,v15,(.int .i64 0)]) S14 (a0V E w0 Q))
theorem b4N{E:d6}{w0:i5}{Q:D→b4→Prop}{a0:D}{S:b4}(h:b1N E w0 (b9 E Q) a0 S):r8 Try.prog E w0 a3v [a0] S Q:=
 o6 w9 z7 z8 (fn:=Try.f14) (c:=Try.f14.body.getD .skip) mixed Try.func14 (by kernel_rfl) (by kernel_rfl) h
def G9:List (Nat×List Nat):=[(6,[0,3,4]),(20,[0,3,5,6]),(32,[0,3,5,6,58,59,60])]
def G6:List (Nat×List Nat):=[(20,[0,3,5,6]),(44,[5])]
def G7:List (Nat×Arr):=[]
noncomputable def H4:Code:=(f0 [1,1,1,1,1,1,1] (Try.f18.body.getD .skip))
def a8k(E:d6)(w0:i5)(Q:D→b4→Prop):j2→List D→b4→Prop:=
 (E3 Try.prog Try.f18 Q)
def N8(E:d6)(w0:i5)(Q:D→b4→Prop)(x5:D)(S:b4):Prop:=b8 Try.prog E w0 H4 (d8 79 [5] [x5]) S (a8k E w0 Q)
noncomputable def R9:Code:=(f0 [1,1,1,1,1,1,0,0,0,1,0,1,1,1,1,1,0,0] (Try.f18.body.getD .skip))
def R6(E:d6)(w0:i5)(N1:D→D→D→D→b4→Prop)(Q:D→b4→Prop):j2→List D→b4→Prop:=
 (i4 4 (i4 3 (m9 (fun T S=>N1 (T.getD 0 a8) (T.getD 3 a8) (T.getD 5 a8) (T.getD 6 a8) S) (i4 2 (a7h Try.prog E w0 79 [5] H4 (E3 Try.prog Try.f18 Q))))))
def a0B(E:d6)(w0:i5)(N1:D→D→D→D→b4→Prop)(N2:D→D→D→D→D→D→D→b4→Prop)(Q:D→b4→Prop)(x0 x3 x5 x6 x58 x59 x60:D)(S:b4):Prop:=
 b5 (d4 .lss x60 x59) fun v43=>
 g8 v43
 (b5 (j5 1 x58 x60) fun v44=>
 b5 (c9 S v44) fun v45=>
 b5 (a6g S 0 (.int .i64 0) true x3 v45) fun v46=>
 b5 (u4 v46 0) fun v47=>
 b5 (u4 v46 1) fun v48=>
 g8 v48
 (I4 S 1 (s4 1 (List.replicate 1 [(.int .i64 0)]) [(0,v47)]) 1 fun v49 S50=>
 s0 S50 1 8 x6 v49 fun v51 S52=>
 b5 (d4 .add x60 (.int .i64 1)) fun v53=>
 N2 x0 x3 x5 v51 x58 x59 v53 S52)
 (b5 (d4 .add x60 (.int .i64 1)) fun v54=>
 N2 x0 x3 x5 x6 x58 x59 v54 S))
 (N1 x0 x3 x5 x6 S)
theorem a7g{E:d6}{w0:i5}{N1:D→D→D→D→b4→Prop}{N2:D→D→D→D→D→D→D→b4→Prop}{Q:D→b4→Prop}{x0 x3 x5 x6 x58 x59 x60:D}{S:b4}(h:a0B E w0 N1 N2 Q x0 x3 x5 x6 x58 x59 x60 S):
  b8 Try.prog E w0 R9 (d8 79 [0,3,5,6,58,59,60] [x0,x3,x5,x6,x58,x59,x60]) S (m9 (fun T S=>N2 (T.getD 0 a8) (T.getD 3 a8) (T.getD 5 a8) (T.getD 6 a8) (T.getD 58 a8) (T.getD 59 a8) (T.getD 60 a8) S) (R6 E w0 N1 Q)):=d5 G9 G6 G7 mixed (by kernel_rfl) h
theorem a7y{E:d6}{w0:i5}{N1:D→D→D→D→b4→Prop}{Q:D→b4→Prop}(I:Nat→D→D→D→D→D→D→D→b4→Prop)
  (step:∀n x0 x3 x5 x6 x58 x59 x60 S,I n x0 x3 x5 x6 x58 x59 x60 S→a0B E w0 N1 (fun x0 x3 x5 x6 x58 x59 x60 S=>∃m,m<n∧I m x0 x3 x5 x6 x58 x59 x60 S) Q x0 x3 x5 x6 x58 x59 x60 S)
  {n:Nat} {x0 x3 x5 x6 x58 x59 x60:D} {S:b4} (h:I n x0 x3 x5 x6 x58 x59 x60 S):b8 Try.prog E w0 (.loop R9) (d8 79 [0,3,5,6,58,59,60] [x0,x3,x5,x6,x58,x59,x60]) S (R6 E w0 N1 Q):=
 j7 (k:=79) (n:=n) (I:=fun n T S=>I n (T.getD 0 a8) (T.getD 3 a8) (T.getD 5 a8) (T.getD 6 a8) (T.getD 58 a8) (T.getD 59 a8) (T.getD 60 a8) S) (fun n T S hl hI=>l9 [0,3,5,6,58,59,60] hl (b8.mono (a7g (step n _ _ _ _ _ _ _ S hI)) fun ex T' S' _ hq=>by cases ex<;>exact hq)) (f9 ..) (Eq.mp (by kernel_rfl) h)
noncomputable def R4:Code:=(f0 [1,1,1,1,1,1,0,0,0] (Try.f18.body.getD .skip))
def R8(E:d6)(w0:i5)(Q:D→b4→Prop):j2→List D→b4→Prop:=
 (i4 2 (a7h Try.prog E w0 79 [5] H4 (E3 Try.prog Try.f18 Q)))
def a0O(E:d6)(w0:i5)(N1:D→D→D→D→b4→Prop)(Q:D→b4→Prop)(x0 x3 x5 x6:D)(S:b4):Prop:=
 b5 (m6 x6) fun v17=>
 b5 (d4 .gtr v17 (.int .i64 0)) fun v18=>
 g8 v18
 (b5 (m6 x6) fun v19=>
 b5 (d4 .sub v19 (.int .i64 1)) fun v20=>
 b5 (j5 1 x6 v20) fun v21=>
 b5 (c9 S v21) fun v22=>
 b5 (j5 3 x0 v22) fun v23=>
 b5 (s8 S 3 v23) fun v24=>
 q7 S [(.int .i64 0),(.int .i64 0), .nilSlc] fun v25 S26=>
 j4 S26 3 v25 v24 fun v27 S28=>
 b5 (m6 x6) fun v29=>
 b5 (d4 .sub v29 (.int .i64 1)) fun v30=>
 b5 (N6 1 x6 none (some v30) none) fun v31=>
 b5 (t8 0 v25) fun v32=>
 b5 (c9 S28 v32) fun v33=>
 b5 (a6g S28 0 (.int .i64 0) false x5 v33) fun v34=>
 b5 (d4 .gtr v34 (.int .i64 0)) fun v35=>
 g8 v35
 (N1 x0 x3 x5 v31 S28)
 (b5 (t8 0 v25) fun v36=>
 b5 (c9 S28 v36) fun v37=>
 b2l S28 0 x5 v37 (.int .i64 1) fun v38 S39=>
 b5 (t8 2 v25) fun v40=>
 b5 (c9 S39 v40) fun v41=>
 b5 (m6 v41) fun v42=>
 b8 Try.prog E w0 (.loop R9) (d8 79 [0,3,5,6,58,59,60] [x0,x3,x5,v31,v41,v42,(.int .i64 0)]) S39 (R6 E w0 N1 Q)))
 (N8 E w0 Q x5 S)
theorem a7u{E:d6}{w0:i5}{N1:D→D→D→D→b4→Prop}{Q:D→b4→Prop}{x0 x3 x5 x6:D}{S:b4}(h:a0O E w0 N1 Q x0 x3 x5 x6 S):
  b8 Try.prog E w0 R4 (d8 79 [0,3,5,6] [x0,x3,x5,x6]) S (m9 (fun T S=>N1 (T.getD 0 a8) (T.getD 3 a8) (T.getD 5 a8) (T.getD 6 a8) S) (R8 E w0 Q)):=d5 G9 G6 G7 mixed (by kernel_rfl) h
theorem a7f{E:d6}{w0:i5}{Q:D→b4→Prop}(I:Nat→D→D→D→D→b4→Prop)
  (step:∀n x0 x3 x5 x6 S,I n x0 x3 x5 x6 S→a0O E w0 (fun x0 x3 x5 x6 S=>∃m,m<n∧I m x0 x3 x5 x6 S) Q x0 x3 x5 x6 S)
  {n:Nat} {x0 x3 x5 x6:D} {S:b4} (h:I n x0 x3 x5 x6 S):b8 Try.prog E w0 (.loop R4) (d8 79 [0,3,5,6] [x0,x3,x5,x6]) S (R8 E w0 Q):=
 j7 (k:=79) (n:=n) (I:=fun n T S=>I n (T.getD 0 a8) (T.getD 3 a8) (T.getD 5 a8) (T.getD 6 a8) S) (fun n T S hl hI=>l9 [0,3,5,6] hl (b8.mono (a7u (step n _ _ _ _ S hI)) fun ex T' S' _ hq=>by cases ex<;>exact hq)) (f9 ..) (Eq.mp (by kernel_rfl) h)
noncomputable def b0j:Code:=(f0 [1,1,1,1,1,1] (Try.f18.body.getD .skip))
def a8L(E:d6)(w0:i5)(Q:D→b4→Prop):j2→List D→b4→Prop:=
 (E3 Try.prog Try.f18 Q)
def a3g(E:d6)(w0:i5)(Q:D→b4→Prop)(x0 x3 x5 x6:D)(S:b4):Prop:=
 b8 Try.prog E w0 (.loop R4) (d8 79 [0,3,5,6] [x0,x3,x5,x6]) S (R8 E w0 Q)
def D5(E:d6)(w0:i5)(Q:D→b4→Prop)(x0 x3 x5 x6:D)(S:b4):Prop:=b8 Try.prog E w0 b0j (d8 79 [0,3,5,6] [x0,x3,x5,x6]) S (a8L E w0 Q)
theorem a6A{E:d6}{w0:i5}{Q:D→b4→Prop}{x0 x3 x5 x6:D}{S:b4}(h:a3g E w0 Q x0 x3 x5 x6 S):D5 E w0 Q x0 x3 x5 x6 S:=d5 G9 G6 G7 mixed (by kernel_rfl) h
noncomputable def R5:Code:=(f0 [1,1,0,1,0,0] (Try.f18.body.getD .skip))
def U1(E:d6)(w0:i5)(Q:D→b4→Prop):j2→List D→b4→Prop:=
 (i4 0 (J0 Try.prog E w0 G9 G6 G7 (f0 [1,1,1] (Try.f18.body.getD .skip)) (E3 Try.prog Try.f18 Q)))
def a0J(E:d6)(w0:i5)(N0:D→D→D→b4→Prop)(Q:D→b4→Prop)(x0 x3 x4:D)(S:b4):Prop:=
 b5 (d4 .geq x4 (.int .i64 0)) fun v4=>
 g8 v4
 (b5 (j5 3 x0 x4) fun v5=>
 b5 (t8 0 v5) fun v6=>
 b5 (c9 S v6) fun v7=>
 b2l S 0 x3 v7 x4 fun v8 S9=>
 b5 (d4 .sub x4 (.int .i64 1)) fun v10=>
 N0 x0 x3 v10 S9)
 (b2X S fun v11 S12=>
 b5 (m6 x0) fun v55=>
 b5 (d4 .gtr v55 (.int .i64 0)) fun v56=>
 g8 v56
 (I4 S12 1 (s4 1 (List.replicate 1 [(.int .i64 0)]) [(0,(.int .i64 0))]) 1 fun v57 S58=>
 D5 E w0 Q x0 x3 v11 v57 S58)
 (D5 E w0 Q x0 x3 v11 .nilSlc S12))
theorem a7x{E:d6}{w0:i5}{N0:D→D→D→b4→Prop}{Q:D→b4→Prop}{x0 x3 x4:D}{S:b4}(h:a0J E w0 N0 Q x0 x3 x4 S):
  b8 Try.prog E w0 R5 (d8 79 [0,3,4] [x0,x3,x4]) S (m9 (fun T S=>N0 (T.getD 0 a8) (T.getD 3 a8) (T.getD 4 a8) S) (U1 E w0 Q)):=d5 G9 G6 G7 mixed (by kernel_rfl) h
theorem a7z{E:d6}{w0:i5}{Q:D→b4→Prop}(I:Nat→D→D→D→b4→Prop)
  (step:∀n x0 x3 x4 S,I n x0 x3 x4 S→a0J E w0 (fun x0 x3 x4 S=>∃m,m<n∧I m x0 x3 x4 S) Q x0 x3 x4 S)
  {n:Nat} {x0 x3 x4:D} {S:b4} (h:I n x0 x3 x4 S):b8 Try.prog E w0 (.loop R5) (d8 79 [0,3,4] [x0,x3,x4]) S (U1 E w0 Q):=
 j7 (k:=79) (n:=n) (I:=fun n T S=>I n (T.getD 0 a8) (T.getD 3 a8) (T.getD 4 a8) S) (fun n T S hl hI=>l9 [0,3,4] hl (b8.mono (a7x (step n _ _ _ S hI)) fun ex T' S' _ hq=>by cases ex<;>exact hq)) (f9 ..) (Eq.mp (by kernel_rfl) h)
def a6i(E:d6)(w0:i5)(Q:D→b4→Prop)(a0:D)(S:b4):Prop:=
 b2X S fun v0 S1=>
 b5 (m6 a0) fun v2=>
 b5 (d4 .sub v2 (.int .i64 1)) fun v3=>
 b8 Try.prog E w0 (.loop R5) (d8 79 [0,3,4] [a0,v0,v3]) S1 (U1 E w0 Q)
theorem b0c{E:d6}{w0:i5}{Q:D→b4→Prop}{a0:D}{S:b4}(h:a6i E w0 (b9 E Q) a0 S):r8 Try.prog E w0 C0 [a0] S Q:=
 o6 G9 G6 G7 (fn:=Try.f18) (c:=Try.f18.body.getD .skip) mixed Try.func18 (by kernel_rfl) (by kernel_rfl) h
def a4I:List (Nat×List Nat):=[]
def a4A:List (Nat×List Nat):=[]
def a4Q:List (Nat×Arr):=[]
def a0v(E:d6)(w0:i5)(Q:D→b4→Prop)(a0 a1:D)(S:b4):Prop:=
 r8 Try.prog E w0 Y0 [a0,a1] S fun v0 S1=>
 b5 (d4 .geq v0 (.int .i64 0)) fun v2=>
 Q v2 S1
theorem a3L{E:d6}{w0:i5}{Q:D→b4→Prop}{a0 a1:D}{S:b4}(h:a0v E w0 (b9 E Q) a0 a1 S):r8 Try.prog E w0 M6 [a0,a1] S Q:=
 o6 a4I a4A a4Q (fn:=Try.f40) (c:=Try.f40.body.getD .skip) mixed Try.func40 (by kernel_rfl) (by kernel_rfl) h
def U4:List (Nat×List Nat):=[(4,[0,1,7,8])]
def U5:List (Nat×List Nat):=[]
def U8:List (Nat×Arr):=[]
noncomputable def O8:Code:=(f0 [1,0,1,0,0] (Try.f57.body.getD .skip))
def P2(E:d6)(w0:i5)(Q:D→b4→Prop):j2→List D→b4→Prop:=
 (i4 0 (J0 Try.prog E w0 U4 U5 U8 (f0 [1,1] (Try.f57.body.getD .skip)) (E3 Try.prog Try.f57 Q)))
def P7(E:d6)(w0:i5)(N0:D→D→D→D→b4→Prop)(Q:D→b4→Prop)(x0 x1 x7 x8:D)(S:b4):Prop:=
 b5 (d4 .lss x8 x7) fun v1=>
 g8 v1
 (b5 (j5 1 x0 x8) fun v2=>
 b5 (c9 S v2) fun v3=>
 b5 (d4 .eql x1 v3) fun v4=>
 g8 v4
 (Q x8 S)
 (b5 (d4 .add x8 (.int .i64 1)) fun v5=>
 N0 x0 x1 x7 v5 S))
 (Q (.int .i64 (-1)) S)
theorem a4m{E:d6}{w0:i5}{N0:D→D→D→D→b4→Prop}{Q:D→b4→Prop}{x0 x1 x7 x8:D}{S:b4}(h:P7 E w0 N0 Q x0 x1 x7 x8 S):
  b8 Try.prog E w0 O8 (d8 19 [0,1,7,8] [x0,x1,x7,x8]) S (m9 (fun T S=>N0 (T.getD 0 a8) (T.getD 1 a8) (T.getD 7 a8) (T.getD 8 a8) S) (P2 E w0 Q)):=d5 U4 U5 U8 mixed (by kernel_rfl) h
theorem a4a{E:d6}{w0:i5}{Q:D→b4→Prop}(I:Nat→D→D→D→D→b4→Prop)
  (step:∀n x0 x1 x7 x8 S,I n x0 x1 x7 x8 S→P7 E w0 (fun x0 x1 x7 x8 S=>∃m,m<n∧I m x0 x1 x7 x8 S) Q x0 x1 x7 x8 S)
  {n:Nat} {x0 x1 x7 x8:D} {S:b4} (h:I n x0 x1 x7 x8 S):b8 Try.prog E w0 (.loop O8) (d8 19 [0,1,7,8] [x0,x1,x7,x8]) S (P2 E w0 Q):=
 j7 (k:=19) (n:=n) (I:=fun n T S=>I n (T.getD 0 a8) (T.getD 1 a8) (T.getD 7 a8) (T.getD 8 a8) S) (fun n T S hl hI=>l9 [0,1,7,8] hl (b8.mono (a4m (step n _ _ _ _ S hI)) fun ex T' S' _ hq=>by cases ex<;>exact hq)) (f9 ..) (Eq.mp (by kernel_rfl) h)
def a2y(E:d6)(w0:i5)(Q:D→b4→Prop)(a0 a1:D)(S:b4):Prop:=
 b5 (m6 a0) fun v0=>
 b8 Try.prog E w0 (.loop O8) (d8 19 [0,1,7,8] [a0,a1,v0,(.int .i64 0)]) S (P2 E w0 Q)
theorem a5v{E:d6}{w0:i5}{Q:D→b4→Prop}{a0 a1:D}{S:b4}(h:a2y E w0 (b9 E Q) a0 a1 S):r8 Try.prog E w0 Y0 [a0,a1] S Q:=
 o6 U4 U5 U8 (fn:=Try.f57) (c:=Try.f57.body.getD .skip) mixed Try.func57 (by kernel_rfl) (by kernel_rfl) h
end Go.Proofs.Ytdkidgkiplcggaa.d
end
