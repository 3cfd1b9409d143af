/-
  BlocksCutsSaid: part Paz of its proof.
-/
import Derived.Test.YtdkidgkiplcggaaRows
import Derived.Test.YtdkidgkiplcggaaPar
import Derived.KernelRfl
set_option linter.unusedVariables false
set_option linter.unusedSimpArgs false
set_option maxRecDepth 100000
section
open Go.Proofs Go Go.Am
namespace Go.Proofs.Ytdkidgkiplcggaa.d
def F9:List (Nat×List Nat):=[(16,[0,4,5,7,8]),(28,[0,4,5,7,9,10])]
def F6:List (Nat×List Nat):=[(38,[0,4,5,7,9,10,11]),(42,[0,4,5,7,9,10,11])]
def F7:List (Nat×Arr):=[]
noncomputable def b8j:Code:=(i9 [1,1,1,1,1,1,1,0,1,0,0,1,0,0,1,1,1] (Try.f13.body.getD .skip))
def b5H(E:g8)(w0:j0)(N1:D→D→D→D→D→D→b5→Prop)(Q:D→b5→Prop):j7→List D→b5→Prop:=
 (p5 3 (L4 Try.prog E w0 F9 F6 F7 (i9 [1,1,1,1,1,1,1,0,1,0,0,1,1] (Try.f13.body.getD .skip)) (A3 (fun T S=>N1 (T.getD 0 b6) (T.getD 4 b6) (T.getD 5 b6) (T.getD 7 b6) (T.getD 9 b6) (T.getD 10 b6) S) (p5 2 (L4 Try.prog E w0 F9 F6 F7 (i9 [1,1,1,1,1,1,1,1] (Try.f13.body.getD .skip)) (F5 Try.prog Try.f13 Q))))))
def a9s(E:g8)(w0:j0)(N1:D→D→D→D→D→D→b5→Prop)(Q:D→b5→Prop)(x0 x4 x5 x7 x9 x10 x11:D)(S:b5):Prop:=
 b4 (j9 x9) fun v22=>
 b4 (d5 .sub v22 (.int .i64 1)) fun v23=>
 b4 (j5 3 x9 v23) fun v24=>
 b4 (p9 1 v24) fun v25=>
 j1 S 1 v25 x11 fun v26 S27=>
 b4 (j5 4 x4 x10) fun v28=>
 b4 (l9 S27 4 v28) fun v29=>
 p8 Try.prog E w0 R6 [v29,x11] S27 fun v30 S31=>
 b4 (j5 3 x9 v23) fun v32=>
 b4 (p9 2 v32) fun v33=>
 j1 S31 1 v33 v30 fun v34 S35=>
 b4 (d5 .add x10 (.int .i64 1)) fun v36=>
 N1 x0 x4 x5 x7 x9 v36 S35
def a1R(E:g8)(w0:j0)(N1:D→D→D→D→D→D→b5→Prop)(Q:D→b5→Prop)(x0 x4 x5 x7 x9 x10 x11:D)(S:b5):Prop:=f9 Try.prog E w0 b8j (i7 106 [0,4,5,7,9,10,11] [x0,x4,x5,x7,x9,x10,x11]) S (b5H E w0 N1 Q)
theorem b2W{E:g8}{w0:j0}{N1:D→D→D→D→D→D→b5→Prop}{Q:D→b5→Prop}{x0 x4 x5 x7 x9 x10 x11:D}{S:b5}(h:a9s E w0 N1 Q x0 x4 x5 x7 x9 x10 x11 S):a1R E w0 N1 Q x0 x4 x5 x7 x9 x10 x11 S:=g9 F9 F6 F7 mixed (by kernel_rfl) h
noncomputable def b7N:Code:=(i9 [1,1,1,1,1,1,1,0,1,0,0,1,0,0,1,1] (Try.f13.body.getD .skip))
def b6E(E:g8)(w0:j0)(N1:D→D→D→D→D→D→b5→Prop)(Q:D→b5→Prop):j7→List D→b5→Prop:=
 (p5 3 (L4 Try.prog E w0 F9 F6 F7 (i9 [1,1,1,1,1,1,1,0,1,0,0,1,1] (Try.f13.body.getD .skip)) (A3 (fun T S=>N1 (T.getD 0 b6) (T.getD 4 b6) (T.getD 5 b6) (T.getD 7 b6) (T.getD 9 b6) (T.getD 10 b6) S) (p5 2 (L4 Try.prog E w0 F9 F6 F7 (i9 [1,1,1,1,1,1,1,1] (Try.f13.body.getD .skip)) (F5 Try.prog Try.f13 Q))))))
def a9F(E:g8)(w0:j0)(N1:D→D→D→D→D→D→b5→Prop)(Q:D→b5→Prop)(x0 x4 x5 x7 x9 x10 x11:D)(S:b5):Prop:=
 b4 (j5 1 x5 x10) fun v37=>
 b4 (d9 S v37) fun v38=>
 p8 Try.prog E w0 a2i [x7,v38] S fun v39 S40=>
 i5 v39
 (b4 (j5 1 x5 x10) fun v41=>
 b4 (d9 S40 v41) fun v42=>
 b4 (B3 (l8 [(.int .i64 0),(.int .i64 0), .nilSlc] [(0,1,v42)])) fun v43=>
 C7 S40 3 (o7 3 (List.replicate 1 [(.int .i64 0),(.int .i64 0), .nilSlc]) [(0,v43)]) 1 fun v44 S45=>
 u4 S45 3 40 x9 v44 fun v46 S47=>
 a1R E w0 N1 Q x0 x4 x5 x7 v46 x10 x11 S47)
 (a1R E w0 N1 Q x0 x4 x5 x7 x9 x10 x11 S40)
def a1X(E:g8)(w0:j0)(N1:D→D→D→D→D→D→b5→Prop)(Q:D→b5→Prop)(x0 x4 x5 x7 x9 x10 x11:D)(S:b5):Prop:=f9 Try.prog E w0 b7N (i7 106 [0,4,5,7,9,10,11] [x0,x4,x5,x7,x9,x10,x11]) S (b6E E w0 N1 Q)
theorem b3d{E:g8}{w0:j0}{N1:D→D→D→D→D→D→b5→Prop}{Q:D→b5→Prop}{x0 x4 x5 x7 x9 x10 x11:D}{S:b5}(h:a9F E w0 N1 Q x0 x4 x5 x7 x9 x10 x11 S):a1X E w0 N1 Q x0 x4 x5 x7 x9 x10 x11 S:=g9 F9 F6 F7 mixed (by kernel_rfl) h
noncomputable def a6D:Code:=(i9 [1,1,1,1,1,1,1,0,1,0,0] (Try.f13.body.getD .skip))
def a5S(E:g8)(w0:j0)(Q:D→b5→Prop):j7→List D→b5→Prop:=
 (p5 2 (L4 Try.prog E w0 F9 F6 F7 (i9 [1,1,1,1,1,1,1,1] (Try.f13.body.getD .skip)) (F5 Try.prog Try.f13 Q)))
def a6B(E:g8)(w0:j0)(N1:D→D→D→D→D→D→b5→Prop)(Q:D→b5→Prop)(x0 x4 x5 x7 x9 x10:D)(S:b5):Prop:=
 b4 (j9 x4) fun v19=>
 b4 (d5 .lss x10 v19) fun v20=>
 i5 v20
 (b4 (j9 x0) fun v21=>
 b4 (d5 .add x10 (.int .i64 1)) fun v48=>
 b4 (j9 x4) fun v49=>
 b4 (d5 .lss v48 v49) fun v50=>
 i5 v50
 (b4 (d5 .add x10 (.int .i64 1)) fun v51=>
 b4 (j5 1 x5 v51) fun v52=>
 b4 (d9 S v52) fun v53=>
 a1X E w0 N1 Q x0 x4 x5 x7 x9 x10 v53 S)
 (a1X E w0 N1 Q x0 x4 x5 x7 x9 x10 v21 S))
 (b4 (j9 x9) fun v54=>
 b4 (d5 .sub v54 (.int .i64 1)) fun v55=>
 b4 (j5 3 x9 v55) fun v56=>
 b4 (l9 S 3 v56) fun v57=>
 o6 S [(.int .i64 0),(.int .i64 0), .nilSlc] fun v58 S59=>
 j1 S59 3 v58 v57 fun v60 S61=>
 b4 (p9 2 v58) fun v62=>
 b4 (d9 S61 v62) fun v63=>
 b4 (j9 x0) fun v64=>
 p8 Try.prog E w0 a2i [v63,v64] S61 fun v65 S66=>
 i5 v65
 (Q (.tup [.nilSlc,(.int .i64 190)]) S66)
 (Q (.tup [x9,(.int .i64 0)]) S66))
theorem b4v{E:g8}{w0:j0}{N1:D→D→D→D→D→D→b5→Prop}{Q:D→b5→Prop}{x0 x4 x5 x7 x9 x10:D}{S:b5}(h:a6B E w0 N1 Q x0 x4 x5 x7 x9 x10 S):
  f9 Try.prog E w0 a6D (i7 106 [0,4,5,7,9,10] [x0,x4,x5,x7,x9,x10]) S (A3 (fun T S=>N1 (T.getD 0 b6) (T.getD 4 b6) (T.getD 5 b6) (T.getD 7 b6) (T.getD 9 b6) (T.getD 10 b6) S) (a5S E w0 Q)):=g9 F9 F6 F7 mixed (by kernel_rfl) h
theorem b5c{E:g8}{w0:j0}{Q:D→b5→Prop}(I:Nat→D→D→D→D→D→D→b5→Prop)
  (step:∀n x0 x4 x5 x7 x9 x10 S,I n x0 x4 x5 x7 x9 x10 S→a6B E w0 (fun x0 x4 x5 x7 x9 x10 S=>∃m,m<n∧I m x0 x4 x5 x7 x9 x10 S) Q x0 x4 x5 x7 x9 x10 S)
  {n:Nat} {x0 x4 x5 x7 x9 x10:D} {S:b5} (h:I n x0 x4 x5 x7 x9 x10 S):f9 Try.prog E w0 (.loop a6D) (i7 106 [0,4,5,7,9,10] [x0,x4,x5,x7,x9,x10]) S (a5S E w0 Q):=
 o4 (k:=106) (n:=n) (I:=fun n T S=>I n (T.getD 0 b6) (T.getD 4 b6) (T.getD 5 b6) (T.getD 7 b6) (T.getD 9 b6) (T.getD 10 b6) S) (fun n T S hl hI=>q8 [0,4,5,7,9,10] hl (f9.mono (b4v (step n _ _ _ _ _ _ S hI)) fun ex T' S' _ hq=>by cases ex<;>exact hq)) (j2 ..) (Eq.mp (by kernel_rfl) h)
noncomputable def a5Z:Code:=(i9 [1,1,1,1,1,0,1,0,0] (Try.f13.body.getD .skip))
def a6a(E:g8)(w0:j0)(Q:D→b5→Prop):j7→List D→b5→Prop:=
 (p5 0 (L4 Try.prog E w0 F9 F6 F7 (i9 [1,1,1,1,1,1] (Try.f13.body.getD .skip)) (F5 Try.prog Try.f13 Q)))
def a6z(E:g8)(w0:j0)(N0:D→D→D→D→D→b5→Prop)(Q:D→b5→Prop)(x0 x4 x5 x7 x8:D)(S:b5):Prop:=
 b4 (j9 x7) fun v11=>
 b4 (d5 .lss x8 v11) fun v12=>
 i5 v12
 (b4 (j5 1 x7 x8) fun v13=>
 b4 (d9 S v13) fun v14=>
 p8 Try.prog E w0 a2i [x5,v14] S fun v15 S16=>
 b4 (unD .not v15) fun v17=>
 i5 v17
 (Q (.tup [.nilSlc,(.int .i64 190)]) S16)
 (b4 (d5 .add x8 (.int .i64 1)) fun v18=>
 N0 x0 x4 x5 x7 v18 S16))
 (f9 Try.prog E w0 (.loop a6D) (i7 106 [0,4,5,7,9,10] [x0,x4,x5,x7, .nilSlc,(.int .i64 0)]) S (a5S E w0 Q))
theorem b4Q{E:g8}{w0:j0}{N0:D→D→D→D→D→b5→Prop}{Q:D→b5→Prop}{x0 x4 x5 x7 x8:D}{S:b5}(h:a6z E w0 N0 Q x0 x4 x5 x7 x8 S):
  f9 Try.prog E w0 a5Z (i7 106 [0,4,5,7,8] [x0,x4,x5,x7,x8]) S (A3 (fun T S=>N0 (T.getD 0 b6) (T.getD 4 b6) (T.getD 5 b6) (T.getD 7 b6) (T.getD 8 b6) S) (a6a E w0 Q)):=g9 F9 F6 F7 mixed (by kernel_rfl) h
theorem b4X{E:g8}{w0:j0}{Q:D→b5→Prop}(I:Nat→D→D→D→D→D→b5→Prop)
  (step:∀n x0 x4 x5 x7 x8 S,I n x0 x4 x5 x7 x8 S→a6z E w0 (fun x0 x4 x5 x7 x8 S=>∃m,m<n∧I m x0 x4 x5 x7 x8 S) Q x0 x4 x5 x7 x8 S)
  {n:Nat} {x0 x4 x5 x7 x8:D} {S:b5} (h:I n x0 x4 x5 x7 x8 S):f9 Try.prog E w0 (.loop a5Z) (i7 106 [0,4,5,7,8] [x0,x4,x5,x7,x8]) S (a6a E w0 Q):=
 o4 (k:=106) (n:=n) (I:=fun n T S=>I n (T.getD 0 b6) (T.getD 4 b6) (T.getD 5 b6) (T.getD 7 b6) (T.getD 8 b6) S) (fun n T S hl hI=>q8 [0,4,5,7,8] hl (f9.mono (b4Q (step n _ _ _ _ _ S hI)) fun ex T' S' _ hq=>by cases ex<;>exact hq)) (j2 ..) (Eq.mp (by kernel_rfl) h)
def b7b(E:g8)(w0:j0)(Q:D→b5→Prop)(a0:D)(S:b5):Prop:=
 p8 Try.prog E w0 a4l [a0] S fun v0 S1=>
 b4 (o5 v0 0) fun v2=>
 b4 (o5 v0 1) fun v3=>
 b4 (o5 v0 2) fun v4=>
 b4 (d5 .neq v4 (.int .i64 0)) fun v5=>
 i5 v5
 (Q (.tup [.nilSlc,v4]) S1)
 (b4 (j9 v2) fun v6=>
 b4 (d5 .eql v6 (.int .i64 0)) fun v7=>
 i5 v7
 (Q (.tup [.nilSlc,(.int .i64 190)]) S1)
 (b4 (j9 a0) fun v8=>
 p8 Try.prog E w0 a2a [v2,v3,v8] S1 fun v9 S10=>
 f9 Try.prog E w0 (.loop a5Z) (i7 106 [0,4,5,7,8] [a0,v2,v3,v9,(.int .i64 0)]) S10 (a6a E w0 Q)))
theorem b8l{E:g8}{w0:j0}{Q:D→b5→Prop}{a0:D}{S:b5}(h:b7b E w0 (b9 E Q) a0 S):p8 Try.prog E w0 a6m [a0] S Q:=
 j6 F9 F6 F7 (fn:=Try.f13) (c:=Try.f13.body.getD .skip) mixed Try.func13 (by kernel_rfl) (by kernel_rfl) h
def D9:List (Nat×List Nat):=[(6,[0,1,2,7,8]),(24,[0,1,2,7,8,10,11])]
def D7:List (Nat×List Nat):=[(20,[0,1,2,7,8,9]),(8,[0,1,2,7,8])]
def D8:List (Nat×Arr):=[]
noncomputable def a2p:Code:=(i9 [1,1,0,1,0,0,1,1] (Try.f35.body.getD .skip))
def b2E(E:g8)(w0:j0)(N0:D→D→D→D→D→b5→Prop)(Q:D→b5→Prop):j7→List D→b5→Prop:=
 (A3 (fun T S=>N0 (T.getD 0 b6) (T.getD 1 b6) (T.getD 2 b6) (T.getD 7 b6) (T.getD 8 b6) S) (p5 0 (L4 Try.prog E w0 D9 D7 D8 (i9 [1,1,1] (Try.f35.body.getD .skip)) (F5 Try.prog Try.f35 Q))))
def a6W(E:g8)(w0:j0)(N0:D→D→D→D→D→b5→Prop)(Q:D→b5→Prop)(x0 x1 x2 x7 x8:D)(S:b5):Prop:=
 b4 (d5 .add x8 (.int .i64 1)) fun v4=>
 N0 x0 x1 x2 x7 v4 S
def a0F(E:g8)(w0:j0)(N0:D→D→D→D→D→b5→Prop)(Q:D→b5→Prop)(x0 x1 x2 x7 x8:D)(S:b5):Prop:=f9 Try.prog E w0 a2p (i7 59 [0,1,2,7,8] [x0,x1,x2,x7,x8]) S (b2E E w0 N0 Q)
theorem b0f{E:g8}{w0:j0}{N0:D→D→D→D→D→b5→Prop}{Q:D→b5→Prop}{x0 x1 x2 x7 x8:D}{S:b5}(h:a6W E w0 N0 Q x0 x1 x2 x7 x8 S):a0F E w0 N0 Q x0 x1 x2 x7 x8 S:=g9 D9 D7 D8 mixed (by kernel_rfl) h
noncomputable def a2G:Code:=(i9 [1,1,0,1,0,0,1,0,0,1,1,1,1,1,0,0] (Try.f35.body.getD .skip))
def a2n(E:g8)(w0:j0)(N0:D→D→D→D→D→b5→Prop)(Q:D→b5→Prop):j7→List D→b5→Prop:=
 (p5 2 (p5 1 (c0t Try.prog E w0 59 [0,1,2,7,8] a2p (A3 (fun T S=>N0 (T.getD 0 b6) (T.getD 1 b6) (T.getD 2 b6) (T.getD 7 b6) (T.getD 8 b6) S) (p5 0 (L4 Try.prog E w0 D9 D7 D8 (i9 [1,1,1] (Try.f35.body.getD .skip)) (F5 Try.prog Try.f35 Q)))))))
def a2D(E:g8)(w0:j0)(N0:D→D→D→D→D→b5→Prop)(N1:D→D→D→D→D→D→D→b5→Prop)(Q:D→b5→Prop)(x0 x1 x2 x7 x8 x10 x11:D)(S:b5):Prop:=
 b4 (j9 x10) fun v15=>
 b4 (d5 .lss x11 v15) fun v16=>
 i5 v16
 (b4 (j5 1 x10 x11) fun v17=>
 b4 (d9 S v17) fun v18=>
 p8 Try.prog E w0 K7 [x7,v18] S fun v19 S20=>
 b4 (d5 .add x11 (.int .i64 1)) fun v21=>
 N1 x0 x1 x2 v19 x8 x10 v21 S20)
 (a0F E w0 N0 Q x0 x1 x2 x7 x8 S)
theorem a9Q{E:g8}{w0:j0}{N0:D→D→D→D→D→b5→Prop}{N1:D→D→D→D→D→D→D→b5→Prop}{Q:D→b5→Prop}{x0 x1 x2 x7 x8 x10 x11:D}{S:b5}(h:a2D E w0 N0 N1 Q x0 x1 x2 x7 x8 x10 x11 S):
  f9 Try.prog E w0 a2G (i7 59 [0,1,2,7,8,10,11] [x0,x1,x2,x7,x8,x10,x11]) S (A3 (fun T S=>N1 (T.getD 0 b6) (T.getD 1 b6) (T.getD 2 b6) (T.getD 7 b6) (T.getD 8 b6) (T.getD 10 b6) (T.getD 11 b6) S) (a2n E w0 N0 Q)):=g9 D9 D7 D8 mixed (by kernel_rfl) h
theorem b0E{E:g8}{w0:j0}{N0:D→D→D→D→D→b5→Prop}{Q:D→b5→Prop}(I:Nat→D→D→D→D→D→D→D→b5→Prop)
  (step:∀n x0 x1 x2 x7 x8 x10 x11 S,I n x0 x1 x2 x7 x8 x10 x11 S→a2D E w0 N0 (fun x0 x1 x2 x7 x8 x10 x11 S=>∃m,m<n∧I m x0 x1 x2 x7 x8 x10 x11 S) Q x0 x1 x2 x7 x8 x10 x11 S)
  {n:Nat} {x0 x1 x2 x7 x8 x10 x11:D} {S:b5} (h:I n x0 x1 x2 x7 x8 x10 x11 S):f9 Try.prog E w0 (.loop a2G) (i7 59 [0,1,2,7,8,10,11] [x0,x1,x2,x7,x8,x10,x11]) S (a2n E w0 N0 Q):=
 o4 (k:=59) (n:=n) (I:=fun n T S=>I n (T.getD 0 b6) (T.getD 1 b6) (T.getD 2 b6) (T.getD 7 b6) (T.getD 8 b6) (T.getD 10 b6) (T.getD 11 b6) S) (fun n T S hl hI=>q8 [0,1,2,7,8,10,11] hl (f9.mono (a9Q (step n _ _ _ _ _ _ _ S hI)) fun ex T' S' _ hq=>by cases ex<;>exact hq)) (j2 ..) (Eq.mp (by kernel_rfl) h)
noncomputable def b3j:Code:=(i9 [1,1,0,1,0,0,1,0,0,1,1,1] (Try.f35.body.getD .skip))
def b1F(E:g8)(w0:j0)(N0:D→D→D→D→D→b5→Prop)(Q:D→b5→Prop):j7→List D→b5→Prop:=
 (p5 1 (c0t Try.prog E w0 59 [0,1,2,7,8] a2p (A3 (fun T S=>N0 (T.getD 0 b6) (T.getD 1 b6) (T.getD 2 b6) (T.getD 7 b6) (T.getD 8 b6) S) (p5 0 (L4 Try.prog E w0 D9 D7 D8 (i9 [1,1,1] (Try.f35.body.getD .skip)) (F5 Try.prog Try.f35 Q))))))
def a5D(E:g8)(w0:j0)(N0:D→D→D→D→D→b5→Prop)(Q:D→b5→Prop)(x0 x1 x2 x7 x8 x9:D)(S:b5):Prop:=
 b4 (j5 4 x0 x8) fun v11=>
 b4 (l9 S 4 v11) fun v12=>
 p8 Try.prog E w0 R6 [v12,x9] S fun v13 S14=>
 f9 Try.prog E w0 (.loop a2G) (i7 59 [0,1,2,7,8,10,11] [x0,x1,x2,x7,x8,v13,(.int .i64 0)]) S14 (a2n E w0 N0 Q)
def Y5(E:g8)(w0:j0)(N0:D→D→D→D→D→b5→Prop)(Q:D→b5→Prop)(x0 x1 x2 x7 x8 x9:D)(S:b5):Prop:=f9 Try.prog E w0 b3j (i7 59 [0,1,2,7,8,9] [x0,x1,x2,x7,x8,x9]) S (b1F E w0 N0 Q)
theorem a9k{E:g8}{w0:j0}{N0:D→D→D→D→D→b5→Prop}{Q:D→b5→Prop}{x0 x1 x2 x7 x8 x9:D}{S:b5}(h:a5D E w0 N0 Q x0 x1 x2 x7 x8 x9 S):Y5 E w0 N0 Q x0 x1 x2 x7 x8 x9 S:=g9 D9 D7 D8 mixed (by kernel_rfl) h
noncomputable def a2E:Code:=(i9 [1,1,0,1,0,0] (Try.f35.body.getD .skip))
def a2C(E:g8)(w0:j0)(Q:D→b5→Prop):j7→List D→b5→Prop:=
 (p5 0 (L4 Try.prog E w0 D9 D7 D8 (i9 [1,1,1] (Try.f35.body.getD .skip)) (F5 Try.prog Try.f35 Q)))
def a2s(E:g8)(w0:j0)(N0:D→D→D→D→D→b5→Prop)(Q:D→b5→Prop)(x0 x1 x2 x7 x8:D)(S:b5):Prop:=
 b4 (j9 x0) fun v2=>
 b4 (d5 .lss x8 v2) fun v3=>
 i5 v3
 (b4 (j5 4 x0 x8) fun v5=>
 b4 (p9 0 v5) fun v6=>
 b4 (d9 S v6) fun v7=>
 p8 Try.prog E w0 a2J [v7] S fun v8 S9=>
 b4 (unD .not v8) fun v10=>
 i5 v10
 (a0F E w0 N0 Q x0 x1 x2 x7 x8 S9)
 (b4 (d5 .add x8 (.int .i64 1)) fun v22=>
 b4 (j9 x0) fun v23=>
 b4 (d5 .lss v22 v23) fun v24=>
 i5 v24
 (b4 (d5 .add x8 (.int .i64 1)) fun v25=>
 b4 (j5 1 x1 v25) fun v26=>
 b4 (d9 S9 v26) fun v27=>
 p8 Try.prog E w0 K7 [x7,v27] S9 fun v28 S29=>
 Y5 E w0 N0 Q x0 x1 x2 v28 x8 v27 S29)
 (Y5 E w0 N0 Q x0 x1 x2 x7 x8 x2 S9)))
 (Q x7 S)
theorem b0i{E:g8}{w0:j0}{N0:D→D→D→D→D→b5→Prop}{Q:D→b5→Prop}{x0 x1 x2 x7 x8:D}{S:b5}(h:a2s E w0 N0 Q x0 x1 x2 x7 x8 S):
  f9 Try.prog E w0 a2E (i7 59 [0,1,2,7,8] [x0,x1,x2,x7,x8]) S (A3 (fun T S=>N0 (T.getD 0 b6) (T.getD 1 b6) (T.getD 2 b6) (T.getD 7 b6) (T.getD 8 b6) S) (a2C E w0 Q)):=g9 D9 D7 D8 mixed (by kernel_rfl) h
theorem b0n{E:g8}{w0:j0}{Q:D→b5→Prop}(I:Nat→D→D→D→D→D→b5→Prop)
  (step:∀n x0 x1 x2 x7 x8 S,I n x0 x1 x2 x7 x8 S→a2s E w0 (fun x0 x1 x2 x7 x8 S=>∃m,m<n∧I m x0 x1 x2 x7 x8 S) Q x0 x1 x2 x7 x8 S)
  {n:Nat} {x0 x1 x2 x7 x8:D} {S:b5} (h:I n x0 x1 x2 x7 x8 S):f9 Try.prog E w0 (.loop a2E) (i7 59 [0,1,2,7,8] [x0,x1,x2,x7,x8]) S (a2C E w0 Q):=
 o4 (k:=59) (n:=n) (I:=fun n T S=>I n (T.getD 0 b6) (T.getD 1 b6) (T.getD 2 b6) (T.getD 7 b6) (T.getD 8 b6) S) (fun n T S hl hI=>q8 [0,1,2,7,8] hl (f9.mono (b0i (step n _ _ _ _ _ S hI)) fun ex T' S' _ hq=>by cases ex<;>exact hq)) (j2 ..) (Eq.mp (by kernel_rfl) h)
def a9r(E:g8)(w0:j0)(Q:D→b5→Prop)(a0 a1 a2:D)(S:b5):Prop:=
 C7 S 1 (o7 1 (List.replicate 1 [(.int .i64 0)]) [(0,(.int .i64 0))]) 1 fun v0 S1=>
 f9 Try.prog E w0 (.loop a2E) (i7 59 [0,1,2,7,8] [a0,a1,a2,v0,(.int .i64 0)]) S1 (a2C E w0 Q)
theorem b3k{E:g8}{w0:j0}{Q:D→b5→Prop}{a0 a1 a2:D}{S:b5}(h:a9r E w0 (b9 E Q) a0 a1 a2 S):p8 Try.prog E w0 a2a [a0,a1,a2] S Q:=
 j6 D9 D7 D8 (fn:=Try.f35) (c:=Try.f35.body.getD .skip) mixed Try.func35 (by kernel_rfl) (by kernel_rfl) h
def a6w:List (Nat×List Nat):=[(4,[0,1,5])]
def a6A:List (Nat×List Nat):=[]
def a6I:List (Nat×Arr):=[]
noncomputable def a4L:Code:=(i9 [1,0,1,0,0] (Try.f36.body.getD .skip))
def a4I(E:g8)(w0:j0)(Q:D→b5→Prop):j7→List D→b5→Prop:=
 (p5 0 (L4 Try.prog E w0 a6w a6A a6I (i9 [1,1] (Try.f36.body.getD .skip)) (F5 Try.prog Try.f36 Q)))
def a4X(E:g8)(w0:j0)(N0:D→D→D→b5→Prop)(Q:D→b5→Prop)(x0 x1 x5:D)(S:b5):Prop:=
 b4 (j9 x0) fun v0=>
 b4 (d5 .lss x5 v0) fun v1=>
 i5 v1
 (b4 (j5 1 x0 x5) fun v2=>
 b4 (d9 S v2) fun v3=>
 b4 (d5 .eql v3 x1) fun v4=>
 i5 v4
 (Q (.bool true) S)
 (b4 (d5 .add x5 (.int .i64 1)) fun v5=>
 N0 x0 x1 v5 S))
 (Q (.bool false) S)
theorem b3B{E:g8}{w0:j0}{N0:D→D→D→b5→Prop}{Q:D→b5→Prop}{x0 x1 x5:D}{S:b5}(h:a4X E w0 N0 Q x0 x1 x5 S):
  f9 Try.prog E w0 a4L (i7 18 [0,1,5] [x0,x1,x5]) S (A3 (fun T S=>N0 (T.getD 0 b6) (T.getD 1 b6) (T.getD 5 b6) S) (a4I E w0 Q)):=g9 a6w a6A a6I mixed (by kernel_rfl) h
theorem b2y{E:g8}{w0:j0}{Q:D→b5→Prop}(I:Nat→D→D→D→b5→Prop)
  (step:∀n x0 x1 x5 S,I n x0 x1 x5 S→a4X E w0 (fun x0 x1 x5 S=>∃m,m<n∧I m x0 x1 x5 S) Q x0 x1 x5 S)
  {n:Nat} {x0 x1 x5:D} {S:b5} (h:I n x0 x1 x5 S):f9 Try.prog E w0 (.loop a4L) (i7 18 [0,1,5] [x0,x1,x5]) S (a4I E w0 Q):=
 o4 (k:=18) (n:=n) (I:=fun n T S=>I n (T.getD 0 b6) (T.getD 1 b6) (T.getD 5 b6) S) (fun n T S hl hI=>q8 [0,1,5] hl (f9.mono (b3B (step n _ _ _ S hI)) fun ex T' S' _ hq=>by cases ex<;>exact hq)) (j2 ..) (Eq.mp (by kernel_rfl) h)
def b3N(E:g8)(w0:j0)(Q:D→b5→Prop)(a0 a1:D)(S:b5):Prop:=
 f9 Try.prog E w0 (.loop a4L) (i7 18 [0,1,5] [a0,a1,(.int .i64 0)]) S (a4I E w0 Q)
theorem b6g{E:g8}{w0:j0}{Q:D→b5→Prop}{a0 a1:D}{S:b5}(h:b3N E w0 (b9 E Q) a0 a1 S):p8 Try.prog E w0 a2i [a0,a1] S Q:=
 j6 a6w a6A a6I (fn:=Try.f36) (c:=Try.f36.body.getD .skip) mixed Try.func36 (by kernel_rfl) (by kernel_rfl) h
def N9:List (Nat×List Nat):=[(26,[2,5,6])]
def M8:List (Nat×List Nat):=[(29,[1,2,5,8,14])]
def O2:List (Nat×Arr):=[]
noncomputable def a2w:Code:=(i9 [1,1,0,1,0,1,1,1,1,1,0,1,0,1,0,0] (Try.f37.body.getD .skip))
def a2x(E:g8)(w0:j0)(Q:D→b5→Prop):j7→List D→b5→Prop:=
 (p5 1 (L4 Try.prog E w0 N9 M8 O2 (i9 [1,1,0,1,0,1,1,1,1,1,0,1,1] (Try.f37.body.getD .skip)) (p5 0 (L4 Try.prog E w0 N9 M8 O2 (i9 [1,1,1] (Try.f37.body.getD .skip)) (F5 Try.prog Try.f37 Q)))))
def a2q(E:g8)(w0:j0)(N0:D→D→D→b5→Prop)(Q:D→b5→Prop)(x2 x5 x6:D)(S:b5):Prop:=
 b4 (p9 3 x2) fun v20=>
 b4 (d9 S v20) fun v21=>
 b4 (j9 v21) fun v22=>
 b4 (d5 .lss x6 v22) fun v23=>
 i5 v23
 (b4 (p9 3 x2) fun v24=>
 b4 (d9 S v24) fun v25=>
 b4 (j5 2 v25 x6) fun v26=>
 b4 (p9 1 v26) fun v27=>
 b4 (d9 S v27) fun v28=>
 p8 Try.prog E w0 K7 [x5,v28] S fun v29 S30=>
 b4 (d5 .add x6 (.int .i64 1)) fun v31=>
 N0 x2 v29 v31 S30)
 (Q x5 S)
theorem b0s{E:g8}{w0:j0}{N0:D→D→D→b5→Prop}{Q:D→b5→Prop}{x2 x5 x6:D}{S:b5}(h:a2q E w0 N0 Q x2 x5 x6 S):
  f9 Try.prog E w0 a2w (i7 52 [2,5,6] [x2,x5,x6]) S (A3 (fun T S=>N0 (T.getD 2 b6) (T.getD 5 b6) (T.getD 6 b6) S) (a2x E w0 Q)):=g9 N9 M8 O2 mixed (by kernel_rfl) h
theorem a9W{E:g8}{w0:j0}{Q:D→b5→Prop}(I:Nat→D→D→D→b5→Prop)
  (step:∀n x2 x5 x6 S,I n x2 x5 x6 S→a2q E w0 (fun x2 x5 x6 S=>∃m,m<n∧I m x2 x5 x6 S) Q x2 x5 x6 S)
  {n:Nat} {x2 x5 x6:D} {S:b5} (h:I n x2 x5 x6 S):f9 Try.prog E w0 (.loop a2w) (i7 52 [2,5,6] [x2,x5,x6]) S (a2x E w0 Q):=
 o4 (k:=52) (n:=n) (I:=fun n T S=>I n (T.getD 2 b6) (T.getD 5 b6) (T.getD 6 b6) S) (fun n T S hl hI=>q8 [2,5,6] hl (f9.mono (b0s (step n _ _ _ S hI)) fun ex T' S' _ hq=>by cases ex<;>exact hq)) (j2 ..) (Eq.mp (by kernel_rfl) h)
noncomputable def b2n:Code:=(i9 [1,1,0,1,0,1,1,1] (Try.f37.body.getD .skip))
def b0M(E:g8)(w0:j0)(Q:D→b5→Prop):j7→List D→b5→Prop:=
 (p5 0 (L4 Try.prog E w0 N9 M8 O2 (i9 [1,1,1] (Try.f37.body.getD .skip)) (F5 Try.prog Try.f37 Q)))
def a5s(E:g8)(w0:j0)(Q:D→b5→Prop)(x1 x2 x5 x8 x14:D)(S:b5):Prop:=
 i5 x14
 (b4 (p9 1 x2) fun v9=>
 b4 (d9 S v9) fun v10=>
 p8 Try.prog E w0 K7 [x5,v10] S fun v11 S12=>
 p8 Try.prog E w0 K7 [v11,x1] S12 fun v13 S14=>
 Q v13 S14)
 (b4 (d5 .eql x8 (.int .u8 49)) fun v15=>
 i5 v15
 (b4 (p9 2 x2) fun v16=>
 b4 (d9 S v16) fun v17=>
 p8 Try.prog E w0 K7 [x5,v17] S fun v18 S19=>
 f9 Try.prog E w0 (.loop a2w) (i7 52 [2,5,6] [x2,v18,(.int .i64 0)]) S19 (a2x E w0 Q))
 (b4 (d5 .eql x8 (.int .u8 51)) fun v32=>
 i5 v32
 (i5 v32
 (Q .nilSlc S)
 (C7 S 1 (o7 1 (List.replicate 1 [(.int .i64 0)]) [(0,x1)]) 1 fun v33 S34=>
 Q v33 S34))
 (b4 (d5 .eql x8 (.int .u8 52)) fun v35=>
 i5 v35
 (Q .nilSlc S)
 (C7 S 1 (o7 1 (List.replicate 1 [(.int .i64 0)]) [(0,x1)]) 1 fun v36 S37=>
 Q v36 S37))))
def Y9(E:g8)(w0:j0)(Q:D→b5→Prop)(x1 x2 x5 x8 x14:D)(S:b5):Prop:=f9 Try.prog E w0 b2n (i7 52 [1,2,5,8,14] [x1,x2,x5,x8,x14]) S (b0M E w0 Q)
theorem a9j{E:g8}{w0:j0}{Q:D→b5→Prop}{x1 x2 x5 x8 x14:D}{S:b5}(h:a5s E w0 Q x1 x2 x5 x8 x14 S):Y9 E w0 Q x1 x2 x5 x8 x14 S:=g9 N9 M8 O2 mixed (by kernel_rfl) h
def a9y(E:g8)(w0:j0)(Q:D→b5→Prop)(a0 a1:D)(S:b5):Prop:=
 b4 (s5 a0) fun cs=>o6 S cs fun v0 S1=>
 b4 (p9 0 v0) fun v2=>
 b4 (d9 S1 v2) fun v3=>
 b4 (d5 .eql v3 (.int .u8 46)) fun v4=>
 i5 v4
 (b4 (p9 1 v0) fun v5=>
 b4 (d9 S1 v5) fun v6=>
 C7 S1 1 (o7 1 (List.replicate 1 [(.int .i64 0)]) [(0,v6)]) 1 fun v7 S8=>
 Q v7 S8)
 (b4 (d5 .eql v3 (.int .u8 47)) fun v38=>
 i5 v38
 (Y9 E w0 Q a1 v0 .nilSlc v3 v38 S1)
 (b4 (d5 .eql v3 (.int .u8 48)) fun v39=>
 Y9 E w0 Q a1 v0 .nilSlc v3 v39 S1))
theorem b2z{E:g8}{w0:j0}{Q:D→b5→Prop}{a0 a1:D}{S:b5}(h:a9y E w0 (b9 E Q) a0 a1 S):p8 Try.prog E w0 R6 [a0,a1] S Q:=
 j6 N9 M8 O2 (fn:=Try.f37) (c:=Try.f37.body.getD .skip) mixed Try.func37 (by kernel_rfl) (by kernel_rfl) h
def a0q:List (Nat×List Nat):=[(4,[0,1,5]),(16,[0,1,5,6])]
def a0k:List (Nat×List Nat):=[]
def a0u:List (Nat×Arr):=[]
noncomputable def a1f:Code:=(i9 [1,1,1,1,1,0,1,0,0] (Try.f43.body.getD .skip))
def a1p(E:g8)(w0:j0)(Q:D→b5→Prop):j7→List D→b5→Prop:=
 (p5 2 (L4 Try.prog E w0 a0q a0k a0u (i9 [1,1,1,1,1,1] (Try.f43.body.getD .skip)) (F5 Try.prog Try.f43 Q)))
def a3J(E:g8)(w0:j0)(N1:D→D→D→D→b5→Prop)(Q:D→b5→Prop)(x0 x1 x5 x6:D)(S:b5):Prop:=
 b4 (d5 .gtr x6 x5) fun v25=>
 i5 v25
 (b4 (d5 .sub x6 (.int .i64 1)) fun v26=>
 b4 (j5 1 x0 v26) fun v27=>
 b4 (d9 S v27) fun v28=>
 b4 (j5 1 x0 x6) fun v29=>
 j1 S 1 v29 v28 fun v30 S31=>
 b4 (d5 .sub x6 (.int .i64 1)) fun v32=>
 N1 x0 x1 x5 v32 S31)
 (b4 (j5 1 x0 x5) fun v33=>
 j1 S 1 v33 x1 fun v34 S35=>
 Q x0 S35)
theorem b2c{E:g8}{w0:j0}{N1:D→D→D→D→b5→Prop}{Q:D→b5→Prop}{x0 x1 x5 x6:D}{S:b5}(h:a3J E w0 N1 Q x0 x1 x5 x6 S):
  f9 Try.prog E w0 a1f (i7 58 [0,1,5,6] [x0,x1,x5,x6]) S (A3 (fun T S=>N1 (T.getD 0 b6) (T.getD 1 b6) (T.getD 5 b6) (T.getD 6 b6) S) (a1p E w0 Q)):=g9 a0q a0k a0u mixed (by kernel_rfl) h
theorem b0S{E:g8}{w0:j0}{Q:D→b5→Prop}(I:Nat→D→D→D→D→b5→Prop)
  (step:∀n x0 x1 x5 x6 S,I n x0 x1 x5 x6 S→a3J E w0 (fun x0 x1 x5 x6 S=>∃m,m<n∧I m x0 x1 x5 x6 S) Q x0 x1 x5 x6 S)
  {n:Nat} {x0 x1 x5 x6:D} {S:b5} (h:I n x0 x1 x5 x6 S):f9 Try.prog E w0 (.loop a1f) (i7 58 [0,1,5,6] [x0,x1,x5,x6]) S (a1p E w0 Q):=
 o4 (k:=58) (n:=n) (I:=fun n T S=>I n (T.getD 0 b6) (T.getD 1 b6) (T.getD 5 b6) (T.getD 6 b6) S) (fun n T S hl hI=>q8 [0,1,5,6] hl (f9.mono (b2c (step n _ _ _ _ S hI)) fun ex T' S' _ hq=>by cases ex<;>exact hq)) (j2 ..) (Eq.mp (by kernel_rfl) h)
noncomputable def a3r:Code:=(i9 [1,1,0,0,0] (Try.f43.body.getD .skip))
def a3p(E:g8)(w0:j0)(Q:D→b5→Prop):j7→List D→b5→Prop:=
 (p5 0 (L4 Try.prog E w0 a0q a0k a0u (i9 [1,1,1] (Try.f43.body.getD .skip)) (F5 Try.prog Try.f43 Q)))
def a3a(E:g8)(w0:j0)(N0:D→D→D→b5→Prop)(Q:D→b5→Prop)(x0 x1 x5:D)(S:b5):Prop:=
 b4 (j9 x0) fun v0=>
 b4 (d5 .lss x5 v0) fun v1=>
 b4 (d6 (b8 v1 true) (some x0)) fun v2=>
 b4 (d6 (b8 v1 true) (some x5)) fun v3=>
 b4 (d6 (b8 v1 true) (j5 1 v2 v3)) fun v4=>
 b4 (d6 (b8 v1 true) (d9 S v4)) fun v5=>
 b4 (d6 (b8 v1 true) (some x1)) fun v6=>
 b4 (d6 (b8 v1 true) (d5 .lss v5 v6)) fun v7=>
 b4 (y9 v1 v7 (.bool false)) fun v8=>
 i5 v8
 (b4 (d5 .add x5 (.int .i64 1)) fun v9=>
 N0 x0 x1 v9 S)
 (b4 (j9 x0) fun v10=>
 b4 (d5 .lss x5 v10) fun v11=>
 b4 (d6 (b8 v11 true) (some x0)) fun v12=>
 b4 (d6 (b8 v11 true) (some x5)) fun v13=>
 b4 (d6 (b8 v11 true) (j5 1 v12 v13)) fun v14=>
 b4 (d6 (b8 v11 true) (d9 S v14)) fun v15=>
 b4 (d6 (b8 v11 true) (some x1)) fun v16=>
 b4 (d6 (b8 v11 true) (d5 .eql v15 v16)) fun v17=>
 b4 (y9 v11 v17 (.bool false)) fun v18=>
 i5 v18
 (Q x0 S)
 (C7 S 1 (o7 1 (List.replicate 1 [(.int .i64 0)]) [(0,(.int .i64 0))]) 1 fun v19 S20=>
 u4 S20 1 8 x0 v19 fun v21 S22=>
 b4 (j9 v21) fun v23=>
 b4 (d5 .sub v23 (.int .i64 1)) fun v24=>
 f9 Try.prog E w0 (.loop a1f) (i7 58 [0,1,5,6] [v21,x1,x5,v24]) S22 (a1p E w0 Q)))
theorem b1E{E:g8}{w0:j0}{N0:D→D→D→b5→Prop}{Q:D→b5→Prop}{x0 x1 x5:D}{S:b5}(h:a3a E w0 N0 Q x0 x1 x5 S):
  f9 Try.prog E w0 a3r (i7 58 [0,1,5] [x0,x1,x5]) S (A3 (fun T S=>N0 (T.getD 0 b6) (T.getD 1 b6) (T.getD 5 b6) S) (a3p E w0 Q)):=g9 a0q a0k a0u mixed (by kernel_rfl) h
theorem b1Q{E:g8}{w0:j0}{Q:D→b5→Prop}(I:Nat→D→D→D→b5→Prop)
  (step:∀n x0 x1 x5 S,I n x0 x1 x5 S→a3a E w0 (fun x0 x1 x5 S=>∃m,m<n∧I m x0 x1 x5 S) Q x0 x1 x5 S)
  {n:Nat} {x0 x1 x5:D} {S:b5} (h:I n x0 x1 x5 S):f9 Try.prog E w0 (.loop a3r) (i7 58 [0,1,5] [x0,x1,x5]) S (a3p E w0 Q):=
 o4 (k:=58) (n:=n) (I:=fun n T S=>I n (T.getD 0 b6) (T.getD 1 b6) (T.getD 5 b6) S) (fun n T S hl hI=>q8 [0,1,5] hl (f9.mono (b1E (step n _ _ _ S hI)) fun ex T' S' _ hq=>by cases ex<;>exact hq)) (j2 ..) (Eq.mp (by kernel_rfl) h)
def b1D(E:g8)(w0:j0)(Q:D→b5→Prop)(a0 a1:D)(S:b5):Prop:=
 f9 Try.prog E w0 (.loop a3r) (i7 58 [0,1,5] [a0,a1,(.int .i64 0)]) S (a3p E w0 Q)
theorem b4L{E:g8}{w0:j0}{Q:D→b5→Prop}{a0 a1:D}{S:b5}(h:b1D E w0 (b9 E Q) a0 a1 S):p8 Try.prog E w0 K7 [a0,a1] S Q:=
 j6 a0q a0k a0u (fn:=Try.f43) (c:=Try.f43.body.getD .skip) mixed Try.func43 (by kernel_rfl) (by kernel_rfl) h
def b7S:List (Nat×List Nat):=[]
def b8t:List (Nat×List Nat):=[]
def b8n:List (Nat×Arr):=[]
def b1I(E:g8)(w0:j0)(Q:D→b5→Prop)(a0:D)(S:b5):Prop:=
 b4 (d5 .eql a0 (.int .u8 46)) fun v0=>
 b4 (d6 (b8 v0 false) (some a0)) fun v1=>
 b4 (d6 (b8 v0 false) (d5 .eql v1 (.int .u8 47))) fun v2=>
 b4 (y9 v0 (.bool true) v2) fun v3=>
 b4 (d6 (b8 v3 false) (some a0)) fun v4=>
 b4 (d6 (b8 v3 false) (d5 .eql v4 (.int .u8 48))) fun v5=>
 b4 (y9 v3 (.bool true) v5) fun v6=>
 b4 (d6 (b8 v6 false) (some a0)) fun v7=>
 b4 (d6 (b8 v6 false) (d5 .eql v7 (.int .u8 49))) fun v8=>
 b4 (y9 v6 (.bool true) v8) fun v9=>
 b4 (d6 (b8 v9 false) (some a0)) fun v10=>
 b4 (d6 (b8 v9 false) (d5 .eql v10 (.int .u8 51))) fun v11=>
 b4 (y9 v9 (.bool true) v11) fun v12=>
 b4 (d6 (b8 v12 false) (some a0)) fun v13=>
 b4 (d6 (b8 v12 false) (d5 .eql v13 (.int .u8 52))) fun v14=>
 b4 (y9 v12 (.bool true) v14) fun v15=>
 Q v15 S
theorem b4C{E:g8}{w0:j0}{Q:D→b5→Prop}{a0:D}{S:b5}(h:b1I E w0 (b9 E Q) a0 S):p8 Try.prog E w0 a2J [a0] S Q:=
 j6 b7S b8t b8n (fn:=Try.f53) (c:=Try.f53.body.getD .skip) mixed Try.func53 (by kernel_rfl) (by kernel_rfl) h
def Q3:List (Nat×List Nat):=[(28,[4,33,34,35])]
def Q2:List (Nat×List Nat):=[(21,[1,2,9,12]),(41,[1,2,9,20]),(36,[4])]
def Q7:List (Nat×Arr):=[]
noncomputable def V3:Code:=(i9 [1,1] (Try.f38.body.getD .skip))
def b0e(E:g8)(w0:j0)(Q:D→b5→Prop):j7→List D→b5→Prop:=
 (F5 Try.prog Try.f38 Q)
def a4i(E:g8)(w0:j0)(Q:D→b5→Prop)(x4:D)(S:b5):Prop:=
 p8 Try.prog E w0 K5 [x4] S fun v2 S3=>
 p8 Try.prog E w0 K8 [x4] S3 fun v4 S5=>
 Q (.tup [v4,(.bool true)]) S5
def U9(E:g8)(w0:j0)(Q:D→b5→Prop)(x4:D)(S:b5):Prop:=f9 Try.prog E w0 V3 (i7 49 [4] [x4]) S (b0e E w0 Q)
theorem a7F{E:g8}{w0:j0}{Q:D→b5→Prop}{x4:D}{S:b5}(h:a4i E w0 Q x4 S):U9 E w0 Q x4 S:=g9 Q3 Q2 Q7 mixed (by kernel_rfl) h
noncomputable def Y4:Code:=(i9 [1,0,1,0,1,1,1,1,1,1,1,0,1,1,0,0] (Try.f38.body.getD .skip))
def Z2(E:g8)(w0:j0)(Q:D→b5→Prop):j7→List D→b5→Prop:=
 (p5 1 (p5 0 (c0t Try.prog E w0 49 [4] V3 (F5 Try.prog Try.f38 Q))))
def a1C(E:g8)(w0:j0)(N0:D→D→D→D→b5→Prop)(Q:D→b5→Prop)(x4 x33 x34 x35:D)(S:b5):Prop:=
 b4 (d5 .lss x35 x34) fun v25=>
 i5 v25
 (b4 (j5 2 x33 x35) fun v26=>
 b4 (l9 S 2 v26) fun v27=>
 o6 S [(.int .i64 0),(.int .i64 0)] fun v28 S29=>
 j1 S29 2 v28 v27 fun v30 S31=>
 b4 (p9 1 v28) fun v32=>
 b4 (d9 S31 v32) fun v33=>
 C7 S31 1 (o7 1 (List.replicate 1 [(.int .i64 0)]) [(0,v33)]) 1 fun v34 S35=>
 u4 S35 1 8 x4 v34 fun v36 S37=>
 b4 (d5 .add x35 (.int .i64 1)) fun v38=>
 N0 v36 x33 x34 v38 S37)
 (U9 E w0 Q x4 S)
theorem a8X{E:g8}{w0:j0}{N0:D→D→D→D→b5→Prop}{Q:D→b5→Prop}{x4 x33 x34 x35:D}{S:b5}(h:a1C E w0 N0 Q x4 x33 x34 x35 S):
  f9 Try.prog E w0 Y4 (i7 49 [4,33,34,35] [x4,x33,x34,x35]) S (A3 (fun T S=>N0 (T.getD 4 b6) (T.getD 33 b6) (T.getD 34 b6) (T.getD 35 b6) S) (Z2 E w0 Q)):=g9 Q3 Q2 Q7 mixed (by kernel_rfl) h
theorem a8Z{E:g8}{w0:j0}{Q:D→b5→Prop}(I:Nat→D→D→D→D→b5→Prop)
  (step:∀n x4 x33 x34 x35 S,I n x4 x33 x34 x35 S→a1C E w0 (fun x4 x33 x34 x35 S=>∃m,m<n∧I m x4 x33 x34 x35 S) Q x4 x33 x34 x35 S)
  {n:Nat} {x4 x33 x34 x35:D} {S:b5} (h:I n x4 x33 x34 x35 S):f9 Try.prog E w0 (.loop Y4) (i7 49 [4,33,34,35] [x4,x33,x34,x35]) S (Z2 E w0 Q):=
 o4 (k:=49) (n:=n) (I:=fun n T S=>I n (T.getD 4 b6) (T.getD 33 b6) (T.getD 34 b6) (T.getD 35 b6) S) (fun n T S hl hI=>q8 [4,33,34,35] hl (f9.mono (a8X (step n _ _ _ _ S hI)) fun ex T' S' _ hq=>by cases ex<;>exact hq)) (j2 ..) (Eq.mp (by kernel_rfl) h)
noncomputable def b0O:Code:=(i9 [1,0,1,0,1,1,1,1,1] (Try.f38.body.getD .skip))
def a9V(E:g8)(w0:j0)(Q:D→b5→Prop):j7→List D→b5→Prop:=
 (p5 0 (c0t Try.prog E w0 49 [4] V3 (F5 Try.prog Try.f38 Q)))
def a4E(E:g8)(w0:j0)(Q:D→b5→Prop)(x1 x2 x9 x20:D)(S:b5):Prop:=
 i5 x20
 (b4 (p9 1 x2) fun v13=>
 b4 (d9 S v13) fun v14=>
 C7 S 1 (o7 1 (List.replicate 2 [(.int .i64 0)]) [(0,v14),(1,x1)]) 2 fun v15 S16=>
 U9 E w0 Q v15 S16)
 (b4 (d5 .eql x9 (.int .u8 49)) fun v17=>
 i5 v17
 (b4 (p9 2 x2) fun v18=>
 b4 (d9 S v18) fun v19=>
 C7 S 1 (o7 1 (List.replicate 1 [(.int .i64 0)]) [(0,v19)]) 1 fun v20 S21=>
 b4 (p9 3 x2) fun v22=>
 b4 (d9 S21 v22) fun v23=>
 b4 (j9 v23) fun v24=>
 f9 Try.prog E w0 (.loop Y4) (i7 49 [4,33,34,35] [v20,v23,v24,(.int .i64 0)]) S21 (Z2 E w0 Q))
 (C7 S 1 (o7 1 (List.replicate 1 [(.int .i64 0)]) [(0,x1)]) 1 fun v39 S40=>
 Q (.tup [v39,(.bool false)]) S40))
def U7(E:g8)(w0:j0)(Q:D→b5→Prop)(x1 x2 x9 x20:D)(S:b5):Prop:=f9 Try.prog E w0 b0O (i7 49 [1,2,9,20] [x1,x2,x9,x20]) S (a9V E w0 Q)
theorem a7w{E:g8}{w0:j0}{Q:D→b5→Prop}{x1 x2 x9 x20:D}{S:b5}(h:a4E E w0 Q x1 x2 x9 x20 S):U7 E w0 Q x1 x2 x9 x20 S:=g9 Q3 Q2 Q7 mixed (by kernel_rfl) h
noncomputable def b1S:Code:=(i9 [1,0,1,0,1] (Try.f38.body.getD .skip))
def b0h(E:g8)(w0:j0)(Q:D→b5→Prop):j7→List D→b5→Prop:=
 (p5 0 (c0t Try.prog E w0 49 [4] V3 (F5 Try.prog Try.f38 Q)))
def a4v(E:g8)(w0:j0)(Q:D→b5→Prop)(x1 x2 x9 x12:D)(S:b5):Prop:=
 i5 x12
 (Q (.tup [.nilSlc,(.bool true)]) S)
 (b4 (d5 .eql x9 (.int .u8 46)) fun v8=>
 i5 v8
 (b4 (p9 1 x2) fun v9=>
 b4 (d9 S v9) fun v10=>
 C7 S 1 (o7 1 (List.replicate 1 [(.int .i64 0)]) [(0,v10)]) 1 fun v11 S12=>
 Q (.tup [v11,(.bool true)]) S12)
 (b4 (d5 .eql x9 (.int .u8 47)) fun v41=>
 i5 v41
 (U7 E w0 Q x1 x2 x9 v41 S)
 (b4 (d5 .eql x9 (.int .u8 48)) fun v42=>
 U7 E w0 Q x1 x2 x9 v42 S)))
def V5(E:g8)(w0:j0)(Q:D→b5→Prop)(x1 x2 x9 x12:D)(S:b5):Prop:=f9 Try.prog E w0 b1S (i7 49 [1,2,9,12] [x1,x2,x9,x12]) S (b0h E w0 Q)
theorem a7Z{E:g8}{w0:j0}{Q:D→b5→Prop}{x1 x2 x9 x12:D}{S:b5}(h:a4v E w0 Q x1 x2 x9 x12 S):V5 E w0 Q x1 x2 x9 x12 S:=g9 Q3 Q2 Q7 mixed (by kernel_rfl) h
def a7N(E:g8)(w0:j0)(Q:D→b5→Prop)(a0 a1:D)(S:b5):Prop:=
 b4 (s5 a0) fun cs=>o6 S cs fun v0 S1=>
 b4 (p9 0 v0) fun v6=>
 b4 (d9 S1 v6) fun v7=>
 b4 (d5 .eql v7 (.int .u8 51)) fun v43=>
 i5 v43
 (V5 E w0 Q a1 v0 v7 v43 S1)
 (b4 (d5 .eql v7 (.int .u8 52)) fun v44=>
 V5 E w0 Q a1 v0 v7 v44 S1)
theorem b1o{E:g8}{w0:j0}{Q:D→b5→Prop}{a0 a1:D}{S:b5}(h:a7N E w0 (b9 E Q) a0 a1 S):p8 Try.prog E w0 I9 [a0,a1] S Q:=
 j6 Q3 Q2 Q7 (fn:=Try.f38) (c:=Try.f38.body.getD .skip) mixed Try.func38 (by kernel_rfl) (by kernel_rfl) h
def B2:List (Nat×List Nat):=[(14,[0,4,5,7,38,39,40]),(24,[0,4,5,7,8,38,39,40,57,58,59]),(42,[0,4,5,14,83]),(54,[0,5,14,16,94,95,96])]
def B0:List (Nat×List Nat):=[(66,[0,5,14,16,17,19,94,95,96])]
def A9:List (Nat×Arr):=[]
noncomputable def a1U:Code:=(i9 [1,1,1,1,1,0,1,0,0,1,1,0,0,1,1,1,0,1,0,0] (Try.f14.body.getD .skip))
def a1K(E:g8)(w0:j0)(N0:D→D→D→D→D→D→D→b5→Prop)(Q:D→b5→Prop):j7→List D→b5→Prop:=
 (p5 2 (L4 Try.prog E w0 B2 B0 A9 (i9 [1,1,1,1,1,0,1,0,0,1,1,0,0,1,1,1,1] (Try.f14.body.getD .skip)) (p5 1 (L4 Try.prog E w0 B2 B0 A9 (i9 [1,1,1,1,1,0,1,0,0,1,1,1] (Try.f14.body.getD .skip)) (A3 (fun T S=>N0 (T.getD 0 b6) (T.getD 4 b6) (T.getD 5 b6) (T.getD 7 b6) (T.getD 38 b6) (T.getD 39 b6) (T.getD 40 b6) S) (p5 0 (L4 Try.prog E w0 B2 B0 A9 (i9 [1,1,1,1,1,1] (Try.f14.body.getD .skip)) (F5 Try.prog Try.f14 Q))))))))
def a5i(E:g8)(w0:j0)(N0:D→D→D→D→D→D→D→b5→Prop)(N1:D→D→D→D→D→D→D→D→D→D→D→b5→Prop)(Q:D→b5→Prop)(x0 x4 x5 x7 x8 x38 x39 x40 x57 x58 x59:D)(S:b5):Prop:=
 b4 (d5 .lss x59 x58) fun v34=>
 i5 v34
 (b4 (j5 1 x57 x59) fun v35=>
 b4 (d9 S v35) fun v36=>
 b4 (a7O S 0 (.int .i64 0) false x7 v36) fun v37=>
 b4 (d5 .add v37 (.int .i64 1)) fun v38=>
 b4t S 0 x7 v36 v38 fun v39 S40=>
 b4 (d5 .add x59 (.int .i64 1)) fun v41=>
 N1 x0 x4 x5 x7 x8 x38 x39 x40 x57 x58 v41 S40)
 (b4 (d5 .add x8 (.int .i64 1)) fun v42=>
 b4 (j9 x4) fun v43=>
 b4 (d5 .lss v42 v43) fun v44=>
 i5 v44
 (b4 (d5 .add x8 (.int .i64 1)) fun v45=>
 b4 (j5 1 x5 v45) fun v46=>
 b4 (d9 S v46) fun v47=>
 b4 (a7O S 0 (.int .i64 0) false x7 v47) fun v48=>
 b4 (d5 .add v48 (.int .i64 1)) fun v49=>
 b4t S 0 x7 v47 v49 fun v50 S51=>
 b4 (d5 .add x40 (.int .i64 1)) fun v52=>
 N0 x0 x4 x5 x7 x38 x39 v52 S51)
 (b4 (d5 .add x40 (.int .i64 1)) fun v53=>
 N0 x0 x4 x5 x7 x38 x39 v53 S))
theorem b3o{E:g8}{w0:j0}{N0:D→D→D→D→D→D→D→b5→Prop}{N1:D→D→D→D→D→D→D→D→D→D→D→b5→Prop}{Q:D→b5→Prop}{x0 x4 x5 x7 x8 x38 x39 x40 x57 x58 x59:D}{S:b5}(h:a5i E w0 N0 N1 Q x0 x4 x5 x7 x8 x38 x39 x40 x57 x58 x59 S):
  f9 Try.prog E w0 a1U (i7 173 [0,4,5,7,8,38,39,40,57,58,59] [x0,x4,x5,x7,x8,x38,x39,x40,x57,x58,x59]) S (A3 (fun T S=>N1 (T.getD 0 b6) (T.getD 4 b6) (T.getD 5 b6) (T.getD 7 b6) (T.getD 8 b6) (T.getD 38 b6) (T.getD 39 b6) (T.getD 40 b6) (T.getD 57 b6) (T.getD 58 b6) (T.getD 59 b6) S) (a1K E w0 N0 Q)):=g9 B2 B0 A9 mixed (by kernel_rfl) h
theorem b2U{E:g8}{w0:j0}{N0:D→D→D→D→D→D→D→b5→Prop}{Q:D→b5→Prop}(I:Nat→D→D→D→D→D→D→D→D→D→D→D→b5→Prop)
  (step:∀n x0 x4 x5 x7 x8 x38 x39 x40 x57 x58 x59 S,I n x0 x4 x5 x7 x8 x38 x39 x40 x57 x58 x59 S→a5i E w0 N0 (fun x0 x4 x5 x7 x8 x38 x39 x40 x57 x58 x59 S=>∃m,m<n∧I m x0 x4 x5 x7 x8 x38 x39 x40 x57 x58 x59 S) Q x0 x4 x5 x7 x8 x38 x39 x40 x57 x58 x59 S)
  {n:Nat} {x0 x4 x5 x7 x8 x38 x39 x40 x57 x58 x59:D} {S:b5} (h:I n x0 x4 x5 x7 x8 x38 x39 x40 x57 x58 x59 S):f9 Try.prog E w0 (.loop a1U) (i7 173 [0,4,5,7,8,38,39,40,57,58,59] [x0,x4,x5,x7,x8,x38,x39,x40,x57,x58,x59]) S (a1K E w0 N0 Q):=
 o4 (k:=173) (n:=n) (I:=fun n T S=>I n (T.getD 0 b6) (T.getD 4 b6) (T.getD 5 b6) (T.getD 7 b6) (T.getD 8 b6) (T.getD 38 b6) (T.getD 39 b6) (T.getD 40 b6) (T.getD 57 b6) (T.getD 58 b6) (T.getD 59 b6) S) (fun n T S hl hI=>q8 [0,4,5,7,8,38,39,40,57,58,59] hl (f9.mono (b3o (step n _ _ _ _ _ _ _ _ _ _ _ S hI)) fun ex T' S' _ hq=>by cases ex<;>exact hq)) (j2 ..) (Eq.mp (by kernel_rfl) h)
noncomputable def b5B:Code:=(i9 [1,1,1,1,1,1,1,1,1,1,0,1,0,0,1,1,0,0,1,1,1] (Try.f14.body.getD .skip))
def b4u(E:g8)(w0:j0)(N3:D→D→D→D→D→D→D→b5→Prop)(Q:D→b5→Prop):j7→List D→b5→Prop:=
 (p5 7 (L4 Try.prog E w0 B2 B0 A9 (i9 [1,1,1,1,1,1,1,1,1,1,0,1,0,0,1,1,1] (Try.f14.body.getD .skip)) (A3 (fun T S=>N3 (T.getD 0 b6) (T.getD 5 b6) (T.getD 14 b6) (T.getD 16 b6) (T.getD 94 b6) (T.getD 95 b6) (T.getD 96 b6) S) (p5 6 (L4 Try.prog E w0 B2 B0 A9 (i9 [1,1,1,1,1,1,1,1,1,1,1] (Try.f14.body.getD .skip)) (F5 Try.prog Try.f14 Q))))))
def a3O(E:g8)(w0:j0)(N3:D→D→D→D→D→D→D→b5→Prop)(Q:D→b5→Prop)(x0 x5 x14 x16 x17 x19 x94 x95 x96:D)(S:b5):Prop:=
 b4 (j9 x16) fun v84=>
 b4 (d5 .sub v84 (.int .i64 1)) fun v85=>
 b4 (j5 3 x16 v85) fun v86=>
 b4 (d5 .add x17 (.int .i64 1)) fun v87=>
 b4 (j5 1 x5 v87) fun v88=>
 b4 (d9 S v88) fun v89=>
 b4 (W6 v86) fun v90=>
 b4 (p9 1 v90) fun v91=>
 j1 S 1 v91 v89 fun v92 S93=>
 b4 (W6 v86) fun v94=>
 b4 (p9 2 v94) fun v95=>
 j1 S93 1 v95 x19 fun v96 S97=>
 b4 (d5 .add x96 (.int .i64 1)) fun v98=>
 N3 x0 x5 x14 x16 x94 x95 v98 S97
def J2(E:g8)(w0:j0)(N3:D→D→D→D→D→D→D→b5→Prop)(Q:D→b5→Prop)(x0 x5 x14 x16 x17 x19 x94 x95 x96:D)(S:b5):Prop:=f9 Try.prog E w0 b5B (i7 173 [0,5,14,16,17,19,94,95,96] [x0,x5,x14,x16,x17,x19,x94,x95,x96]) S (b4u E w0 N3 Q)
theorem a4g{E:g8}{w0:j0}{N3:D→D→D→D→D→D→D→b5→Prop}{Q:D→b5→Prop}{x0 x5 x14 x16 x17 x19 x94 x95 x96:D}{S:b5}(h:a3O E w0 N3 Q x0 x5 x14 x16 x17 x19 x94 x95 x96 S):J2 E w0 N3 Q x0 x5 x14 x16 x17 x19 x94 x95 x96 S:=g9 B2 B0 A9 mixed (by kernel_rfl) h
noncomputable def M3:Code:=(i9 [1,1,1,1,1,1,1,1,1,1,0,1,0,0] (Try.f14.body.getD .skip))
def M4(E:g8)(w0:j0)(Q:D→b5→Prop):j7→List D→b5→Prop:=
 (p5 6 (L4 Try.prog E w0 B2 B0 A9 (i9 [1,1,1,1,1,1,1,1,1,1,1] (Try.f14.body.getD .skip)) (F5 Try.prog Try.f14 Q)))
def a1L(E:g8)(w0:j0)(N3:D→D→D→D→D→D→D→b5→Prop)(Q:D→b5→Prop)(x0 x5 x14 x16 x94 x95 x96:D)(S:b5):Prop:=
 b4 (d5 .lss x96 x95) fun v69=>
 i5 v69
 (b4 (j5 4 x94 x96) fun v70=>
 b4 (l9 S 4 v70) fun v71=>
 o6 S [(.int .u8 0),(.int .i64 0),(.int .i64 0), .nilSlc] fun v72 S73=>
 j1 S73 4 v72 v71 fun v74 S75=>
 b4 (l9 S75 4 v72) fun v76=>
 b4 (d5 .add x96 (.int .i64 1)) fun v77=>
 b4 (j5 1 x5 v77) fun v78=>
 b4 (d9 S75 v78) fun v79=>
 p8 Try.prog E w0 I9 [v76,v79] S75 fun v80 S81=>
 b4 (o5 v80 0) fun v82=>
 b4 (o5 v80 1) fun v83=>
 b4 (j9 x14) fun v99=>
 b4 (d5 .gtr v99 (.int .i64 0)) fun v100=>
 b4 (d6 (b8 v100 true) (some x14)) fun v101=>
 b4 (d6 (b8 v100 true) (j5 1 v101 (.int .i64 0))) fun v102=>
 b4 (d6 (b8 v100 true) (d9 S81 v102)) fun v103=>
 b4 (d6 (b8 v100 true) (some x5)) fun v104=>
 b4 (d6 (b8 v100 true) (some x96)) fun v105=>
 b4 (d6 (b8 v100 true) (j5 1 v104 v105)) fun v106=>
 b4 (d6 (b8 v100 true) (d9 S81 v106)) fun v107=>
 b4 (d6 (b8 v100 true) (d5 .eql v103 v107)) fun v108=>
 b4 (y9 v100 v108 (.bool false)) fun v109=>
 i5 v109
 (b4 (V2 1 x14 (some (.int .i64 1)) none none) fun v110=>
 b4 (j5 1 x5 x96) fun v111=>
 b4 (d9 S81 v111) fun v112=>
 b4 (B3 (l8 [(.int .i64 0),(.int .i64 0), .nilSlc] [(0,1,v112)])) fun v113=>
 C7 S81 3 (o7 3 (List.replicate 1 [(.int .i64 0),(.int .i64 0), .nilSlc]) [(0,v113)]) 1 fun v114 S115=>
 u4 S115 3 40 x16 v114 fun v116 S117=>
 J2 E w0 N3 Q x0 x5 v110 v116 x96 v82 x94 x95 x96 S117)
 (J2 E w0 N3 Q x0 x5 x14 x16 x96 v82 x94 x95 x96 S81))
 (b4 (j9 x14) fun v118=>
 b4 (d5 .gtr v118 (.int .i64 0)) fun v119=>
 b4 (d6 (b8 v119 false) (some x16)) fun v120=>
 b4 (d6 (b8 v119 false) (j9 v120)) fun v121=>
 b4 (d6 (b8 v119 false) (d5 .eql v121 (.int .i64 0))) fun v122=>
 b4 (y9 v119 (.bool true) v122) fun v123=>
 b4 (d6 (b8 v123 false) (some x16)) fun v124=>
 b4 (d6 (b8 v123 false) (some x16)) fun v125=>
 b4 (d6 (b8 v123 false) (j9 v125)) fun v126=>
 b4 (d6 (b8 v123 false) (d5 .sub v126 (.int .i64 1))) fun v127=>
 b4 (d6 (b8 v123 false) (j5 3 v124 v127)) fun v128=>
 b4 (d6 (b8 v123 false) (p9 2 v128)) fun v129=>
 b4 (d6 (b8 v123 false) (d9 S v129)) fun v130=>
 b4 (d6 (b8 v123 false) (some x0)) fun v131=>
 b4 (d6 (b8 v123 false) (j9 v131)) fun v132=>
 a2B (b8 v123 false) (fun K=>p8 Try.prog E w0 J4 [v130,v132] S K) S fun v133 S134=>
 b4 (y9 v123 (.bool true) v133) fun v135=>
 i5 v135
 (Q (.tup [.nilSlc,(.int .i64 190)]) S134)
 (Q (.tup [x16,(.int .i64 0)]) S134))
theorem b3r{E:g8}{w0:j0}{N3:D→D→D→D→D→D→D→b5→Prop}{Q:D→b5→Prop}{x0 x5 x14 x16 x94 x95 x96:D}{S:b5}(h:a1L E w0 N3 Q x0 x5 x14 x16 x94 x95 x96 S):
  f9 Try.prog E w0 M3 (i7 173 [0,5,14,16,94,95,96] [x0,x5,x14,x16,x94,x95,x96]) S (A3 (fun T S=>N3 (T.getD 0 b6) (T.getD 5 b6) (T.getD 14 b6) (T.getD 16 b6) (T.getD 94 b6) (T.getD 95 b6) (T.getD 96 b6) S) (M4 E w0 Q)):=g9 B2 B0 A9 mixed (by kernel_rfl) h
theorem a5P{E:g8}{w0:j0}{Q:D→b5→Prop}(I:Nat→D→D→D→D→D→D→D→b5→Prop)
  (step:∀n x0 x5 x14 x16 x94 x95 x96 S,I n x0 x5 x14 x16 x94 x95 x96 S→a1L E w0 (fun x0 x5 x14 x16 x94 x95 x96 S=>∃m,m<n∧I m x0 x5 x14 x16 x94 x95 x96 S) Q x0 x5 x14 x16 x94 x95 x96 S)
  {n:Nat} {x0 x5 x14 x16 x94 x95 x96:D} {S:b5} (h:I n x0 x5 x14 x16 x94 x95 x96 S):f9 Try.prog E w0 (.loop M3) (i7 173 [0,5,14,16,94,95,96] [x0,x5,x14,x16,x94,x95,x96]) S (M4 E w0 Q):=
 o4 (k:=173) (n:=n) (I:=fun n T S=>I n (T.getD 0 b6) (T.getD 5 b6) (T.getD 14 b6) (T.getD 16 b6) (T.getD 94 b6) (T.getD 95 b6) (T.getD 96 b6) S) (fun n T S hl hI=>q8 [0,5,14,16,94,95,96] hl (f9.mono (b3r (step n _ _ _ _ _ _ _ S hI)) fun ex T' S' _ hq=>by cases ex<;>exact hq)) (j2 ..) (Eq.mp (by kernel_rfl) h)
noncomputable def a0v:Code:=(i9 [1,1,1,1,1,1,1,0,1,0,0] (Try.f14.body.getD .skip))
def a0s(E:g8)(w0:j0)(Q:D→b5→Prop):j7→List D→b5→Prop:=
 (p5 4 (L4 Try.prog E w0 B2 B0 A9 (i9 [1,1,1,1,1,1,1,1] (Try.f14.body.getD .skip)) (F5 Try.prog Try.f14 Q)))
def a4V(E:g8)(w0:j0)(N2:D→D→D→D→D→b5→Prop)(Q:D→b5→Prop)(x0 x4 x5 x14 x83:D)(S:b5):Prop:=
 b8F S x83 fun v56 S57=>
 b4 (o5 v56 0) fun v58=>
 i5 v58
 (b2L S57 x83 fun v59 S60=>
 b4 (o5 v59 0) fun v61=>
 C7 S60 1 (o7 1 (List.replicate 1 [(.int .i64 0)]) [(0,v61)]) 1 fun v62 S63=>
 u4 S63 1 8 x14 v62 fun v64 S65=>
 N2 x0 x4 x5 v64 x83 S65)
 (p8 Try.prog E w0 K5 [x14] S57 fun v66 S67=>
 b4 (j9 x4) fun v68=>
 f9 Try.prog E w0 (.loop M3) (i7 173 [0,5,14,16,94,95,96] [x0,x5,x14, .nilSlc,x4,v68,(.int .i64 0)]) S67 (M4 E w0 Q))
theorem b3D{E:g8}{w0:j0}{N2:D→D→D→D→D→b5→Prop}{Q:D→b5→Prop}{x0 x4 x5 x14 x83:D}{S:b5}(h:a4V E w0 N2 Q x0 x4 x5 x14 x83 S):
  f9 Try.prog E w0 a0v (i7 173 [0,4,5,14,83] [x0,x4,x5,x14,x83]) S (A3 (fun T S=>N2 (T.getD 0 b6) (T.getD 4 b6) (T.getD 5 b6) (T.getD 14 b6) (T.getD 83 b6) S) (a0s E w0 Q)):=g9 B2 B0 A9 mixed (by kernel_rfl) h
theorem b2X{E:g8}{w0:j0}{Q:D→b5→Prop}(I:Nat→D→D→D→D→D→b5→Prop)
  (step:∀n x0 x4 x5 x14 x83 S,I n x0 x4 x5 x14 x83 S→a4V E w0 (fun x0 x4 x5 x14 x83 S=>∃m,m<n∧I m x0 x4 x5 x14 x83 S) Q x0 x4 x5 x14 x83 S)
  {n:Nat} {x0 x4 x5 x14 x83:D} {S:b5} (h:I n x0 x4 x5 x14 x83 S):f9 Try.prog E w0 (.loop a0v) (i7 173 [0,4,5,14,83] [x0,x4,x5,x14,x83]) S (a0s E w0 Q):=
 o4 (k:=173) (n:=n) (I:=fun n T S=>I n (T.getD 0 b6) (T.getD 4 b6) (T.getD 5 b6) (T.getD 14 b6) (T.getD 83 b6) S) (fun n T S hl hI=>q8 [0,4,5,14,83] hl (f9.mono (b3D (step n _ _ _ _ _ S hI)) fun ex T' S' _ hq=>by cases ex<;>exact hq)) (j2 ..) (Eq.mp (by kernel_rfl) h)
noncomputable def a1S:Code:=(i9 [1,1,1,1,1,0,1,0,0] (Try.f14.body.getD .skip))
def a1Z(E:g8)(w0:j0)(Q:D→b5→Prop):j7→List D→b5→Prop:=
 (p5 0 (L4 Try.prog E w0 B2 B0 A9 (i9 [1,1,1,1,1,1] (Try.f14.body.getD .skip)) (F5 Try.prog Try.f14 Q)))
def a4R(E:g8)(w0:j0)(N0:D→D→D→D→D→D→D→b5→Prop)(Q:D→b5→Prop)(x0 x4 x5 x7 x38 x39 x40:D)(S:b5):Prop:=
 b4 (d5 .lss x40 x39) fun v16=>
 i5 v16
 (b4 (j5 4 x38 x40) fun v17=>
 b4 (l9 S 4 v17) fun v18=>
 o6 S [(.int .u8 0),(.int .i64 0),(.int .i64 0), .nilSlc] fun v19 S20=>
 j1 S20 4 v19 v18 fun v21 S22=>
 b4 (l9 S22 4 v19) fun v23=>
 b4 (d5 .add x40 (.int .i64 1)) fun v24=>
 b4 (j5 1 x5 v24) fun v25=>
 b4 (d9 S22 v25) fun v26=>
 p8 Try.prog E w0 I9 [v23,v26] S22 fun v27 S28=>
 b4 (o5 v27 0) fun v29=>
 b4 (o5 v27 1) fun v30=>
 b4 (unD .not v30) fun v31=>
 i5 v31
 (b4 (d5 .add x40 (.int .i64 1)) fun v32=>
 N0 x0 x4 x5 x7 x38 x39 v32 S28)
 (b4 (j9 v29) fun v33=>
 f9 Try.prog E w0 (.loop a1U) (i7 173 [0,4,5,7,8,38,39,40,57,58,59] [x0,x4,x5,x7,x40,x38,x39,x40,v29,v33,(.int .i64 0)]) S28 (a1K E w0 N0 Q)))
 (b0a S x7 fun v54 S55=>
 f9 Try.prog E w0 (.loop a0v) (i7 173 [0,4,5,14,83] [x0,x4,x5, .nilSlc,v54]) S55 (a0s E w0 Q))
theorem b3q{E:g8}{w0:j0}{N0:D→D→D→D→D→D→D→b5→Prop}{Q:D→b5→Prop}{x0 x4 x5 x7 x38 x39 x40:D}{S:b5}(h:a4R E w0 N0 Q x0 x4 x5 x7 x38 x39 x40 S):
  f9 Try.prog E w0 a1S (i7 173 [0,4,5,7,38,39,40] [x0,x4,x5,x7,x38,x39,x40]) S (A3 (fun T S=>N0 (T.getD 0 b6) (T.getD 4 b6) (T.getD 5 b6) (T.getD 7 b6) (T.getD 38 b6) (T.getD 39 b6) (T.getD 40 b6) S) (a1Z E w0 Q)):=g9 B2 B0 A9 mixed (by kernel_rfl) h
theorem b2R{E:g8}{w0:j0}{Q:D→b5→Prop}(I:Nat→D→D→D→D→D→D→D→b5→Prop)
  (step:∀n x0 x4 x5 x7 x38 x39 x40 S,I n x0 x4 x5 x7 x38 x39 x40 S→a4R E w0 (fun x0 x4 x5 x7 x38 x39 x40 S=>∃m,m<n∧I m x0 x4 x5 x7 x38 x39 x40 S) Q x0 x4 x5 x7 x38 x39 x40 S)
  {n:Nat} {x0 x4 x5 x7 x38 x39 x40:D} {S:b5} (h:I n x0 x4 x5 x7 x38 x39 x40 S):f9 Try.prog E w0 (.loop a1S) (i7 173 [0,4,5,7,38,39,40] [x0,x4,x5,x7,x38,x39,x40]) S (a1Z E w0 Q):=
 o4 (k:=173) (n:=n) (I:=fun n T S=>I n (T.getD 0 b6) (T.getD 4 b6) (T.getD 5 b6) (T.getD 7 b6) (T.getD 38 b6) (T.getD 39 b6) (T.getD 40 b6) S) (fun n T S hl hI=>q8 [0,4,5,7,38,39,40] hl (f9.mono (b3q (step n _ _ _ _ _ _ _ S hI)) fun ex T' S' _ hq=>by cases ex<;>exact hq)) (j2 ..) (Eq.mp (by kernel_rfl) h)
def b3U(E:g8)(w0:j0)(Q:D→b5→Prop)(a0:D)(S:b5):Prop:=
 p8 Try.prog E w0 a8y [a0] S fun v0 S1=>
 b4 (o5 v0 0) fun v2=>
 b4 (o5 v0 1) fun v3=>
 b4 (o5 v0 2) fun v4=>
 b4 (d5 .neq v4 (.int .i64 0)) fun v5=>
 i5 v5
 (Q (.tup [.nilSlc,v4]) S1)
 (b4 (j9 a0) fun v6=>
 C7 S1 1 (o7 1 (List.replicate 1 [(.int .i64 0)]) [(0,v6)]) 1 fun v7 S8=>
 u4 S8 1 8 v3 v7 fun v9 S10=>
 b7l S10 fun v11 S12=>
 b4t S12 0 v11 (.int .i64 0) (.int .i64 0) fun v13 S14=>
 b4 (j9 v2) fun v15=>
 f9 Try.prog E w0 (.loop a1S) (i7 173 [0,4,5,7,38,39,40] [a0,v2,v9,v11,v2,v15,(.int .i64 0)]) S14 (a1Z E w0 Q))
theorem b5m{E:g8}{w0:j0}{Q:D→b5→Prop}{a0:D}{S:b5}(h:b3U E w0 (b9 E Q) a0 S):p8 Try.prog E w0 O9 [a0] S Q:=
 j6 B2 B0 A9 (fn:=Try.f14) (c:=Try.f14.body.getD .skip) mixed Try.func14 (by kernel_rfl) (by kernel_rfl) h
def K1:List (Nat×List Nat):=[(6,[0,3,4]),(20,[0,3,5,6]),(32,[0,3,5,6,58,59,60])]
def J9:List (Nat×List Nat):=[(20,[0,3,5,6]),(44,[5])]
def J8:List (Nat×Arr):=[]
noncomputable def L0:Code:=(i9 [1,1,1,1,1,1,1] (Try.f18.body.getD .skip))
def b0y(E:g8)(w0:j0)(Q:D→b5→Prop):j7→List D→b5→Prop:=
 (F5 Try.prog Try.f18 Q)
def V6(E:g8)(w0:j0)(Q:D→b5→Prop)(x5:D)(S:b5):Prop:=f9 Try.prog E w0 L0 (i7 79 [5] [x5]) S (b0y E w0 Q)
noncomputable def Y2:Code:=(i9 [1,1,1,1,1,1,0,0,0,1,0,1,1,1,1,1,0,0] (Try.f18.body.getD .skip))
def Z7(E:g8)(w0:j0)(N1:D→D→D→D→b5→Prop)(Q:D→b5→Prop):j7→List D→b5→Prop:=
 (p5 4 (p5 3 (A3 (fun T S=>N1 (T.getD 0 b6) (T.getD 3 b6) (T.getD 5 b6) (T.getD 6 b6) S) (p5 2 (c0t Try.prog E w0 79 [5] L0 (F5 Try.prog Try.f18 Q))))))
def a1A(E:g8)(w0:j0)(N1:D→D→D→D→b5→Prop)(N2:D→D→D→D→D→D→D→b5→Prop)(Q:D→b5→Prop)(x0 x3 x5 x6 x58 x59 x60:D)(S:b5):Prop:=
 b4 (d5 .lss x60 x59) fun v43=>
 i5 v43
 (b4 (j5 1 x58 x60) fun v44=>
 b4 (d9 S v44) fun v45=>
 b4 (a7O S 0 (.int .i64 0) true x3 v45) fun v46=>
 b4 (o5 v46 0) fun v47=>
 b4 (o5 v46 1) fun v48=>
 i5 v48
 (C7 S 1 (o7 1 (List.replicate 1 [(.int .i64 0)]) [(0,v47)]) 1 fun v49 S50=>
 u4 S50 1 8 x6 v49 fun v51 S52=>
 b4 (d5 .add x60 (.int .i64 1)) fun v53=>
 N2 x0 x3 x5 v51 x58 x59 v53 S52)
 (b4 (d5 .add x60 (.int .i64 1)) fun v54=>
 N2 x0 x3 x5 x6 x58 x59 v54 S))
 (N1 x0 x3 x5 x6 S)
theorem a9a{E:g8}{w0:j0}{N1:D→D→D→D→b5→Prop}{N2:D→D→D→D→D→D→D→b5→Prop}{Q:D→b5→Prop}{x0 x3 x5 x6 x58 x59 x60:D}{S:b5}(h:a1A E w0 N1 N2 Q x0 x3 x5 x6 x58 x59 x60 S):
  f9 Try.prog E w0 Y2 (i7 79 [0,3,5,6,58,59,60] [x0,x3,x5,x6,x58,x59,x60]) S (A3 (fun T S=>N2 (T.getD 0 b6) (T.getD 3 b6) (T.getD 5 b6) (T.getD 6 b6) (T.getD 58 b6) (T.getD 59 b6) (T.getD 60 b6) S) (Z7 E w0 N1 Q)):=g9 K1 J9 J8 mixed (by kernel_rfl) h
theorem a9n{E:g8}{w0:j0}{N1:D→D→D→D→b5→Prop}{Q:D→b5→Prop}(I:Nat→D→D→D→D→D→D→D→b5→Prop)
  (step:∀n x0 x3 x5 x6 x58 x59 x60 S,I n x0 x3 x5 x6 x58 x59 x60 S→a1A E w0 N1 (fun x0 x3 x5 x6 x58 x59 x60 S=>∃m,m<n∧I m x0 x3 x5 x6 x58 x59 x60 S) Q x0 x3 x5 x6 x58 x59 x60 S)
  {n:Nat} {x0 x3 x5 x6 x58 x59 x60:D} {S:b5} (h:I n x0 x3 x5 x6 x58 x59 x60 S):f9 Try.prog E w0 (.loop Y2) (i7 79 [0,3,5,6,58,59,60] [x0,x3,x5,x6,x58,x59,x60]) S (Z7 E w0 N1 Q):=
 o4 (k:=79) (n:=n) (I:=fun n T S=>I n (T.getD 0 b6) (T.getD 3 b6) (T.getD 5 b6) (T.getD 6 b6) (T.getD 58 b6) (T.getD 59 b6) (T.getD 60 b6) S) (fun n T S hl hI=>q8 [0,3,5,6,58,59,60] hl (f9.mono (a9a (step n _ _ _ _ _ _ _ S hI)) fun ex T' S' _ hq=>by cases ex<;>exact hq)) (j2 ..) (Eq.mp (by kernel_rfl) h)
noncomputable def Z0:Code:=(i9 [1,1,1,1,1,1,0,0,0] (Try.f18.body.getD .skip))
def Z8(E:g8)(w0:j0)(Q:D→b5→Prop):j7→List D→b5→Prop:=
 (p5 2 (c0t Try.prog E w0 79 [5] L0 (F5 Try.prog Try.f18 Q)))
def a1y(E:g8)(w0:j0)(N1:D→D→D→D→b5→Prop)(Q:D→b5→Prop)(x0 x3 x5 x6:D)(S:b5):Prop:=
 b4 (j9 x6) fun v17=>
 b4 (d5 .gtr v17 (.int .i64 0)) fun v18=>
 i5 v18
 (b4 (j9 x6) fun v19=>
 b4 (d5 .sub v19 (.int .i64 1)) fun v20=>
 b4 (j5 1 x6 v20) fun v21=>
 b4 (d9 S v21) fun v22=>
 b4 (j5 3 x0 v22) fun v23=>
 b4 (l9 S 3 v23) fun v24=>
 o6 S [(.int .i64 0),(.int .i64 0), .nilSlc] fun v25 S26=>
 j1 S26 3 v25 v24 fun v27 S28=>
 b4 (j9 x6) fun v29=>
 b4 (d5 .sub v29 (.int .i64 1)) fun v30=>
 b4 (V2 1 x6 none (some v30) none) fun v31=>
 b4 (p9 0 v25) fun v32=>
 b4 (d9 S28 v32) fun v33=>
 b4 (a7O S28 0 (.int .i64 0) false x5 v33) fun v34=>
 b4 (d5 .gtr v34 (.int .i64 0)) fun v35=>
 i5 v35
 (N1 x0 x3 x5 v31 S28)
 (b4 (p9 0 v25) fun v36=>
 b4 (d9 S28 v36) fun v37=>
 b4t S28 0 x5 v37 (.int .i64 1) fun v38 S39=>
 b4 (p9 2 v25) fun v40=>
 b4 (d9 S39 v40) fun v41=>
 b4 (j9 v41) fun v42=>
 f9 Try.prog E w0 (.loop Y2) (i7 79 [0,3,5,6,58,59,60] [x0,x3,x5,v31,v41,v42,(.int .i64 0)]) S39 (Z7 E w0 N1 Q)))
 (V6 E w0 Q x5 S)
theorem a9l{E:g8}{w0:j0}{N1:D→D→D→D→b5→Prop}{Q:D→b5→Prop}{x0 x3 x5 x6:D}{S:b5}(h:a1y E w0 N1 Q x0 x3 x5 x6 S):
  f9 Try.prog E w0 Z0 (i7 79 [0,3,5,6] [x0,x3,x5,x6]) S (A3 (fun T S=>N1 (T.getD 0 b6) (T.getD 3 b6) (T.getD 5 b6) (T.getD 6 b6) S) (Z8 E w0 Q)):=g9 K1 J9 J8 mixed (by kernel_rfl) h
theorem a9o{E:g8}{w0:j0}{Q:D→b5→Prop}(I:Nat→D→D→D→D→b5→Prop)
  (step:∀n x0 x3 x5 x6 S,I n x0 x3 x5 x6 S→a1y E w0 (fun x0 x3 x5 x6 S=>∃m,m<n∧I m x0 x3 x5 x6 S) Q x0 x3 x5 x6 S)
  {n:Nat} {x0 x3 x5 x6:D} {S:b5} (h:I n x0 x3 x5 x6 S):f9 Try.prog E w0 (.loop Z0) (i7 79 [0,3,5,6] [x0,x3,x5,x6]) S (Z8 E w0 Q):=
 o4 (k:=79) (n:=n) (I:=fun n T S=>I n (T.getD 0 b6) (T.getD 3 b6) (T.getD 5 b6) (T.getD 6 b6) S) (fun n T S hl hI=>q8 [0,3,5,6] hl (f9.mono (a9l (step n _ _ _ _ S hI)) fun ex T' S' _ hq=>by cases ex<;>exact hq)) (j2 ..) (Eq.mp (by kernel_rfl) h)
noncomputable def b1e:Code:=(i9 [1,1,1,1,1,1] (Try.f18.body.getD .skip))
def b0r(E:g8)(w0:j0)(Q:D→b5→Prop):j7→List D→b5→Prop:=
 (F5 Try.prog Try.f18 Q)
def a4D(E:g8)(w0:j0)(Q:D→b5→Prop)(x0 x3 x5 x6:D)(S:b5):Prop:=
 f9 Try.prog E w0 (.loop Z0) (i7 79 [0,3,5,6] [x0,x3,x5,x6]) S (Z8 E w0 Q)
def G5(E:g8)(w0:j0)(Q:D→b5→Prop)(x0 x3 x5 x6:D)(S:b5):Prop:=f9 Try.prog E w0 b1e (i7 79 [0,3,5,6] [x0,x3,x5,x6]) S (b0r E w0 Q)
theorem a8d{E:g8}{w0:j0}{Q:D→b5→Prop}{x0 x3 x5 x6:D}{S:b5}(h:a4D E w0 Q x0 x3 x5 x6 S):G5 E w0 Q x0 x3 x5 x6 S:=g9 K1 J9 J8 mixed (by kernel_rfl) h
noncomputable def Y3:Code:=(i9 [1,1,0,1,0,0] (Try.f18.body.getD .skip))
def Y7(E:g8)(w0:j0)(Q:D→b5→Prop):j7→List D→b5→Prop:=
 (p5 0 (L4 Try.prog E w0 K1 J9 J8 (i9 [1,1,1] (Try.f18.body.getD .skip)) (F5 Try.prog Try.f18 Q)))
def a1E(E:g8)(w0:j0)(N0:D→D→D→b5→Prop)(Q:D→b5→Prop)(x0 x3 x4:D)(S:b5):Prop:=
 b4 (d5 .geq x4 (.int .i64 0)) fun v4=>
 i5 v4
 (b4 (j5 3 x0 x4) fun v5=>
 b4 (p9 0 v5) fun v6=>
 b4 (d9 S v6) fun v7=>
 b4t S 0 x3 v7 x4 fun v8 S9=>
 b4 (d5 .sub x4 (.int .i64 1)) fun v10=>
 N0 x0 x3 v10 S9)
 (b7l S fun v11 S12=>
 b4 (j9 x0) fun v55=>
 b4 (d5 .gtr v55 (.int .i64 0)) fun v56=>
 i5 v56
 (C7 S12 1 (o7 1 (List.replicate 1 [(.int .i64 0)]) [(0,(.int .i64 0))]) 1 fun v57 S58=>
 G5 E w0 Q x0 x3 v11 v57 S58)
 (G5 E w0 Q x0 x3 v11 .nilSlc S12))
theorem a9i{E:g8}{w0:j0}{N0:D→D→D→b5→Prop}{Q:D→b5→Prop}{x0 x3 x4:D}{S:b5}(h:a1E E w0 N0 Q x0 x3 x4 S):
  f9 Try.prog E w0 Y3 (i7 79 [0,3,4] [x0,x3,x4]) S (A3 (fun T S=>N0 (T.getD 0 b6) (T.getD 3 b6) (T.getD 4 b6) S) (Y7 E w0 Q)):=g9 K1 J9 J8 mixed (by kernel_rfl) h
theorem a9f{E:g8}{w0:j0}{Q:D→b5→Prop}(I:Nat→D→D→D→b5→Prop)
  (step:∀n x0 x3 x4 S,I n x0 x3 x4 S→a1E E w0 (fun x0 x3 x4 S=>∃m,m<n∧I m x0 x3 x4 S) Q x0 x3 x4 S)
  {n:Nat} {x0 x3 x4:D} {S:b5} (h:I n x0 x3 x4 S):f9 Try.prog E w0 (.loop Y3) (i7 79 [0,3,4] [x0,x3,x4]) S (Y7 E w0 Q):=
 o4 (k:=79) (n:=n) (I:=fun n T S=>I n (T.getD 0 b6) (T.getD 3 b6) (T.getD 4 b6) S) (fun n T S hl hI=>q8 [0,3,4] hl (f9.mono (a9i (step n _ _ _ S hI)) fun ex T' S' _ hq=>by cases ex<;>exact hq)) (j2 ..) (Eq.mp (by kernel_rfl) h)
def a7y(E:g8)(w0:j0)(Q:D→b5→Prop)(a0:D)(S:b5):Prop:=
 b7l S fun v0 S1=>
 b4 (j9 a0) fun v2=>
 b4 (d5 .sub v2 (.int .i64 1)) fun v3=>
 f9 Try.prog E w0 (.loop Y3) (i7 79 [0,3,4] [a0,v0,v3]) S1 (Y7 E w0 Q)
theorem b1g{E:g8}{w0:j0}{Q:D→b5→Prop}{a0:D}{S:b5}(h:a7y E w0 (b9 E Q) a0 S):p8 Try.prog E w0 N8 [a0] S Q:=
 j6 K1 J9 J8 (fn:=Try.f18) (c:=Try.f18.body.getD .skip) mixed Try.func18 (by kernel_rfl) (by kernel_rfl) h
def a5Y:List (Nat×List Nat):=[]
def a6t:List (Nat×List Nat):=[]
def a5V:List (Nat×Arr):=[]
def U4(E:g8)(w0:j0)(Q:D→b5→Prop)(a0 a1:D)(S:b5):Prop:=
 p8 Try.prog E w0 P9 [a0,a1] S fun v0 S1=>
 b4 (d5 .geq v0 (.int .i64 0)) fun v2=>
 Q v2 S1
theorem a0w{E:g8}{w0:j0}{Q:D→b5→Prop}{a0 a1:D}{S:b5}(h:U4 E w0 (b9 E Q) a0 a1 S):p8 Try.prog E w0 J4 [a0,a1] S Q:=
 j6 a5Y a6t a5V (fn:=Try.f40) (c:=Try.f40.body.getD .skip) mixed Try.func40 (by kernel_rfl) (by kernel_rfl) h
def a0a:List (Nat×List Nat):=[(4,[0,1,7,8])]
def a0g:List (Nat×List Nat):=[]
def a0c:List (Nat×Arr):=[]
noncomputable def X9:Code:=(i9 [1,0,1,0,0] (Try.f57.body.getD .skip))
def X3(E:g8)(w0:j0)(Q:D→b5→Prop):j7→List D→b5→Prop:=
 (p5 0 (L4 Try.prog E w0 a0a a0g a0c (i9 [1,1] (Try.f57.body.getD .skip)) (F5 Try.prog Try.f57 Q)))
def K4(E:g8)(w0:j0)(N0:D→D→D→D→b5→Prop)(Q:D→b5→Prop)(x0 x1 x7 x8:D)(S:b5):Prop:=
 b4 (d5 .lss x8 x7) fun v1=>
 i5 v1
 (b4 (j5 1 x0 x8) fun v2=>
 b4 (d9 S v2) fun v3=>
 b4 (d5 .eql x1 v3) fun v4=>
 i5 v4
 (Q x8 S)
 (b4 (d5 .add x8 (.int .i64 1)) fun v5=>
 N0 x0 x1 x7 v5 S))
 (Q (.int .i64 (-1)) S)
theorem a5K{E:g8}{w0:j0}{N0:D→D→D→D→b5→Prop}{Q:D→b5→Prop}{x0 x1 x7 x8:D}{S:b5}(h:K4 E w0 N0 Q x0 x1 x7 x8 S):
  f9 Try.prog E w0 X9 (i7 19 [0,1,7,8] [x0,x1,x7,x8]) S (A3 (fun T S=>N0 (T.getD 0 b6) (T.getD 1 b6) (T.getD 7 b6) (T.getD 8 b6) S) (X3 E w0 Q)):=g9 a0a a0g a0c mixed (by kernel_rfl) h
theorem a0L{E:g8}{w0:j0}{Q:D→b5→Prop}(I:Nat→D→D→D→D→b5→Prop)
  (step:∀n x0 x1 x7 x8 S,I n x0 x1 x7 x8 S→K4 E w0 (fun x0 x1 x7 x8 S=>∃m,m<n∧I m x0 x1 x7 x8 S) Q x0 x1 x7 x8 S)
  {n:Nat} {x0 x1 x7 x8:D} {S:b5} (h:I n x0 x1 x7 x8 S):f9 Try.prog E w0 (.loop X9) (i7 19 [0,1,7,8] [x0,x1,x7,x8]) S (X3 E w0 Q):=
 o4 (k:=19) (n:=n) (I:=fun n T S=>I n (T.getD 0 b6) (T.getD 1 b6) (T.getD 7 b6) (T.getD 8 b6) S) (fun n T S hl hI=>q8 [0,1,7,8] hl (f9.mono (a5K (step n _ _ _ _ S hI)) fun ex T' S' _ hq=>by cases ex<;>exact hq)) (j2 ..) (Eq.mp (by kernel_rfl) h)
def a0J(E:g8)(w0:j0)(Q:D→b5→Prop)(a0 a1:D)(S:b5):Prop:=
 b4 (j9 a0) fun v0=>
 f9 Try.prog E w0 (.loop X9) (i7 19 [0,1,7,8] [a0,a1,v0,(.int .i64 0)]) S (X3 E w0 Q)
theorem a1u{E:g8}{w0:j0}{Q:D→b5→Prop}{a0 a1:D}{S:b5}(h:a0J E w0 (b9 E Q) a0 a1 S):p8 Try.prog E w0 P9 [a0,a1] S Q:=
 j6 a0a a0g a0c (fn:=Try.f57) (c:=Try.f57.body.getD .skip) mixed Try.func57 (by kernel_rfl) (by kernel_rfl) h
end Go.Proofs.Ytdkidgkiplcggaa.d
end
