/-
  BlocksJoinSaid: part Oax of its proof.
-/
import Derived.Test.YtdkidgkiplcggaaRows
import Derived.Test.YtdkidgkiplcggaaOar
import Derived.KernelRfl
import Derived.Test.YtdkidgkiplcggaaOaw
import Derived.Test.YtdkidgkiplcggaaOav
set_option linter.unusedVariables false
set_option linter.unusedSimpArgs false
set_option maxRecDepth 100000
section
open Go.Proofs Go Go.Am
namespace Go.Proofs.Ytdkidgkiplcggaa.d
def K7:List (Nat×List Nat):=[(28,[4,33,34,35])]
def L5:List (Nat×List Nat):=[(21,[1,2,9,12]),(41,[1,2,9,20]),(36,[4])]
def L4:List (Nat×Arr):=[]
noncomputable def M3:Code:=(j4 [1,1] (Try.f38.body.getD .skip))
def a6Y(E:d6)(w0:i7)(Q:D→b5→Prop):j7→List D→b5→Prop:=
 (R5 Try.prog Try.f38 Q)
def a2r(E:d6)(w0:i7)(Q:D→b5→Prop)(x4:D)(S:b5):Prop:=
 r7 Try.prog E w0 H4 [x4] S fun v2 S3=>
 r7 Try.prog E w0 H7 [x4] S3 fun v4 S5=>
 Q (.tup [v4,(.bool true)]) S5
def M6(E:d6)(w0:i7)(Q:D→b5→Prop)(x4:D)(S:b5):Prop:=d5 Try.prog E w0 M3 (g8 49 [4] [x4]) S (a6Y E w0 Q)
theorem a4Q{E:d6}{w0:i7}{Q:D→b5→Prop}{x4:D}{S:b5}(h:a2r E w0 Q x4 S):M6 E w0 Q x4 S:=f9 K7 L5 L4 mixed (by kernel_rfl) h
noncomputable def Q2:Code:=(j4 [1,0,1,0,1,1,1,1,1,1,1,0,1,1,0,0] (Try.f38.body.getD .skip))
def Q3(E:d6)(w0:i7)(Q:D→b5→Prop):j7→List D→b5→Prop:=
 (A4 1 (A4 0 (b8Q Try.prog E w0 49 [4] M3 (R5 Try.prog Try.f38 Q))))
def a0a(E:d6)(w0:i7)(N0:D→D→D→D→b5→Prop)(Q:D→b5→Prop)(x4 x33 x34 x35:D)(S:b5):Prop:=
 a8 (d4 .lss x35 x34) fun v25=>
 d9 v25
 (a8 (m9 2 x33 x35) fun v26=>
 a8 (s0 S 2 v26) fun v27=>
 o8 S [(.int .i64 0),(.int .i64 0)] fun v28 S29=>
 j1 S29 2 v28 v27 fun v30 S31=>
 a8 (t6 1 v28) fun v32=>
 a8 (c9 S31 v32) fun v33=>
 M2 S31 1 (A1 1 (List.replicate 1 [(.int .i64 0)]) [(0,v33)]) 1 fun v34 S35=>
 s9 S35 1 8 x4 v34 fun v36 S37=>
 a8 (d4 .add x35 (.int .i64 1)) fun v38=>
 N0 v36 x33 x34 v38 S37)
 (M6 E w0 Q x4 S)
theorem a6k{E:d6}{w0:i7}{N0:D→D→D→D→b5→Prop}{Q:D→b5→Prop}{x4 x33 x34 x35:D}{S:b5}(h:a0a E w0 N0 Q x4 x33 x34 x35 S):
  d5 Try.prog E w0 Q2 (g8 49 [4,33,34,35] [x4,x33,x34,x35]) S (I4 (fun T S=>N0 (T.getD 4 b6) (T.getD 33 b6) (T.getD 34 b6) (T.getD 35 b6) S) (Q3 E w0 Q)):=f9 K7 L5 L4 mixed (by kernel_rfl) h
theorem a6j{E:d6}{w0:i7}{Q:D→b5→Prop}(I:Nat→D→D→D→D→b5→Prop)
  (step:∀n x4 x33 x34 x35 S,I n x4 x33 x34 x35 S→a0a E w0 (fun x4 x33 x34 x35 S=>∃m,m<n∧I m x4 x33 x34 x35 S) Q x4 x33 x34 x35 S)
  {n:Nat} {x4 x33 x34 x35:D} {S:b5} (h:I n x4 x33 x34 x35 S):d5 Try.prog E w0 (.loop Q2) (g8 49 [4,33,34,35] [x4,x33,x34,x35]) S (Q3 E w0 Q):=
 t8 (k:=49) (n:=n) (I:=fun n T S=>I n (T.getD 4 b6) (T.getD 33 b6) (T.getD 34 b6) (T.getD 35 b6) S) (fun n T S hl hI=>z7 [4,33,34,35] hl (d5.mono (a6k (step n _ _ _ _ S hI)) fun ex T' S' _ hq=>by cases ex<;>exact hq)) (j0 ..) (Eq.mp (by kernel_rfl) h)
noncomputable def a7X:Code:=(j4 [1,0,1,0,1,1,1,1,1] (Try.f38.body.getD .skip))
def a6Z(E:d6)(w0:i7)(Q:D→b5→Prop):j7→List D→b5→Prop:=
 (A4 0 (b8Q Try.prog E w0 49 [4] M3 (R5 Try.prog Try.f38 Q)))
def a2t(E:d6)(w0:i7)(Q:D→b5→Prop)(x1 x2 x9 x20:D)(S:b5):Prop:=
 d9 x20
 (a8 (t6 1 x2) fun v13=>
 a8 (c9 S v13) fun v14=>
 M2 S 1 (A1 1 (List.replicate 2 [(.int .i64 0)]) [(0,v14),(1,x1)]) 2 fun v15 S16=>
 M6 E w0 Q v15 S16)
 (a8 (d4 .eql x9 (.int .u8 49)) fun v17=>
 d9 v17
 (a8 (t6 2 x2) fun v18=>
 a8 (c9 S v18) fun v19=>
 M2 S 1 (A1 1 (List.replicate 1 [(.int .i64 0)]) [(0,v19)]) 1 fun v20 S21=>
 a8 (t6 3 x2) fun v22=>
 a8 (c9 S21 v22) fun v23=>
 a8 (j8 v23) fun v24=>
 d5 Try.prog E w0 (.loop Q2) (g8 49 [4,33,34,35] [v20,v23,v24,(.int .i64 0)]) S21 (Q3 E w0 Q))
 (M2 S 1 (A1 1 (List.replicate 1 [(.int .i64 0)]) [(0,x1)]) 1 fun v39 S40=>
 Q (.tup [v39,(.bool false)]) S40))
def M7(E:d6)(w0:i7)(Q:D→b5→Prop)(x1 x2 x9 x20:D)(S:b5):Prop:=d5 Try.prog E w0 a7X (g8 49 [1,2,9,20] [x1,x2,x9,x20]) S (a6Z E w0 Q)
theorem a4C{E:d6}{w0:i7}{Q:D→b5→Prop}{x1 x2 x9 x20:D}{S:b5}(h:a2t E w0 Q x1 x2 x9 x20 S):M7 E w0 Q x1 x2 x9 x20 S:=f9 K7 L5 L4 mixed (by kernel_rfl) h
noncomputable def a7Q:Code:=(j4 [1,0,1,0,1] (Try.f38.body.getD .skip))
def a6X(E:d6)(w0:i7)(Q:D→b5→Prop):j7→List D→b5→Prop:=
 (A4 0 (b8Q Try.prog E w0 49 [4] M3 (R5 Try.prog Try.f38 Q)))
def a2o(E:d6)(w0:i7)(Q:D→b5→Prop)(x1 x2 x9 x12:D)(S:b5):Prop:=
 d9 x12
 (Q (.tup [.nilSlc,(.bool true)]) S)
 (a8 (d4 .eql x9 (.int .u8 46)) fun v8=>
 d9 v8
 (a8 (t6 1 x2) fun v9=>
 a8 (c9 S v9) fun v10=>
 M2 S 1 (A1 1 (List.replicate 1 [(.int .i64 0)]) [(0,v10)]) 1 fun v11 S12=>
 Q (.tup [v11,(.bool true)]) S12)
 (a8 (d4 .eql x9 (.int .u8 47)) fun v41=>
 d9 v41
 (M7 E w0 Q x1 x2 x9 v41 S)
 (a8 (d4 .eql x9 (.int .u8 48)) fun v42=>
 M7 E w0 Q x1 x2 x9 v42 S)))
def M5(E:d6)(w0:i7)(Q:D→b5→Prop)(x1 x2 x9 x12:D)(S:b5):Prop:=d5 Try.prog E w0 a7Q (g8 49 [1,2,9,12] [x1,x2,x9,x12]) S (a6X E w0 Q)
theorem a5k{E:d6}{w0:i7}{Q:D→b5→Prop}{x1 x2 x9 x12:D}{S:b5}(h:a2o E w0 Q x1 x2 x9 x12 S):M5 E w0 Q x1 x2 x9 x12 S:=f9 K7 L5 L4 mixed (by kernel_rfl) h
def a4T(E:d6)(w0:i7)(Q:D→b5→Prop)(a0 a1:D)(S:b5):Prop:=
 a8 (r5 a0) fun cs=>o8 S cs fun v0 S1=>
 a8 (t6 0 v0) fun v6=>
 a8 (c9 S1 v6) fun v7=>
 a8 (d4 .eql v7 (.int .u8 51)) fun v43=>
 d9 v43
 (M5 E w0 Q a1 v0 v7 v43 S1)
 (a8 (d4 .eql v7 (.int .u8 52)) fun v44=>
 M5 E w0 Q a1 v0 v7 v44 S1)
theorem a8p{E:d6}{w0:i7}{Q:D→b5→Prop}{a0 a1:D}{S:b5}(h:a4T E w0 (b8 E Q) a0 a1 S):r7 Try.prog E w0 I9 [a0,a1] S Q:=
 q9 K7 L5 L4 (fn:=Try.f38) (c:=Try.f38.body.getD .skip) mixed Try.func38 (by kernel_rfl) (by kernel_rfl) h
def u9:List (Nat×List Nat):=[(14,[0,4,5,7,38,39,40]),(24,[0,4,5,7,8,38,39,40,57,58,59]),(42,[0,4,5,14,83]),(54,[0,5,14,16,94,95,96])]
def u7:List (Nat×List Nat):=[(66,[0,5,14,16,17,19,94,95,96])]
def y8:List (Nat×Arr):=[]
noncomputable def a0l:Code:=(j4 [1,1,1,1,1,0,1,0,0,1,1,0,0,1,1,1,0,1,0,0] (Try.f14.body.getD .skip))
def a0q(E:d6)(w0:i7)(N0:D→D→D→D→D→D→D→b5→Prop)(Q:D→b5→Prop):j7→List D→b5→Prop:=
 (A4 2 (a1O Try.prog E w0 u9 u7 y8 (j4 [1,1,1,1,1,0,1,0,0,1,1,0,0,1,1,1,1] (Try.f14.body.getD .skip)) (A4 1 (a1O Try.prog E w0 u9 u7 y8 (j4 [1,1,1,1,1,0,1,0,0,1,1,1] (Try.f14.body.getD .skip)) (I4 (fun T S=>N0 (T.getD 0 b6) (T.getD 4 b6) (T.getD 5 b6) (T.getD 7 b6) (T.getD 38 b6) (T.getD 39 b6) (T.getD 40 b6) S) (A4 0 (a1O Try.prog E w0 u9 u7 y8 (j4 [1,1,1,1,1,1] (Try.f14.body.getD .skip)) (R5 Try.prog Try.f14 Q))))))))
def a2B(E:d6)(w0:i7)(N0:D→D→D→D→D→D→D→b5→Prop)(N1:D→D→D→D→D→D→D→D→D→D→D→b5→Prop)(Q:D→b5→Prop)(x0 x4 x5 x7 x8 x38 x39 x40 x57 x58 x59:D)(S:b5):Prop:=
 a8 (d4 .lss x59 x58) fun v34=>
 d9 v34
 (a8 (m9 1 x57 x59) fun v35=>
 a8 (c9 S v35) fun v36=>
 a8 (a4D S 0 (.int .i64 0) false x7 v36) fun v37=>
 a8 (d4 .add v37 (.int .i64 1)) fun v38=>
 b0z S 0 x7 v36 v38 fun v39 S40=>
 a8 (d4 .add x59 (.int .i64 1)) fun v41=>
 N1 x0 x4 x5 x7 x8 x38 x39 x40 x57 x58 v41 S40)
 (a8 (d4 .add x8 (.int .i64 1)) fun v42=>
 a8 (j8 x4) fun v43=>
 a8 (d4 .lss v42 v43) fun v44=>
 d9 v44
 (a8 (d4 .add x8 (.int .i64 1)) fun v45=>
 a8 (m9 1 x5 v45) fun v46=>
 a8 (c9 S v46) fun v47=>
 a8 (a4D S 0 (.int .i64 0) false x7 v47) fun v48=>
 a8 (d4 .add v48 (.int .i64 1)) fun v49=>
 b0z S 0 x7 v47 v49 fun v50 S51=>
 a8 (d4 .add x40 (.int .i64 1)) fun v52=>
 N0 x0 x4 x5 x7 x38 x39 v52 S51)
 (a8 (d4 .add x40 (.int .i64 1)) fun v53=>
 N0 x0 x4 x5 x7 x38 x39 v53 S))
theorem a8X{E:d6}{w0:i7}{N0:D→D→D→D→D→D→D→b5→Prop}{N1:D→D→D→D→D→D→D→D→D→D→D→b5→Prop}{Q:D→b5→Prop}{x0 x4 x5 x7 x8 x38 x39 x40 x57 x58 x59:D}{S:b5}(h:a2B E w0 N0 N1 Q x0 x4 x5 x7 x8 x38 x39 x40 x57 x58 x59 S):
  d5 Try.prog E w0 a0l (g8 173 [0,4,5,7,8,38,39,40,57,58,59] [x0,x4,x5,x7,x8,x38,x39,x40,x57,x58,x59]) S (I4 (fun T S=>N1 (T.getD 0 b6) (T.getD 4 b6) (T.getD 5 b6) (T.getD 7 b6) (T.getD 8 b6) (T.getD 38 b6) (T.getD 39 b6) (T.getD 40 b6) (T.getD 57 b6) (T.getD 58 b6) (T.getD 59 b6) S) (a0q E w0 N0 Q)):=f9 u9 u7 y8 mixed (by kernel_rfl) h
theorem a8G{E:d6}{w0:i7}{N0:D→D→D→D→D→D→D→b5→Prop}{Q:D→b5→Prop}(I:Nat→D→D→D→D→D→D→D→D→D→D→D→b5→Prop)
  (step:∀n x0 x4 x5 x7 x8 x38 x39 x40 x57 x58 x59 S,I n x0 x4 x5 x7 x8 x38 x39 x40 x57 x58 x59 S→a2B E w0 N0 (fun x0 x4 x5 x7 x8 x38 x39 x40 x57 x58 x59 S=>∃m,m<n∧I m x0 x4 x5 x7 x8 x38 x39 x40 x57 x58 x59 S) Q x0 x4 x5 x7 x8 x38 x39 x40 x57 x58 x59 S)
  {n:Nat} {x0 x4 x5 x7 x8 x38 x39 x40 x57 x58 x59:D} {S:b5} (h:I n x0 x4 x5 x7 x8 x38 x39 x40 x57 x58 x59 S):d5 Try.prog E w0 (.loop a0l) (g8 173 [0,4,5,7,8,38,39,40,57,58,59] [x0,x4,x5,x7,x8,x38,x39,x40,x57,x58,x59]) S (a0q E w0 N0 Q):=
 t8 (k:=173) (n:=n) (I:=fun n T S=>I n (T.getD 0 b6) (T.getD 4 b6) (T.getD 5 b6) (T.getD 7 b6) (T.getD 8 b6) (T.getD 38 b6) (T.getD 39 b6) (T.getD 40 b6) (T.getD 57 b6) (T.getD 58 b6) (T.getD 59 b6) S) (fun n T S hl hI=>z7 [0,4,5,7,8,38,39,40,57,58,59] hl (d5.mono (a8X (step n _ _ _ _ _ _ _ _ _ _ _ S hI)) fun ex T' S' _ hq=>by cases ex<;>exact hq)) (j0 ..) (Eq.mp (by kernel_rfl) h)
noncomputable def b2o:Code:=(j4 [1,1,1,1,1,1,1,1,1,1,0,1,0,0,1,1,0,0,1,1,1] (Try.f14.body.getD .skip))
def b0M(E:d6)(w0:i7)(N3:D→D→D→D→D→D→D→b5→Prop)(Q:D→b5→Prop):j7→List D→b5→Prop:=
 (A4 7 (a1O Try.prog E w0 u9 u7 y8 (j4 [1,1,1,1,1,1,1,1,1,1,0,1,0,0,1,1,1] (Try.f14.body.getD .skip)) (I4 (fun T S=>N3 (T.getD 0 b6) (T.getD 5 b6) (T.getD 14 b6) (T.getD 16 b6) (T.getD 94 b6) (T.getD 95 b6) (T.getD 96 b6) S) (A4 6 (a1O Try.prog E w0 u9 u7 y8 (j4 [1,1,1,1,1,1,1,1,1,1,1] (Try.f14.body.getD .skip)) (R5 Try.prog Try.f14 Q))))))
def a4s(E:d6)(w0:i7)(N3:D→D→D→D→D→D→D→b5→Prop)(Q:D→b5→Prop)(x0 x5 x14 x16 x17 x19 x94 x95 x96:D)(S:b5):Prop:=
 a8 (j8 x16) fun v84=>
 a8 (d4 .sub v84 (.int .i64 1)) fun v85=>
 a8 (m9 3 x16 v85) fun v86=>
 a8 (d4 .add x17 (.int .i64 1)) fun v87=>
 a8 (m9 1 x5 v87) fun v88=>
 a8 (c9 S v88) fun v89=>
 a8 (a2M v86) fun v90=>
 a8 (t6 1 v90) fun v91=>
 j1 S 1 v91 v89 fun v92 S93=>
 a8 (a2M v86) fun v94=>
 a8 (t6 2 v94) fun v95=>
 j1 S93 1 v95 x19 fun v96 S97=>
 a8 (d4 .add x96 (.int .i64 1)) fun v98=>
 N3 x0 x5 x14 x16 x94 x95 v98 S97
def N8(E:d6)(w0:i7)(N3:D→D→D→D→D→D→D→b5→Prop)(Q:D→b5→Prop)(x0 x5 x14 x16 x17 x19 x94 x95 x96:D)(S:b5):Prop:=d5 Try.prog E w0 b2o (g8 173 [0,5,14,16,17,19,94,95,96] [x0,x5,x14,x16,x17,x19,x94,x95,x96]) S (b0M E w0 N3 Q)
theorem a8l{E:d6}{w0:i7}{N3:D→D→D→D→D→D→D→b5→Prop}{Q:D→b5→Prop}{x0 x5 x14 x16 x17 x19 x94 x95 x96:D}{S:b5}(h:a4s E w0 N3 Q x0 x5 x14 x16 x17 x19 x94 x95 x96 S):N8 E w0 N3 Q x0 x5 x14 x16 x17 x19 x94 x95 x96 S:=f9 u9 u7 y8 mixed (by kernel_rfl) h
noncomputable def U1:Code:=(j4 [1,1,1,1,1,1,1,1,1,1,0,1,0,0] (Try.f14.body.getD .skip))
def U8(E:d6)(w0:i7)(Q:D→b5→Prop):j7→List D→b5→Prop:=
 (A4 6 (a1O Try.prog E w0 u9 u7 y8 (j4 [1,1,1,1,1,1,1,1,1,1,1] (Try.f14.body.getD .skip)) (R5 Try.prog Try.f14 Q)))
def a2G(E:d6)(w0:i7)(N3:D→D→D→D→D→D→D→b5→Prop)(Q:D→b5→Prop)(x0 x5 x14 x16 x94 x95 x96:D)(S:b5):Prop:=
 a8 (d4 .lss x96 x95) fun v69=>
 d9 v69
 (a8 (m9 4 x94 x96) fun v70=>
 a8 (s0 S 4 v70) fun v71=>
 o8 S [(.int .u8 0),(.int .i64 0),(.int .i64 0), .nilSlc] fun v72 S73=>
 j1 S73 4 v72 v71 fun v74 S75=>
 a8 (s0 S75 4 v72) fun v76=>
 a8 (d4 .add x96 (.int .i64 1)) fun v77=>
 a8 (m9 1 x5 v77) fun v78=>
 a8 (c9 S75 v78) fun v79=>
 r7 Try.prog E w0 I9 [v76,v79] S75 fun v80 S81=>
 a8 (m6 v80 0) fun v82=>
 a8 (m6 v80 1) fun v83=>
 a8 (j8 x14) fun v99=>
 a8 (d4 .gtr v99 (.int .i64 0)) fun v100=>
 a8 (c8 (b7 v100 true) (some x14)) fun v101=>
 a8 (c8 (b7 v100 true) (m9 1 v101 (.int .i64 0))) fun v102=>
 a8 (c8 (b7 v100 true) (c9 S81 v102)) fun v103=>
 a8 (c8 (b7 v100 true) (some x5)) fun v104=>
 a8 (c8 (b7 v100 true) (some x96)) fun v105=>
 a8 (c8 (b7 v100 true) (m9 1 v104 v105)) fun v106=>
 a8 (c8 (b7 v100 true) (c9 S81 v106)) fun v107=>
 a8 (c8 (b7 v100 true) (d4 .eql v103 v107)) fun v108=>
 a8 (F5 v100 v108 (.bool false)) fun v109=>
 d9 v109
 (a8 (V3 1 x14 (some (.int .i64 1)) none none) fun v110=>
 a8 (m9 1 x5 x96) fun v111=>
 a8 (c9 S81 v111) fun v112=>
 a8 (E2 (r8 [(.int .i64 0),(.int .i64 0), .nilSlc] [(0,1,v112)])) fun v113=>
 M2 S81 3 (A1 3 (List.replicate 1 [(.int .i64 0),(.int .i64 0), .nilSlc]) [(0,v113)]) 1 fun v114 S115=>
 s9 S115 3 40 x16 v114 fun v116 S117=>
 N8 E w0 N3 Q x0 x5 v110 v116 x96 v82 x94 x95 x96 S117)
 (N8 E w0 N3 Q x0 x5 x14 x16 x96 v82 x94 x95 x96 S81))
 (a8 (j8 x14) fun v118=>
 a8 (d4 .gtr v118 (.int .i64 0)) fun v119=>
 a8 (c8 (b7 v119 false) (some x16)) fun v120=>
 a8 (c8 (b7 v119 false) (j8 v120)) fun v121=>
 a8 (c8 (b7 v119 false) (d4 .eql v121 (.int .i64 0))) fun v122=>
 a8 (F5 v119 (.bool true) v122) fun v123=>
 a8 (c8 (b7 v123 false) (some x16)) fun v124=>
 a8 (c8 (b7 v123 false) (some x16)) fun v125=>
 a8 (c8 (b7 v123 false) (j8 v125)) fun v126=>
 a8 (c8 (b7 v123 false) (d4 .sub v126 (.int .i64 1))) fun v127=>
 a8 (c8 (b7 v123 false) (m9 3 v124 v127)) fun v128=>
 a8 (c8 (b7 v123 false) (t6 2 v128)) fun v129=>
 a8 (c8 (b7 v123 false) (c9 S v129)) fun v130=>
 a8 (c8 (b7 v123 false) (some x0)) fun v131=>
 a8 (c8 (b7 v123 false) (j8 v131)) fun v132=>
 a0J (b7 v123 false) (fun K=>r7 Try.prog E w0 M0 [v130,v132] S K) S fun v133 S134=>
 a8 (F5 v123 (.bool true) v133) fun v135=>
 d9 v135
 (Q (.tup [.nilSlc,(.int .i64 190)]) S134)
 (Q (.tup [x16,(.int .i64 0)]) S134))
theorem a9r{E:d6}{w0:i7}{N3:D→D→D→D→D→D→D→b5→Prop}{Q:D→b5→Prop}{x0 x5 x14 x16 x94 x95 x96:D}{S:b5}(h:a2G E w0 N3 Q x0 x5 x14 x16 x94 x95 x96 S):
  d5 Try.prog E w0 U1 (g8 173 [0,5,14,16,94,95,96] [x0,x5,x14,x16,x94,x95,x96]) S (I4 (fun T S=>N3 (T.getD 0 b6) (T.getD 5 b6) (T.getD 14 b6) (T.getD 16 b6) (T.getD 94 b6) (T.getD 95 b6) (T.getD 96 b6) S) (U8 E w0 Q)):=f9 u9 u7 y8 mixed (by kernel_rfl) h
theorem a8C{E:d6}{w0:i7}{Q:D→b5→Prop}(I:Nat→D→D→D→D→D→D→D→b5→Prop)
  (step:∀n x0 x5 x14 x16 x94 x95 x96 S,I n x0 x5 x14 x16 x94 x95 x96 S→a2G E w0 (fun x0 x5 x14 x16 x94 x95 x96 S=>∃m,m<n∧I m x0 x5 x14 x16 x94 x95 x96 S) Q x0 x5 x14 x16 x94 x95 x96 S)
  {n:Nat} {x0 x5 x14 x16 x94 x95 x96:D} {S:b5} (h:I n x0 x5 x14 x16 x94 x95 x96 S):d5 Try.prog E w0 (.loop U1) (g8 173 [0,5,14,16,94,95,96] [x0,x5,x14,x16,x94,x95,x96]) S (U8 E w0 Q):=
 t8 (k:=173) (n:=n) (I:=fun n T S=>I n (T.getD 0 b6) (T.getD 5 b6) (T.getD 14 b6) (T.getD 16 b6) (T.getD 94 b6) (T.getD 95 b6) (T.getD 96 b6) S) (fun n T S hl hI=>z7 [0,5,14,16,94,95,96] hl (d5.mono (a9r (step n _ _ _ _ _ _ _ S hI)) fun ex T' S' _ hq=>by cases ex<;>exact hq)) (j0 ..) (Eq.mp (by kernel_rfl) h)
noncomputable def U2:Code:=(j4 [1,1,1,1,1,1,1,0,1,0,0] (Try.f14.body.getD .skip))
def U3(E:d6)(w0:i7)(Q:D→b5→Prop):j7→List D→b5→Prop:=
 (A4 4 (a1O Try.prog E w0 u9 u7 y8 (j4 [1,1,1,1,1,1,1,1] (Try.f14.body.getD .skip)) (R5 Try.prog Try.f14 Q)))
def a2F(E:d6)(w0:i7)(N2:D→D→D→D→D→b5→Prop)(Q:D→b5→Prop)(x0 x4 x5 x14 x83:D)(S:b5):Prop:=
 b4D S x83 fun v56 S57=>
 a8 (m6 v56 0) fun v58=>
 d9 v58
 (a9k S57 x83 fun v59 S60=>
 a8 (m6 v59 0) fun v61=>
 M2 S60 1 (A1 1 (List.replicate 1 [(.int .i64 0)]) [(0,v61)]) 1 fun v62 S63=>
 s9 S63 1 8 x14 v62 fun v64 S65=>
 N2 x0 x4 x5 v64 x83 S65)
 (r7 Try.prog E w0 H4 [x14] S57 fun v66 S67=>
 a8 (j8 x4) fun v68=>
 d5 Try.prog E w0 (.loop U1) (g8 173 [0,5,14,16,94,95,96] [x0,x5,x14, .nilSlc,x4,v68,(.int .i64 0)]) S67 (U8 E w0 Q))
theorem a9y{E:d6}{w0:i7}{N2:D→D→D→D→D→b5→Prop}{Q:D→b5→Prop}{x0 x4 x5 x14 x83:D}{S:b5}(h:a2F E w0 N2 Q x0 x4 x5 x14 x83 S):
  d5 Try.prog E w0 U2 (g8 173 [0,4,5,14,83] [x0,x4,x5,x14,x83]) S (I4 (fun T S=>N2 (T.getD 0 b6) (T.getD 4 b6) (T.getD 5 b6) (T.getD 14 b6) (T.getD 83 b6) S) (U3 E w0 Q)):=f9 u9 u7 y8 mixed (by kernel_rfl) h
theorem a8Z{E:d6}{w0:i7}{Q:D→b5→Prop}(I:Nat→D→D→D→D→D→b5→Prop)
  (step:∀n x0 x4 x5 x14 x83 S,I n x0 x4 x5 x14 x83 S→a2F E w0 (fun x0 x4 x5 x14 x83 S=>∃m,m<n∧I m x0 x4 x5 x14 x83 S) Q x0 x4 x5 x14 x83 S)
  {n:Nat} {x0 x4 x5 x14 x83:D} {S:b5} (h:I n x0 x4 x5 x14 x83 S):d5 Try.prog E w0 (.loop U2) (g8 173 [0,4,5,14,83] [x0,x4,x5,x14,x83]) S (U3 E w0 Q):=
 t8 (k:=173) (n:=n) (I:=fun n T S=>I n (T.getD 0 b6) (T.getD 4 b6) (T.getD 5 b6) (T.getD 14 b6) (T.getD 83 b6) S) (fun n T S hl hI=>z7 [0,4,5,14,83] hl (d5.mono (a9y (step n _ _ _ _ _ S hI)) fun ex T' S' _ hq=>by cases ex<;>exact hq)) (j0 ..) (Eq.mp (by kernel_rfl) h)
noncomputable def a0r:Code:=(j4 [1,1,1,1,1,0,1,0,0] (Try.f14.body.getD .skip))
def a0j(E:d6)(w0:i7)(Q:D→b5→Prop):j7→List D→b5→Prop:=
 (A4 0 (a1O Try.prog E w0 u9 u7 y8 (j4 [1,1,1,1,1,1] (Try.f14.body.getD .skip)) (R5 Try.prog Try.f14 Q)))
def a2E(E:d6)(w0:i7)(N0:D→D→D→D→D→D→D→b5→Prop)(Q:D→b5→Prop)(x0 x4 x5 x7 x38 x39 x40:D)(S:b5):Prop:=
 a8 (d4 .lss x40 x39) fun v16=>
 d9 v16
 (a8 (m9 4 x38 x40) fun v17=>
 a8 (s0 S 4 v17) fun v18=>
 o8 S [(.int .u8 0),(.int .i64 0),(.int .i64 0), .nilSlc] fun v19 S20=>
 j1 S20 4 v19 v18 fun v21 S22=>
 a8 (s0 S22 4 v19) fun v23=>
 a8 (d4 .add x40 (.int .i64 1)) fun v24=>
 a8 (m9 1 x5 v24) fun v25=>
 a8 (c9 S22 v25) fun v26=>
 r7 Try.prog E w0 I9 [v23,v26] S22 fun v27 S28=>
 a8 (m6 v27 0) fun v29=>
 a8 (m6 v27 1) fun v30=>
 a8 (unD .not v30) fun v31=>
 d9 v31
 (a8 (d4 .add x40 (.int .i64 1)) fun v32=>
 N0 x0 x4 x5 x7 x38 x39 v32 S28)
 (a8 (j8 v29) fun v33=>
 d5 Try.prog E w0 (.loop a0l) (g8 173 [0,4,5,7,8,38,39,40,57,58,59] [x0,x4,x5,x7,x40,x38,x39,x40,v29,v33,(.int .i64 0)]) S28 (a0q E w0 N0 Q)))
 (a6R S x7 fun v54 S55=>
 d5 Try.prog E w0 (.loop U2) (g8 173 [0,4,5,14,83] [x0,x4,x5, .nilSlc,v54]) S55 (U3 E w0 Q))
theorem a9C{E:d6}{w0:i7}{N0:D→D→D→D→D→D→D→b5→Prop}{Q:D→b5→Prop}{x0 x4 x5 x7 x38 x39 x40:D}{S:b5}(h:a2E E w0 N0 Q x0 x4 x5 x7 x38 x39 x40 S):
  d5 Try.prog E w0 a0r (g8 173 [0,4,5,7,38,39,40] [x0,x4,x5,x7,x38,x39,x40]) S (I4 (fun T S=>N0 (T.getD 0 b6) (T.getD 4 b6) (T.getD 5 b6) (T.getD 7 b6) (T.getD 38 b6) (T.getD 39 b6) (T.getD 40 b6) S) (a0j E w0 Q)):=f9 u9 u7 y8 mixed (by kernel_rfl) h
theorem a9x{E:d6}{w0:i7}{Q:D→b5→Prop}(I:Nat→D→D→D→D→D→D→D→b5→Prop)
  (step:∀n x0 x4 x5 x7 x38 x39 x40 S,I n x0 x4 x5 x7 x38 x39 x40 S→a2E E w0 (fun x0 x4 x5 x7 x38 x39 x40 S=>∃m,m<n∧I m x0 x4 x5 x7 x38 x39 x40 S) Q x0 x4 x5 x7 x38 x39 x40 S)
  {n:Nat} {x0 x4 x5 x7 x38 x39 x40:D} {S:b5} (h:I n x0 x4 x5 x7 x38 x39 x40 S):d5 Try.prog E w0 (.loop a0r) (g8 173 [0,4,5,7,38,39,40] [x0,x4,x5,x7,x38,x39,x40]) S (a0j E w0 Q):=
 t8 (k:=173) (n:=n) (I:=fun n T S=>I n (T.getD 0 b6) (T.getD 4 b6) (T.getD 5 b6) (T.getD 7 b6) (T.getD 38 b6) (T.getD 39 b6) (T.getD 40 b6) S) (fun n T S hl hI=>z7 [0,4,5,7,38,39,40] hl (d5.mono (a9C (step n _ _ _ _ _ _ _ S hI)) fun ex T' S' _ hq=>by cases ex<;>exact hq)) (j0 ..) (Eq.mp (by kernel_rfl) h)
def b0b(E:d6)(w0:i7)(Q:D→b5→Prop)(a0:D)(S:b5):Prop:=
 r7 Try.prog E w0 Y7 [a0] S fun v0 S1=>
 a8 (m6 v0 0) fun v2=>
 a8 (m6 v0 1) fun v3=>
 a8 (m6 v0 2) fun v4=>
 a8 (d4 .neq v4 (.int .i64 0)) fun v5=>
 d9 v5
 (Q (.tup [.nilSlc,v4]) S1)
 (a8 (j8 a0) fun v6=>
 M2 S1 1 (A1 1 (List.replicate 1 [(.int .i64 0)]) [(0,v6)]) 1 fun v7 S8=>
 s9 S8 1 8 v3 v7 fun v9 S10=>
 b2k S10 fun v11 S12=>
 b0z S12 0 v11 (.int .i64 0) (.int .i64 0) fun v13 S14=>
 a8 (j8 v2) fun v15=>
 d5 Try.prog E w0 (.loop a0r) (g8 173 [0,4,5,7,38,39,40] [a0,v2,v9,v11,v2,v15,(.int .i64 0)]) S14 (a0j E w0 Q))
theorem b2v{E:d6}{w0:i7}{Q:D→b5→Prop}{a0:D}{S:b5}(h:b0b E w0 (b8 E Q) a0 S):r7 Try.prog E w0 E8 [a0] S Q:=
 q9 u9 u7 y8 (fn:=Try.f14) (c:=Try.f14.body.getD .skip) mixed Try.func14 (by kernel_rfl) (by kernel_rfl) h
def G3:List (Nat×List Nat):=[(6,[0,3,4]),(20,[0,3,5,6]),(32,[0,3,5,6,58,59,60])]
def G4:List (Nat×List Nat):=[(20,[0,3,5,6]),(44,[5])]
def G5:List (Nat×Arr):=[]
noncomputable def G9:Code:=(j4 [1,1,1,1,1,1,1] (Try.f18.body.getD .skip))
def a7d(E:d6)(w0:i7)(Q:D→b5→Prop):j7→List D→b5→Prop:=
 (R5 Try.prog Try.f18 Q)
def M8(E:d6)(w0:i7)(Q:D→b5→Prop)(x5:D)(S:b5):Prop:=d5 Try.prog E w0 G9 (g8 79 [5] [x5]) S (a7d E w0 Q)
noncomputable def P7:Code:=(j4 [1,1,1,1,1,1,0,0,0,1,0,1,1,1,1,1,0,0] (Try.f18.body.getD .skip))
def P8(E:d6)(w0:i7)(N1:D→D→D→D→b5→Prop)(Q:D→b5→Prop):j7→List D→b5→Prop:=
 (A4 4 (A4 3 (I4 (fun T S=>N1 (T.getD 0 b6) (T.getD 3 b6) (T.getD 5 b6) (T.getD 6 b6) S) (A4 2 (b8Q Try.prog E w0 79 [5] G9 (R5 Try.prog Try.f18 Q))))))
def Z3(E:d6)(w0:i7)(N1:D→D→D→D→b5→Prop)(N2:D→D→D→D→D→D→D→b5→Prop)(Q:D→b5→Prop)(x0 x3 x5 x6 x58 x59 x60:D)(S:b5):Prop:=
 a8 (d4 .lss x60 x59) fun v43=>
 d9 v43
 (a8 (m9 1 x58 x60) fun v44=>
 a8 (c9 S v44) fun v45=>
 a8 (a4D S 0 (.int .i64 0) true x3 v45) fun v46=>
 a8 (m6 v46 0) fun v47=>
 a8 (m6 v46 1) fun v48=>
 d9 v48
 (M2 S 1 (A1 1 (List.replicate 1 [(.int .i64 0)]) [(0,v47)]) 1 fun v49 S50=>
 s9 S50 1 8 x6 v49 fun v51 S52=>
 a8 (d4 .add x60 (.int .i64 1)) fun v53=>
 N2 x0 x3 x5 v51 x58 x59 v53 S52)
 (a8 (d4 .add x60 (.int .i64 1)) fun v54=>
 N2 x0 x3 x5 x6 x58 x59 v54 S))
 (N1 x0 x3 x5 x6 S)
theorem a6f{E:d6}{w0:i7}{N1:D→D→D→D→b5→Prop}{N2:D→D→D→D→D→D→D→b5→Prop}{Q:D→b5→Prop}{x0 x3 x5 x6 x58 x59 x60:D}{S:b5}(h:Z3 E w0 N1 N2 Q x0 x3 x5 x6 x58 x59 x60 S):
  d5 Try.prog E w0 P7 (g8 79 [0,3,5,6,58,59,60] [x0,x3,x5,x6,x58,x59,x60]) S (I4 (fun T S=>N2 (T.getD 0 b6) (T.getD 3 b6) (T.getD 5 b6) (T.getD 6 b6) (T.getD 58 b6) (T.getD 59 b6) (T.getD 60 b6) S) (P8 E w0 N1 Q)):=f9 G3 G4 G5 mixed (by kernel_rfl) h
theorem a5Y{E:d6}{w0:i7}{N1:D→D→D→D→b5→Prop}{Q:D→b5→Prop}(I:Nat→D→D→D→D→D→D→D→b5→Prop)
  (step:∀n x0 x3 x5 x6 x58 x59 x60 S,I n x0 x3 x5 x6 x58 x59 x60 S→Z3 E w0 N1 (fun x0 x3 x5 x6 x58 x59 x60 S=>∃m,m<n∧I m x0 x3 x5 x6 x58 x59 x60 S) Q x0 x3 x5 x6 x58 x59 x60 S)
  {n:Nat} {x0 x3 x5 x6 x58 x59 x60:D} {S:b5} (h:I n x0 x3 x5 x6 x58 x59 x60 S):d5 Try.prog E w0 (.loop P7) (g8 79 [0,3,5,6,58,59,60] [x0,x3,x5,x6,x58,x59,x60]) S (P8 E w0 N1 Q):=
 t8 (k:=79) (n:=n) (I:=fun n T S=>I n (T.getD 0 b6) (T.getD 3 b6) (T.getD 5 b6) (T.getD 6 b6) (T.getD 58 b6) (T.getD 59 b6) (T.getD 60 b6) S) (fun n T S hl hI=>z7 [0,3,5,6,58,59,60] hl (d5.mono (a6f (step n _ _ _ _ _ _ _ S hI)) fun ex T' S' _ hq=>by cases ex<;>exact hq)) (j0 ..) (Eq.mp (by kernel_rfl) h)
noncomputable def P6:Code:=(j4 [1,1,1,1,1,1,0,0,0] (Try.f18.body.getD .skip))
def R3(E:d6)(w0:i7)(Q:D→b5→Prop):j7→List D→b5→Prop:=
 (A4 2 (b8Q Try.prog E w0 79 [5] G9 (R5 Try.prog Try.f18 Q)))
def Z9(E:d6)(w0:i7)(N1:D→D→D→D→b5→Prop)(Q:D→b5→Prop)(x0 x3 x5 x6:D)(S:b5):Prop:=
 a8 (j8 x6) fun v17=>
 a8 (d4 .gtr v17 (.int .i64 0)) fun v18=>
 d9 v18
 (a8 (j8 x6) fun v19=>
 a8 (d4 .sub v19 (.int .i64 1)) fun v20=>
 a8 (m9 1 x6 v20) fun v21=>
 a8 (c9 S v21) fun v22=>
 a8 (m9 3 x0 v22) fun v23=>
 a8 (s0 S 3 v23) fun v24=>
 o8 S [(.int .i64 0),(.int .i64 0), .nilSlc] fun v25 S26=>
 j1 S26 3 v25 v24 fun v27 S28=>
 a8 (j8 x6) fun v29=>
 a8 (d4 .sub v29 (.int .i64 1)) fun v30=>
 a8 (V3 1 x6 none (some v30) none) fun v31=>
 a8 (t6 0 v25) fun v32=>
 a8 (c9 S28 v32) fun v33=>
 a8 (a4D S28 0 (.int .i64 0) false x5 v33) fun v34=>
 a8 (d4 .gtr v34 (.int .i64 0)) fun v35=>
 d9 v35
 (N1 x0 x3 x5 v31 S28)
 (a8 (t6 0 v25) fun v36=>
 a8 (c9 S28 v36) fun v37=>
 b0z S28 0 x5 v37 (.int .i64 1) fun v38 S39=>
 a8 (t6 2 v25) fun v40=>
 a8 (c9 S39 v40) fun v41=>
 a8 (j8 v41) fun v42=>
 d5 Try.prog E w0 (.loop P7) (g8 79 [0,3,5,6,58,59,60] [x0,x3,x5,v31,v41,v42,(.int .i64 0)]) S39 (P8 E w0 N1 Q)))
 (M8 E w0 Q x5 S)
theorem a6a{E:d6}{w0:i7}{N1:D→D→D→D→b5→Prop}{Q:D→b5→Prop}{x0 x3 x5 x6:D}{S:b5}(h:Z9 E w0 N1 Q x0 x3 x5 x6 S):
  d5 Try.prog E w0 P6 (g8 79 [0,3,5,6] [x0,x3,x5,x6]) S (I4 (fun T S=>N1 (T.getD 0 b6) (T.getD 3 b6) (T.getD 5 b6) (T.getD 6 b6) S) (R3 E w0 Q)):=f9 G3 G4 G5 mixed (by kernel_rfl) h
theorem a5V{E:d6}{w0:i7}{Q:D→b5→Prop}(I:Nat→D→D→D→D→b5→Prop)
  (step:∀n x0 x3 x5 x6 S,I n x0 x3 x5 x6 S→Z9 E w0 (fun x0 x3 x5 x6 S=>∃m,m<n∧I m x0 x3 x5 x6 S) Q x0 x3 x5 x6 S)
  {n:Nat} {x0 x3 x5 x6:D} {S:b5} (h:I n x0 x3 x5 x6 S):d5 Try.prog E w0 (.loop P6) (g8 79 [0,3,5,6] [x0,x3,x5,x6]) S (R3 E w0 Q):=
 t8 (k:=79) (n:=n) (I:=fun n T S=>I n (T.getD 0 b6) (T.getD 3 b6) (T.getD 5 b6) (T.getD 6 b6) S) (fun n T S hl hI=>z7 [0,3,5,6] hl (d5.mono (a6a (step n _ _ _ _ S hI)) fun ex T' S' _ hq=>by cases ex<;>exact hq)) (j0 ..) (Eq.mp (by kernel_rfl) h)
noncomputable def a7I:Code:=(j4 [1,1,1,1,1,1] (Try.f18.body.getD .skip))
def a7b(E:d6)(w0:i7)(Q:D→b5→Prop):j7→List D→b5→Prop:=
 (R5 Try.prog Try.f18 Q)
def a2k(E:d6)(w0:i7)(Q:D→b5→Prop)(x0 x3 x5 x6:D)(S:b5):Prop:=
 d5 Try.prog E w0 (.loop P6) (g8 79 [0,3,5,6] [x0,x3,x5,x6]) S (R3 E w0 Q)
def C8(E:d6)(w0:i7)(Q:D→b5→Prop)(x0 x3 x5 x6:D)(S:b5):Prop:=d5 Try.prog E w0 a7I (g8 79 [0,3,5,6] [x0,x3,x5,x6]) S (a7b E w0 Q)
theorem a5i{E:d6}{w0:i7}{Q:D→b5→Prop}{x0 x3 x5 x6:D}{S:b5}(h:a2k E w0 Q x0 x3 x5 x6 S):C8 E w0 Q x0 x3 x5 x6 S:=f9 G3 G4 G5 mixed (by kernel_rfl) h
noncomputable def P4:Code:=(j4 [1,1,0,1,0,0] (Try.f18.body.getD .skip))
def Q6(E:d6)(w0:i7)(Q:D→b5→Prop):j7→List D→b5→Prop:=
 (A4 0 (a1O Try.prog E w0 G3 G4 G5 (j4 [1,1,1] (Try.f18.body.getD .skip)) (R5 Try.prog Try.f18 Q)))
def Y9(E:d6)(w0:i7)(N0:D→D→D→b5→Prop)(Q:D→b5→Prop)(x0 x3 x4:D)(S:b5):Prop:=
 a8 (d4 .geq x4 (.int .i64 0)) fun v4=>
 d9 v4
 (a8 (m9 3 x0 x4) fun v5=>
 a8 (t6 0 v5) fun v6=>
 a8 (c9 S v6) fun v7=>
 b0z S 0 x3 v7 x4 fun v8 S9=>
 a8 (d4 .sub x4 (.int .i64 1)) fun v10=>
 N0 x0 x3 v10 S9)
 (b2k S fun v11 S12=>
 a8 (j8 x0) fun v55=>
 a8 (d4 .gtr v55 (.int .i64 0)) fun v56=>
 d9 v56
 (M2 S12 1 (A1 1 (List.replicate 1 [(.int .i64 0)]) [(0,(.int .i64 0))]) 1 fun v57 S58=>
 C8 E w0 Q x0 x3 v11 v57 S58)
 (C8 E w0 Q x0 x3 v11 .nilSlc S12))
theorem a6h{E:d6}{w0:i7}{N0:D→D→D→b5→Prop}{Q:D→b5→Prop}{x0 x3 x4:D}{S:b5}(h:Y9 E w0 N0 Q x0 x3 x4 S):
  d5 Try.prog E w0 P4 (g8 79 [0,3,4] [x0,x3,x4]) S (I4 (fun T S=>N0 (T.getD 0 b6) (T.getD 3 b6) (T.getD 4 b6) S) (Q6 E w0 Q)):=f9 G3 G4 G5 mixed (by kernel_rfl) h
theorem a5Z{E:d6}{w0:i7}{Q:D→b5→Prop}(I:Nat→D→D→D→b5→Prop)
  (step:∀n x0 x3 x4 S,I n x0 x3 x4 S→Y9 E w0 (fun x0 x3 x4 S=>∃m,m<n∧I m x0 x3 x4 S) Q x0 x3 x4 S)
  {n:Nat} {x0 x3 x4:D} {S:b5} (h:I n x0 x3 x4 S):d5 Try.prog E w0 (.loop P4) (g8 79 [0,3,4] [x0,x3,x4]) S (Q6 E w0 Q):=
 t8 (k:=79) (n:=n) (I:=fun n T S=>I n (T.getD 0 b6) (T.getD 3 b6) (T.getD 4 b6) S) (fun n T S hl hI=>z7 [0,3,4] hl (d5.mono (a6h (step n _ _ _ S hI)) fun ex T' S' _ hq=>by cases ex<;>exact hq)) (j0 ..) (Eq.mp (by kernel_rfl) h)
def a5s(E:d6)(w0:i7)(Q:D→b5→Prop)(a0:D)(S:b5):Prop:=
 b2k S fun v0 S1=>
 a8 (j8 a0) fun v2=>
 a8 (d4 .sub v2 (.int .i64 1)) fun v3=>
 d5 Try.prog E w0 (.loop P4) (g8 79 [0,3,4] [a0,v0,v3]) S1 (Q6 E w0 Q)
theorem a7N{E:d6}{w0:i7}{Q:D→b5→Prop}{a0:D}{S:b5}(h:a5s E w0 (b8 E Q) a0 S):r7 Try.prog E w0 B5 [a0] S Q:=
 q9 G3 G4 G5 (fn:=Try.f18) (c:=Try.f18.body.getD .skip) mixed Try.func18 (by kernel_rfl) (by kernel_rfl) h
def a3O:List (Nat×List Nat):=[]
def a3X:List (Nat×List Nat):=[]
def a3Q:List (Nat×Arr):=[]
def Y4(E:d6)(w0:i7)(Q:D→b5→Prop)(a0 a1:D)(S:b5):Prop:=
 r7 Try.prog E w0 V6 [a0,a1] S fun v0 S1=>
 a8 (d4 .geq v0 (.int .i64 0)) fun v2=>
 Q v2 S1
theorem a2L{E:d6}{w0:i7}{Q:D→b5→Prop}{a0 a1:D}{S:b5}(h:Y4 E w0 (b8 E Q) a0 a1 S):r7 Try.prog E w0 M0 [a0,a1] S Q:=
 q9 a3O a3X a3Q (fn:=Try.f40) (c:=Try.f40.body.getD .skip) mixed Try.func40 (by kernel_rfl) (by kernel_rfl) h
def R9:List (Nat×List Nat):=[(4,[0,1,7,8])]
def T8:List (Nat×List Nat):=[]
def R6:List (Nat×Arr):=[]
noncomputable def O1:Code:=(j4 [1,0,1,0,0] (Try.f57.body.getD .skip))
def O4(E:d6)(w0:i7)(Q:D→b5→Prop):j7→List D→b5→Prop:=
 (A4 0 (a1O Try.prog E w0 R9 T8 R6 (j4 [1,1] (Try.f57.body.getD .skip)) (R5 Try.prog Try.f57 Q)))
def N6(E:d6)(w0:i7)(N0:D→D→D→D→b5→Prop)(Q:D→b5→Prop)(x0 x1 x7 x8:D)(S:b5):Prop:=
 a8 (d4 .lss x8 x7) fun v1=>
 d9 v1
 (a8 (m9 1 x0 x8) fun v2=>
 a8 (c9 S v2) fun v3=>
 a8 (d4 .eql x1 v3) fun v4=>
 d9 v4
 (Q x8 S)
 (a8 (d4 .add x8 (.int .i64 1)) fun v5=>
 N0 x0 x1 x7 v5 S))
 (Q (.int .i64 (-1)) S)
theorem a3n{E:d6}{w0:i7}{N0:D→D→D→D→b5→Prop}{Q:D→b5→Prop}{x0 x1 x7 x8:D}{S:b5}(h:N6 E w0 N0 Q x0 x1 x7 x8 S):
  d5 Try.prog E w0 O1 (g8 19 [0,1,7,8] [x0,x1,x7,x8]) S (I4 (fun T S=>N0 (T.getD 0 b6) (T.getD 1 b6) (T.getD 7 b6) (T.getD 8 b6) S) (O4 E w0 Q)):=f9 R9 T8 R6 mixed (by kernel_rfl) h
theorem a2U{E:d6}{w0:i7}{Q:D→b5→Prop}(I:Nat→D→D→D→D→b5→Prop)
  (step:∀n x0 x1 x7 x8 S,I n x0 x1 x7 x8 S→N6 E w0 (fun x0 x1 x7 x8 S=>∃m,m<n∧I m x0 x1 x7 x8 S) Q x0 x1 x7 x8 S)
  {n:Nat} {x0 x1 x7 x8:D} {S:b5} (h:I n x0 x1 x7 x8 S):d5 Try.prog E w0 (.loop O1) (g8 19 [0,1,7,8] [x0,x1,x7,x8]) S (O4 E w0 Q):=
 t8 (k:=19) (n:=n) (I:=fun n T S=>I n (T.getD 0 b6) (T.getD 1 b6) (T.getD 7 b6) (T.getD 8 b6) S) (fun n T S hl hI=>z7 [0,1,7,8] hl (d5.mono (a3n (step n _ _ _ _ S hI)) fun ex T' S' _ hq=>by cases ex<;>exact hq)) (j0 ..) (Eq.mp (by kernel_rfl) h)
def a1N(E:d6)(w0:i7)(Q:D→b5→Prop)(a0 a1:D)(S:b5):Prop:=
 a8 (j8 a0) fun v0=>
 d5 Try.prog E w0 (.loop O1) (g8 19 [0,1,7,8] [a0,a1,v0,(.int .i64 0)]) S (O4 E w0 Q)
theorem a4m{E:d6}{w0:i7}{Q:D→b5→Prop}{a0 a1:D}{S:b5}(h:a1N E w0 (b8 E Q) a0 a1 S):r7 Try.prog E w0 V6 [a0,a1] S Q:=
 q9 R9 T8 R6 (fn:=Try.f57) (c:=Try.f57.body.getD .skip) mixed Try.func57 (by kernel_rfl) (by kernel_rfl) h
end Go.Proofs.Ytdkidgkiplcggaa.d
end
section
open Go.Proofs Go Go.Am Go.Op
namespace Go.Proofs.Ytdkidgkiplcggaa.d
set_option linter.unusedSectionVars false
def H8(y:In):Bool:=decide (46≤y.op∧y.op≤49∨y.op=51∨y.op=52)
section
variable{E:d6}{w0:i7}
theorem Own.compactT{S0 S:b5}{d:D}{l:List Int}(h:Own S0 d l S)(h0:l≠[])(hl:l.length<2^60){Q:D→b5→Prop}{lp lq:List D}(hQ:b8 E Q (.tup (lp++iD (Lib.compact l)::lq)) S0):r7 Try.prog E w0 H7 [d] S fun v S'=>b8 E Q (.tup (lp++v::lq)) S':=by
 rcases h with ⟨_,e,_⟩|⟨k,acs,ex,hk,rfl,rfl⟩
 ·exact absurd e h0
 ·refine a6s.fnD (zs:=l) (b5.set_same _ _ _) rfl (by rw[i4];omega) (by rw[List.drop_zero,List.take_of_length_le (by rw[i4];exact Nat.le_refl _),X5]) (by omega) fun acs'=> ?_
  have hle:=Z1 l
  refine b8.freezeT (b5.set_same _ _ _) rfl (by simp[E4]<;>omega) hle ?_
  rw[b5.set_set,b5.erase_set _ _ _ hk]
  have:D.lst (((List.take 0 (iC l)++(E4 (Lib.compact l++List.replicate (l.length - (Lib.compact l).length) 0)++List.drop (0+l.length) (iC l))).drop 0).take (Lib.compact l).length) 1=iD (Lib.compact l):=by
   rw[List.take_zero,List.nil_append,List.drop_zero,X5,a0d,List.append_assoc,List.take_append_of_le_length (by rw[i4];exact Nat.le_refl _),List.take_of_length_le (by rw[i4];exact Nat.le_refl _)]
   rfl
  rw[this]
  exact hQ
theorem a4f{y:In}(hal:y.arms.length≤65535){next:Int}:a0X Try.prog E w0 I9 [inD y, .int .i64 next] (.tup [iD (p9 y next), .bool (H8 y)]):=fun S=>by
 refine a8p ?_
 unfold a4T
 refine c5r fun k a n=> ?_
 have hk:I5 (S.set k ⟨4,[inC y],a⟩) k 4 (inC y):=I5.new
 have l1:S.le (S.set k ⟨4,[inC y],a⟩):=b5.le_new n
 generalize (S.set k ⟨4,[inC y],a⟩)=B at hk l1
 obtain⟨i0,i1,i2,i3⟩:=c4N y
 have hk0:=hk
 have g0:∀ {T:b5},I5 T k 4 (inC y)→c9 T (.ptr k 0)=some (.int .u8 y.op):=fun h=>h.ld 0
 have g1:∀ {T:b5},I5 T k 4 (inC y)→c9 T (.ptr k 1)=some (.int .i64 y.a):=fun h=>h.ld 1
 have g2:∀ {T:b5},I5 T k 4 (inC y)→c9 T (.ptr k 2)=some (.int .i64 y.b):=fun h=>h.ld 2
 have g3:∀ {T:b5},I5 T k 4 (inC y)→c9 T (.ptr k 3)=some (b2i y.arms):=fun h=>h.ld 3
 let Q:D→b5→Prop:=fun d' S'=>d'= .tup [iD (p9 y next), .bool (H8 y)]∧S'=S
 have fin:∀ {B' T:b5} {d:D} {l:List Int},S.le B'→Own B' d l T→l≠[]→l.length<2^60→H8 y=true→p9 y next=a0t l→M6 E w0 (b8 E Q) d T:=by
  intro B' T d l hle ho h0 hl hen he
  refine a4Q ?_
  unfold a2r
  refine ho.sort h0 hl fun v S' ho'=> ?_
  refine Own.compactT (lp:=[]) (lq:=[.bool true]) ho' (fun e=>h0 (List.length_eq_zero_iff.1 (by rw[←a3R,e];rfl))) (by rw[a3R];exact hl) ?_
  exact b8.less hle (b8.here ⟨by rw[he,hen];rfl,rfl⟩)
 have sw:∀ {T:b5} {d:D},Own B d [y.b] T→y.op=49→a8 (c9 T (.ptr k 3)) fun v23=>a8 (j8 v23) fun v24=>d5 Try.prog E w0 (.loop Q2) (g8 49 [4,33,34,35] [d,v23,v24,(.int .i64 0)]) T (Q3 E w0 (b8 E Q)):=by
  intro T d ho' h49
  have hk:=(hk0.le ho'.le)
  rw[g3 hk,oD]
  rw[c2l,oD]
  refine a6j (I:=fun n x5 x36 x37 x38 T=>x36=b2i y.arms∧x37= .int .i64 (y.arms.length:Int)∧∃(i:Nat) (B':b5),x38= .int .i64 (i:Int)∧i+n=y.arms.length∧B.le B'∧Own B' x5 (y.b::(y.arms.take i).map (·.2)) T) ?_ (n:=y.arms.length)
   ⟨rfl,rfl,0,B,rfl,by omega,b5.le_refl _,ho'⟩
  rintro n x5 _ _ _ T ⟨rfl,rfl,i,B',rfl,hi,hB,ho⟩
  unfold a0a
  rw[a3K,oD,cdI]
  refine⟨fun hlt=> ?_,fun hge=> ?_⟩
  ·have hlt:i<y.arms.length:=by omega
   have ha:y.arms[i]? =some y.arms[i]:=List.getElem?_eq_getElem hlt
   rw[c2S ha,oD,laE,if_pos ⟨by decide,by simp[Z5]⟩,oD]
   intro k3 a3 n3
   refine(I5.new (sz:=2) (c:=[.int .i64 0, .int .i64 0])).st (ds:=Z5 y.arms[i]) (clA _) ⟨rfl,by decide,by simp⟩ fun a4=> ?_
   rw[b5.set_set,show n8 [D.int .i64 0, .int .i64 0] 0 (Z5 y.arms[i])=Z5 y.arms[i]from rfl]
   have hb:=ho.under (o:=⟨2,[Z5 y.arms[i]],a4⟩) n3
   simp only[ofP,Nat.zero_add,oD]
   rw[(I5.new).ld 1,show(Z5 y.arms[i])[1]? =some (.int .i64 y.arms[i].2) from rfl,oD,show A1 1 (List.replicate 1 [D.int .i64 0]) [(0, .int .i64 y.arms[i].2)]=some (iC [y.arms[i].2]) from rfl]
   refine V4 rfl ?_
   refine hb.push (news:=[y.arms[i].2]) (by simp[rowsS,E7]) (by simp) (by simp;omega) fun d' T' ho'=> ?_
   rw[J8,oD,g9 (by omega) (by omega)]
   refine⟨n - 1,by omega,by trivial,by trivial,i+1,B'.set k3 ⟨2,[Z5 y.arms[i]],a4⟩,by trivial,by omega,b5.le_set hB (b5.none_of hB (b5.none_of ho.le n3)), ?_⟩
   have e:y.b::(y.arms.take (i+1)).map (·.2)=(y.b::(y.arms.take i).map (·.2))++[y.arms[i].2]:=by rw[List.take_add_one,ha,List.map_append];rfl
   rw[e]
   exact ho'
  ·rw[List.take_of_length_le (by omega)]at ho
   exact fin (b5.le_trans l1 hB) ho (by simp) (by simp;omega) (by unfold H8;simp[h49]) (by unfold p9;rw[if_neg (by omega),if_neg (by omega),if_neg (by omega),if_pos h49])
 have c41:∀ {b:Bool},y.op≠51∧y.op≠52∧y.op≠46→b=decide (y.op=47∨y.op=48)→M7 E w0 (b8 E Q) (.int .i64 next) (.ptr k 0) (.int .u8 y.op) (.bool b) B:=by
  intro b hne hb
  subst hb
  refine a4C ?_
  unfold a2t
  rw[cdI]
  refine⟨fun h=> ?_,fun h=> ?_⟩
  ·simp only[ofP,Nat.zero_add,oD,g1 hk]
   refine b9W (l:=[y.a,next]) fun d T hT=> ?_
   refine fin l1 hT (by simp) (by simp) (by unfold H8;rcases h with h|h<;>simp[h]) ?_
   unfold p9
   rw[if_neg (by omega),if_neg (by omega),if_pos h]
   exact Z0 (C9 _).1 (C9 _).1 fun n=>by rw[(C9 _).2,(C9 _).2];simp[or_comm]
  ·rw[b0j,oD,cdI]
   refine⟨fun h49=> ?_,fun h49=> ?_⟩
   ·simp only[ofP,Nat.zero_add,oD,g2 hk]
    exact b1a fun d T hT=>sw hT h49
   ·refine b1a fun d T hT=> ?_
    refine hT.finT (lp:=[]) (lq:=[.bool false]) (b8.less l1 (b8.here ⟨?_,rfl⟩))
    have e1:p9 y next=[next]:=by unfold p9;rw[if_neg (by omega),if_neg (by omega),if_neg h,if_neg h49];exact c2a _
    have e2:H8 y=false:=by unfold H8;simp;omega
    rw[e1,e2];rfl
 have c21:∀ {b:Bool},b=decide (y.op=51∨y.op=52)→M5 E w0 (b8 E Q) (.int .i64 next) (.ptr k 0) (.int .u8 y.op) (.bool b) B:=by
  intro b hb
  subst hb
  refine a5k ?_
  unfold a2o
  rw[cdI]
  refine⟨fun h=> ?_,fun h=> ?_⟩
  ·refine b8.less l1 (b8.weak (d':= .tup [iD [], .bool true]) (Wk.tup ⟨Wk.nil 1,Wk.refl _,trivial⟩) (b8.here ⟨?_,rfl⟩))
   have e1:p9 y next=[]:=by unfold p9;rw[if_pos h]
   have e2:H8 y=true:=by unfold H8;rcases h with h|h<;>simp[h]
   rw[e1,e2]
  ·rw[b0j,oD,cdI]
   refine⟨fun h46=> ?_,fun h46=> ?_⟩
   ·simp only[ofP,Nat.zero_add,oD,g1 hk]
    refine b1a fun d T hT=> ?_
    refine hT.finT (lp:=[]) (lq:=[.bool true]) (b8.less l1 (b8.here ⟨?_,rfl⟩))
    have e1:p9 y next=[y.a]:=by unfold p9;rw[if_neg h,if_pos h46]
    have e2:H8 y=true:=by unfold H8;simp[h46]
    rw[e1,e2];rfl
   ·rw[b0j,oD,cdI]
    refine⟨fun h47=>c41 (by omega) (by rw[decide_eq_true h47,decide_eq_true (.inl h47)]),fun h47=> ?_⟩
    rw[b0j,oD]
    exact c41 (by omega) (by by_cases h48:y.op=48<;>simp[h47,h48])
 simp only[ofP,Nat.zero_add,oD,g0 hk,b0j]
 rw[cdI]
 refine⟨fun h51=>c21 (by rw[decide_eq_true h51,decide_eq_true (.inl h51)]),fun h51=>c21 (by by_cases h52:y.op=52<;>simp[h51,h52])⟩
end
end Go.Proofs.Ytdkidgkiplcggaa.d
end
section
namespace Go.Am
section
section
variable{P:Program}{E:d6}{w0:i7}
theorem b6P(k:Nat)(o:s7):∀(ds:List D) (i:Nat) (v:D),W8 k o (ds.set i v)=(W8 k o ds).set i (frz k o v)
 | [],i,v=>by simp[W8]
 |d::ds,0,v=>by simp[W8]
 |d::ds,i+1,v=>by simp only[List.set_cons_succ,W8,b6P k o ds i v]
theorem b6n(k:Nat)(o:s7):∀n:Nat,W8 k o (List.replicate n .any)=List.replicate n .any
 |0=>rfl
 |n+1=>by simp only[List.replicate_succ,W8,b6n k o n];simp[frz]
theorem a9H(k:Nat)(o:s7):∀(T:List D) (L:List Nat) (vs:List D),W8 k o (V7 T L vs)=V7 (W8 k o T) L (W8 k o vs)
 |T,i::L,v::vs=>by simp only[V7,W8];rw[a9H k o _ L vs,b6P]
 |T,[],[]=>by simp[V7,W8]
 |T,[],_::_=>by simp[V7,W8]
 |T,_::_,[]=>by simp[V7,W8]
theorem b5l{c:Code}{n:Nat}{L:List Nat}{vs:List D}{S:b5}{Q:j7→List D→b5→Prop}{k:Nat}{o:s7}(hk:S k=some o)(hc:b8e o)(h:d5 P E w0 c (g8 n L (W8 k o vs)) (S.erase k) Q):d5 P E w0 c (g8 n L vs) S Q:=fun R H avs F hC hT=>by
 obtain⟨h1,h2⟩:=hC.freeze hk hc
 have e:W8 k o (g8 n L vs)=g8 n L (W8 k o vs):=by unfold g8;rw[a9H,b6n]
 have hT':=a5I hC hk h2 (fun _=>if_pos rfl) hT
 rw[e]at hT'
 have:=(B9.at_le h2 (h _ H avs F h1 hT')).mono fun ex T' H' hq=>a1E.le h2 hq
 rw[j0]at this
 show B9 P E (w0.at E R) c avs H (c1j E R (g8 n L vs).length Q)
 rw[j0]
 exact this
end
end
section
def b0s(t:Int×Int×Nat):List D:=[.int .i64 t.1, .int .i64 t.2.1, .int .i64 (t.2.2:Int)]
structure J2 (S:b5) (k:Nat) (ts:List (Int×Int×Nat)):Prop where
 has:∃acs,S k=some (b0p (ts.map b0s) acs)
 keys:(ts.map (·.1)).Nodup
 stamps:(ts.map (·.2.2)).Nodup
theorem a5C(rows:List (List D))(acs:List AV):a4i (b0p rows acs)=some rows:=by
 unfold a4i b0p
 rw[if_pos rfl]
theorem a1I(q:Int):∀(ts:List (Int×Int×Nat)) (i:Nat),(q ∉ ts.map (·.1)∧a6t (.int .i64 q) (ts.map b0s) i=some none)∨
  ∃j t,ts[j]? =some t∧t.1=q∧a6t (.int .i64 q) (ts.map b0s) i=some (some (i+j, .int .i64 t.2.1, .int .i64 (t.2.2:Int)))
 | [],i=> .inl ⟨by simp,rfl⟩
 |t::ts,i=>by
  simp only[List.map_cons,b0s,a6t,b5i,if_true]
  by_cases h:q=t.1
  ·refine .inr ⟨0,t,rfl,h.symm, ?_⟩
   rw[show(q==t.1)=true by simpa using h]
   rfl
  ·rw[show(q==t.1)=false by simpa using h]
   rcases a1I q ts (i+1) with ⟨h1,h2⟩|⟨j,t',h1,h2,h3⟩
   ·exact .inl ⟨by simpa [h]using h1,h2⟩
   ·exact .inr ⟨j+1,t',h1,h2,by rw[h3,Nat.add_assoc,Nat.add_comm 1 j]⟩
theorem J2.of{S S':b5}{k:Nat}{ts:List (Int×Int×Nat)}(h:J2 S k ts)(e:S' k=S k):J2 S' k ts:=⟨by rw[e];exact h.has,h.keys,h.stamps⟩
theorem J2.there{S:b5}{k:Nat}{ts:List (Int×Int×Nat)}(h:J2 S k ts):S k≠none:=by obtain⟨a,e⟩:=h.has;rw[e];simp
theorem J2.put{S:b5}{k:Nat}{ts:List (Int×Int×Nat)}(h:J2 S k ts){q v:Int}{K:D→b5→Prop}
  (hK:∀ts' S',(∀n,n∈ts'.map (·.1)↔n=q∨n∈ts.map (·.1))→J2 S' k ts'→(∀j,j≠k→S' j=S j)→K b6 S'):b0z S 0 (.mp k) (.int .i64 q) (.int .i64 v) K:=by
 obtain⟨acs,hS⟩:=h.has
 simp only[b0z,a7E,hS,a5C,beq_self_eq_true,if_true]
 rcases a1I q ts 0 with ⟨h1,h2⟩|⟨j,t,h1,h2,h3⟩
 ·rw[h2]
  intro n acs' hn
  refine hK (ts++[(q,v,n)]) _ (fun m=>by simp[or_comm]) ⟨⟨acs',by rw[b5.set_same,List.map_append];rfl⟩, ?_, ?_⟩ fun j hj=>b5.set_ne _ _ _ hj
  ·rw[List.map_append,List.nodup_append]
   exact⟨h.keys,by simp,fun a ha b hb=>by simp at hb;subst hb;exact fun e=>h1 (by rw[←e];exact ha)⟩
  ·rw[List.map_append,List.nodup_append]
   refine⟨h.stamps,by simp,fun a ha b hb=> ?_⟩
   simp at hb
   subst hb
   rintro rfl
   obtain⟨t,ht,e⟩:=List.mem_map.1 ha
   exact hn (b0s t) (List.mem_map.2 ⟨t,ht,rfl⟩) (by simp[b0s,e])
 ·rw[h3]
  intro acs'
  have hj:j<ts.length:=(List.getElem?_eq_some_iff.1 h1).1
  have e0:∀ {α:Type} (f:Int×Int×Nat→α),f (q,v,t.2.2)=f t→(ts.set j (q,v,t.2.2)).map f=ts.map f:=fun f hf=>by
   rw[List.map_set,hf]
   apply List.ext_getElem?
   intro i
   rw[List.getElem?_set]
   split
   ·rename_i e
    subst e
    rw[List.length_map,if_pos hj,List.getElem?_map,h1];rfl
   ·rfl
  have k1:=e0 (·.1) h2.symm
  have k2:=e0 (·.2.2) rfl
  refine hK (ts.set j (q,v,t.2.2)) _ (fun n=> ?_) ⟨⟨acs', ?_⟩,by rw[k1];exact h.keys,by rw[k2];exact h.stamps⟩ fun j hj=>b5.set_ne _ _ _ hj
  ·rw[k1]
   constructor
   ·exact .inr
   ·rintro(rfl|h)
    ·exact List.mem_map.2 ⟨t,List.mem_of_getElem? h1,h2⟩
    ·exact h
  ·rw[b5.set_same,List.map_set,Nat.zero_add];rfl
theorem J2.look{S:b5}{k:Nat}{ts:List (Int×Int×Nat)}(h:J2 S k ts)(q:Int):∃v:Int,a4D S 0 (.int .i64 0) false (.mp k) (.int .i64 q)=some (.int .i64 v):=by
 obtain⟨acs,hS⟩:=h.has
 simp only[a4D,a7E,b8l,hS,a5C,beq_self_eq_true,if_true]
 rcases a1I q ts 0 with ⟨h1,h2⟩|⟨j,t,h1,h2,h3⟩
 ·rw[h2];exact⟨0,rfl⟩
 ·rw[h3];exact⟨t.2.1,rfl⟩
theorem J2.new{S:b5}{K:D→b5→Prop}(h:∀k S',S k=none→J2 S' k []→(∀j,j≠k→S' j=S j)→K (.mp k) S'):b2k S K:=fun k acs hk=>h k _ hk ⟨⟨acs,b5.set_same _ _ _⟩,by simp,by simp⟩ fun j hj=>b5.set_ne _ _ _ hj
theorem a5z{α β:Type}{f:α→β}:∀ {l:List α},(l.map f).Nodup→∀ {a b:α},a∈l→b∈l→f a=f b→a=b
 | [],_,a,b,ha,_,_=>by cases ha
 |x::l,h,a,b,ha,hb,e=>by
  simp only[List.map_cons,List.nodup_cons]at h
  rcases List.mem_cons.1 ha with h1|h1<;>rcases List.mem_cons.1 hb with h2|h2
  ·rw[h1,h2]
  ·exact(h.1 (List.mem_map.2 ⟨b,h2,by rw[←e,h1]⟩)).elim
  ·exact(h.1 (List.mem_map.2 ⟨a,h1,by rw[e,h2]⟩)).elim
  ·exact a5z h.2 h1 h2 e
def a3r(S:b5)(j m:Nat)(dn ts:List (Int×Int×Nat)):Prop:=∃acs,S j=some ⟨b0q,[.mp m]::dn.map (fun t=> .int .i64 (t.2.2:Int))::ts.map b0s,acs⟩
theorem J2.range{S:b5}{k:Nat}{ts:List (Int×Int×Nat)}(h:J2 S k ts){K:D→b5→Prop}(hK:∀j S',S j=none→a3r S' j k [] ts→(∀i,i≠j→i≠k→S' i=S i)→K (.ptr j 0) S'):a6R S (.mp k) K:=by
 obtain⟨acs,hS⟩:=h.has
 simp only[a6R,hS,a5C]
 exact fun j acs' hj=>hK j _ hj ⟨acs',b5.set_same _ _ _⟩ fun i h1 h2=>by rw[b5.set_ne _ _ _ h1,b5.erase_ne _ _ h2]
theorem b9Y(m:Nat)(sr:List D)(rows:List (List D))(acs:List AV):b4a ⟨b0q,[.mp m]::sr::rows,acs⟩=some (m,sr,rows):=by
 unfold b4a
 rw[if_pos rfl]
theorem a3r.next{S:b5}{j m:Nat}{dn ts:List (Int×Int×Nat)}(h:a3r S j m dn ts)(hst:(ts.map (·.2.2)).Nodup)(hsub:∀t∈dn,t∈ts){K:D→b5→Prop}
  (h1:∀t∈ts,t ∉ dn→∀S',a3r S' j m (dn++[t]) ts→(∀i,i≠j→S' i=S i)→K (.tup [.bool true, .int .i64 t.1, .int .i64 t.2.1]) S') (h2:(∀t∈ts,t∈dn)→K (.tup [.bool false]) S):b4D S (.ptr j 0) K:=by
 obtain⟨acs,hS⟩:=h
 simp only[b4D,hS,b9Y]
 have uniq:∀a∈ts,∀b∈ts,a.2.2=b.2.2→a=b:=fun a ha b hb e=>a5z hst ha hb e
 refine⟨fun key x n hrow hn acs'=> ?_,fun hall=>h2 fun t ht=> ?_⟩
 ·obtain⟨t,ht,e⟩:=List.mem_map.1 hrow
  simp only[b0s,List.cons.injEq,and_true]at e
  obtain⟨rfl,rfl,rfl⟩:=e
  refine h1 t ht (fun hd=>hn (List.mem_map.2 ⟨t,hd,rfl⟩)) _ ⟨acs', ?_⟩ fun i hi=>b5.set_ne _ _ _ hi
  rw[b5.set_same,List.map_append];rfl
 ·have:=hall _ _ _ (List.mem_map.2 ⟨t,ht,rfl⟩)
  obtain⟨t',ht',e⟩:=List.mem_map.1 this
  simp only[D.int.injEq,true_and,Int.natCast_inj]at e
  rw[uniq t ht t' (hsub t' ht') e.symm]
  exact ht'
theorem a3r.entry{S:b5}{j m:Nat}{dn ts:List (Int×Int×Nat)}{t:Int×Int×Nat}(h:a3r S j m (dn++[t]) ts)(ht:t∈ts){K:D→b5→Prop}(hK:K (.tup [.int .i64 t.1, .int .i64 t.2.1]) S):a9k S (.ptr j 0) K:=by
 obtain⟨acs,hS⟩:=h
 simp only[a9k,hS,b9Y]
 exact⟨_,_,_,List.mem_map.2 ⟨t,ht,rfl⟩,by simp,hK⟩
theorem a3r.of{S S':b5}{j m:Nat}{dn ts:List (Int×Int×Nat)}(h:a3r S j m dn ts)(e:S' j=S j):a3r S' j m dn ts:=by
 obtain⟨acs,hS⟩:=h
 exact⟨acs,by rw[e];exact hS⟩
theorem a3r.there{S:b5}{j m:Nat}{dn ts:List (Int×Int×Nat)}(h:a3r S j m dn ts):S j≠none:=by obtain⟨a,e⟩:=h;rw[e];simp
end
end Go.Am
end
