/-
  BlocksTileSaid: part Nax of its proof.
-/
import Derived.Test.YtdkidgkiplcggaaRows
import Derived.Test.YtdkidgkiplcggaaNar
import Derived.KernelRfl
import Derived.Test.YtdkidgkiplcggaaNaw
import Derived.Test.YtdkidgkiplcggaaNav
set_option linter.unusedVariables false
set_option linter.unusedSimpArgs false
set_option maxRecDepth 100000
section
open Go.Proofs Go Go.Am
namespace Go.Proofs.Ytdkidgkiplcggaa.d
def K8:List (Nat×List Nat):=[(28,[4,33,34,35])]
def K7:List (Nat×List Nat):=[(21,[1,2,9,12]),(41,[1,2,9,20]),(36,[4])]
def K6:List (Nat×Arr):=[]
noncomputable def L9:Code:=(i5 [1,1] (Try.f38.body.getD .skip))
def a6Y(E:d6)(w0:i9)(Q:D→b4→Prop):j6→List D→b4→Prop:=
 (P2 Try.prog Try.f38 Q)
def a1Z(E:d6)(w0:i9)(Q:D→b4→Prop)(x4:D)(S:b4):Prop:=
 s4 Try.prog E w0 G4 [x4] S fun v2 S3=>
 s4 Try.prog E w0 G7 [x4] S3 fun v4 S5=>
 Q (.tup [v4,(.bool true)]) S5
def M6(E:d6)(w0:i9)(Q:D→b4→Prop)(x4:D)(S:b4):Prop:=d5 Try.prog E w0 L9 (f0 49 [4] [x4]) S (a6Y E w0 Q)
theorem a5j{E:d6}{w0:i9}{Q:D→b4→Prop}{x4:D}{S:b4}(h:a1Z E w0 Q x4 S):M6 E w0 Q x4 S:=f9 K8 K7 K6 mixed (by kernel_rfl) h
noncomputable def P8:Code:=(i5 [1,0,1,0,1,1,1,1,1,1,1,0,1,1,0,0] (Try.f38.body.getD .skip))
def Q7(E:d6)(w0:i9)(Q:D→b4→Prop):j6→List D→b4→Prop:=
 (s7 1 (s7 0 (b8z Try.prog E w0 49 [4] L9 (P2 Try.prog Try.f38 Q))))
def Z4(E:d6)(w0:i9)(N0:D→D→D→D→b4→Prop)(Q:D→b4→Prop)(x4 x33 x34 x35:D)(S:b4):Prop:=
 a8 (d4 .lss x35 x34) fun v25=>
 d9 v25
 (a8 (m9 2 x33 x35) fun v26=>
 a8 (r9 S 2 v26) fun v27=>
 o9 S [(.int .i64 0),(.int .i64 0)] fun v28 S29=>
 j2 S29 2 v28 v27 fun v30 S31=>
 a8 (s5 1 v28) fun v32=>
 a8 (c9 S31 v32) fun v33=>
 K5 S31 1 (z6 1 (List.replicate 1 [(.int .i64 0)]) [(0,v33)]) 1 fun v34 S35=>
 z7 S35 1 8 x4 v34 fun v36 S37=>
 a8 (d4 .add x35 (.int .i64 1)) fun v38=>
 N0 v36 x33 x34 v38 S37)
 (M6 E w0 Q x4 S)
theorem a6f{E:d6}{w0:i9}{N0:D→D→D→D→b4→Prop}{Q:D→b4→Prop}{x4 x33 x34 x35:D}{S:b4}(h:Z4 E w0 N0 Q x4 x33 x34 x35 S):
  d5 Try.prog E w0 P8 (f0 49 [4,33,34,35] [x4,x33,x34,x35]) S (E4 (fun T S=>N0 (T.getD 4 b6) (T.getD 33 b6) (T.getD 34 b6) (T.getD 35 b6) S) (Q7 E w0 Q)):=f9 K8 K7 K6 mixed (by kernel_rfl) h
theorem a6d{E:d6}{w0:i9}{Q:D→b4→Prop}(I:Nat→D→D→D→D→b4→Prop)
  (step:∀n x4 x33 x34 x35 S,I n x4 x33 x34 x35 S→Z4 E w0 (fun x4 x33 x34 x35 S=>∃m,m<n∧I m x4 x33 x34 x35 S) Q x4 x33 x34 x35 S)
  {n:Nat} {x4 x33 x34 x35:D} {S:b4} (h:I n x4 x33 x34 x35 S):d5 Try.prog E w0 (.loop P8) (f0 49 [4,33,34,35] [x4,x33,x34,x35]) S (Q7 E w0 Q):=
 s6 (k:=49) (n:=n) (I:=fun n T S=>I n (T.getD 4 b6) (T.getD 33 b6) (T.getD 34 b6) (T.getD 35 b6) S) (fun n T S hl hI=>t6 [4,33,34,35] hl (d5.mono (a6f (step n _ _ _ _ S hI)) fun ex T' S' _ hq=>by cases ex<;>exact hq)) (i6 ..) (Eq.mp (by kernel_rfl) h)
noncomputable def a8j:Code:=(i5 [1,0,1,0,1,1,1,1,1] (Try.f38.body.getD .skip))
def a6X(E:d6)(w0:i9)(Q:D→b4→Prop):j6→List D→b4→Prop:=
 (s7 0 (b8z Try.prog E w0 49 [4] L9 (P2 Try.prog Try.f38 Q)))
def a2h(E:d6)(w0:i9)(Q:D→b4→Prop)(x1 x2 x9 x20:D)(S:b4):Prop:=
 d9 x20
 (a8 (s5 1 x2) fun v13=>
 a8 (c9 S v13) fun v14=>
 K5 S 1 (z6 1 (List.replicate 2 [(.int .i64 0)]) [(0,v14),(1,x1)]) 2 fun v15 S16=>
 M6 E w0 Q v15 S16)
 (a8 (d4 .eql x9 (.int .u8 49)) fun v17=>
 d9 v17
 (a8 (s5 2 x2) fun v18=>
 a8 (c9 S v18) fun v19=>
 K5 S 1 (z6 1 (List.replicate 1 [(.int .i64 0)]) [(0,v19)]) 1 fun v20 S21=>
 a8 (s5 3 x2) fun v22=>
 a8 (c9 S21 v22) fun v23=>
 a8 (j9 v23) fun v24=>
 d5 Try.prog E w0 (.loop P8) (f0 49 [4,33,34,35] [v20,v23,v24,(.int .i64 0)]) S21 (Q7 E w0 Q))
 (K5 S 1 (z6 1 (List.replicate 1 [(.int .i64 0)]) [(0,x1)]) 1 fun v39 S40=>
 Q (.tup [v39,(.bool false)]) S40))
def M2(E:d6)(w0:i9)(Q:D→b4→Prop)(x1 x2 x9 x20:D)(S:b4):Prop:=d5 Try.prog E w0 a8j (f0 49 [1,2,9,20] [x1,x2,x9,x20]) S (a6X E w0 Q)
theorem a4R{E:d6}{w0:i9}{Q:D→b4→Prop}{x1 x2 x9 x20:D}{S:b4}(h:a2h E w0 Q x1 x2 x9 x20 S):M2 E w0 Q x1 x2 x9 x20 S:=f9 K8 K7 K6 mixed (by kernel_rfl) h
noncomputable def a7z:Code:=(i5 [1,0,1,0,1] (Try.f38.body.getD .skip))
def a6E(E:d6)(w0:i9)(Q:D→b4→Prop):j6→List D→b4→Prop:=
 (s7 0 (b8z Try.prog E w0 49 [4] L9 (P2 Try.prog Try.f38 Q)))
def a2a(E:d6)(w0:i9)(Q:D→b4→Prop)(x1 x2 x9 x12:D)(S:b4):Prop:=
 d9 x12
 (Q (.tup [.nilSlc,(.bool true)]) S)
 (a8 (d4 .eql x9 (.int .u8 46)) fun v8=>
 d9 v8
 (a8 (s5 1 x2) fun v9=>
 a8 (c9 S v9) fun v10=>
 K5 S 1 (z6 1 (List.replicate 1 [(.int .i64 0)]) [(0,v10)]) 1 fun v11 S12=>
 Q (.tup [v11,(.bool true)]) S12)
 (a8 (d4 .eql x9 (.int .u8 47)) fun v41=>
 d9 v41
 (M2 E w0 Q x1 x2 x9 v41 S)
 (a8 (d4 .eql x9 (.int .u8 48)) fun v42=>
 M2 E w0 Q x1 x2 x9 v42 S)))
def M4(E:d6)(w0:i9)(Q:D→b4→Prop)(x1 x2 x9 x12:D)(S:b4):Prop:=d5 Try.prog E w0 a7z (f0 49 [1,2,9,12] [x1,x2,x9,x12]) S (a6E E w0 Q)
theorem a4J{E:d6}{w0:i9}{Q:D→b4→Prop}{x1 x2 x9 x12:D}{S:b4}(h:a2a E w0 Q x1 x2 x9 x12 S):M4 E w0 Q x1 x2 x9 x12 S:=f9 K8 K7 K6 mixed (by kernel_rfl) h
def a4Q(E:d6)(w0:i9)(Q:D→b4→Prop)(a0 a1:D)(S:b4):Prop:=
 a8 (r6 a0) fun cs=>o9 S cs fun v0 S1=>
 a8 (s5 0 v0) fun v6=>
 a8 (c9 S1 v6) fun v7=>
 a8 (d4 .eql v7 (.int .u8 51)) fun v43=>
 d9 v43
 (M4 E w0 Q a1 v0 v7 v43 S1)
 (a8 (d4 .eql v7 (.int .u8 52)) fun v44=>
 M4 E w0 Q a1 v0 v7 v44 S1)
theorem a7u{E:d6}{w0:i9}{Q:D→b4→Prop}{a0 a1:D}{S:b4}(h:a4Q E w0 (b9 E Q) a0 a1 S):s4 Try.prog E w0 I6 [a0,a1] S Q:=
 q8 K8 K7 K6 (fn:=Try.f38) (c:=Try.f38.body.getD .skip) mixed Try.func38 (by kernel_rfl) (by kernel_rfl) h
def u5:List (Nat×List Nat):=[(14,[0,4,5,7,38,39,40]),(24,[0,4,5,7,8,38,39,40,57,58,59]),(42,[0,4,5,14,83]),(54,[0,5,14,16,94,95,96])]
def w9:List (Nat×List Nat):=[(66,[0,5,14,16,17,19,94,95,96])]
def u9:List (Nat×Arr):=[]
noncomputable def a0h:Code:=(i5 [1,1,1,1,1,0,1,0,0,1,1,0,0,1,1,1,0,1,0,0] (Try.f14.body.getD .skip))
def a0g(E:d6)(w0:i9)(N0:D→D→D→D→D→D→D→b4→Prop)(Q:D→b4→Prop):j6→List D→b4→Prop:=
 (s7 2 (X9 Try.prog E w0 u5 w9 u9 (i5 [1,1,1,1,1,0,1,0,0,1,1,0,0,1,1,1,1] (Try.f14.body.getD .skip)) (s7 1 (X9 Try.prog E w0 u5 w9 u9 (i5 [1,1,1,1,1,0,1,0,0,1,1,1] (Try.f14.body.getD .skip)) (E4 (fun T S=>N0 (T.getD 0 b6) (T.getD 4 b6) (T.getD 5 b6) (T.getD 7 b6) (T.getD 38 b6) (T.getD 39 b6) (T.getD 40 b6) S) (s7 0 (X9 Try.prog E w0 u5 w9 u9 (i5 [1,1,1,1,1,1] (Try.f14.body.getD .skip)) (P2 Try.prog Try.f14 Q))))))))
def a2I(E:d6)(w0:i9)(N0:D→D→D→D→D→D→D→b4→Prop)(N1:D→D→D→D→D→D→D→D→D→D→D→b4→Prop)(Q:D→b4→Prop)(x0 x4 x5 x7 x8 x38 x39 x40 x57 x58 x59:D)(S:b4):Prop:=
 a8 (d4 .lss x59 x58) fun v34=>
 d9 v34
 (a8 (m9 1 x57 x59) fun v35=>
 a8 (c9 S v35) fun v36=>
 a8 (a5e S 0 (.int .i64 0) false x7 v36) fun v37=>
 a8 (d4 .add v37 (.int .i64 1)) fun v38=>
 b0y S 0 x7 v36 v38 fun v39 S40=>
 a8 (d4 .add x59 (.int .i64 1)) fun v41=>
 N1 x0 x4 x5 x7 x8 x38 x39 x40 x57 x58 v41 S40)
 (a8 (d4 .add x8 (.int .i64 1)) fun v42=>
 a8 (j9 x4) fun v43=>
 a8 (d4 .lss v42 v43) fun v44=>
 d9 v44
 (a8 (d4 .add x8 (.int .i64 1)) fun v45=>
 a8 (m9 1 x5 v45) fun v46=>
 a8 (c9 S v46) fun v47=>
 a8 (a5e S 0 (.int .i64 0) false x7 v47) fun v48=>
 a8 (d4 .add v48 (.int .i64 1)) fun v49=>
 b0y S 0 x7 v47 v49 fun v50 S51=>
 a8 (d4 .add x40 (.int .i64 1)) fun v52=>
 N0 x0 x4 x5 x7 x38 x39 v52 S51)
 (a8 (d4 .add x40 (.int .i64 1)) fun v53=>
 N0 x0 x4 x5 x7 x38 x39 v53 S))
theorem a8N{E:d6}{w0:i9}{N0:D→D→D→D→D→D→D→b4→Prop}{N1:D→D→D→D→D→D→D→D→D→D→D→b4→Prop}{Q:D→b4→Prop}{x0 x4 x5 x7 x8 x38 x39 x40 x57 x58 x59:D}{S:b4}(h:a2I E w0 N0 N1 Q x0 x4 x5 x7 x8 x38 x39 x40 x57 x58 x59 S):
  d5 Try.prog E w0 a0h (f0 173 [0,4,5,7,8,38,39,40,57,58,59] [x0,x4,x5,x7,x8,x38,x39,x40,x57,x58,x59]) S (E4 (fun T S=>N1 (T.getD 0 b6) (T.getD 4 b6) (T.getD 5 b6) (T.getD 7 b6) (T.getD 8 b6) (T.getD 38 b6) (T.getD 39 b6) (T.getD 40 b6) (T.getD 57 b6) (T.getD 58 b6) (T.getD 59 b6) S) (a0g E w0 N0 Q)):=f9 u5 w9 u9 mixed (by kernel_rfl) h
theorem a9o{E:d6}{w0:i9}{N0:D→D→D→D→D→D→D→b4→Prop}{Q:D→b4→Prop}(I:Nat→D→D→D→D→D→D→D→D→D→D→D→b4→Prop)
  (step:∀n x0 x4 x5 x7 x8 x38 x39 x40 x57 x58 x59 S,I n x0 x4 x5 x7 x8 x38 x39 x40 x57 x58 x59 S→a2I E w0 N0 (fun x0 x4 x5 x7 x8 x38 x39 x40 x57 x58 x59 S=>∃m,m<n∧I m x0 x4 x5 x7 x8 x38 x39 x40 x57 x58 x59 S) Q x0 x4 x5 x7 x8 x38 x39 x40 x57 x58 x59 S)
  {n:Nat} {x0 x4 x5 x7 x8 x38 x39 x40 x57 x58 x59:D} {S:b4} (h:I n x0 x4 x5 x7 x8 x38 x39 x40 x57 x58 x59 S):d5 Try.prog E w0 (.loop a0h) (f0 173 [0,4,5,7,8,38,39,40,57,58,59] [x0,x4,x5,x7,x8,x38,x39,x40,x57,x58,x59]) S (a0g E w0 N0 Q):=
 s6 (k:=173) (n:=n) (I:=fun n T S=>I n (T.getD 0 b6) (T.getD 4 b6) (T.getD 5 b6) (T.getD 7 b6) (T.getD 8 b6) (T.getD 38 b6) (T.getD 39 b6) (T.getD 40 b6) (T.getD 57 b6) (T.getD 58 b6) (T.getD 59 b6) S) (fun n T S hl hI=>t6 [0,4,5,7,8,38,39,40,57,58,59] hl (d5.mono (a8N (step n _ _ _ _ _ _ _ _ _ _ _ S hI)) fun ex T' S' _ hq=>by cases ex<;>exact hq)) (i6 ..) (Eq.mp (by kernel_rfl) h)
noncomputable def b2s:Code:=(i5 [1,1,1,1,1,1,1,1,1,1,0,1,0,0,1,1,0,0,1,1,1] (Try.f14.body.getD .skip))
def b0n(E:d6)(w0:i9)(N3:D→D→D→D→D→D→D→b4→Prop)(Q:D→b4→Prop):j6→List D→b4→Prop:=
 (s7 7 (X9 Try.prog E w0 u5 w9 u9 (i5 [1,1,1,1,1,1,1,1,1,1,0,1,0,0,1,1,1] (Try.f14.body.getD .skip)) (E4 (fun T S=>N3 (T.getD 0 b6) (T.getD 5 b6) (T.getD 14 b6) (T.getD 16 b6) (T.getD 94 b6) (T.getD 95 b6) (T.getD 96 b6) S) (s7 6 (X9 Try.prog E w0 u5 w9 u9 (i5 [1,1,1,1,1,1,1,1,1,1,1] (Try.f14.body.getD .skip)) (P2 Try.prog Try.f14 Q))))))
def a4q(E:d6)(w0:i9)(N3:D→D→D→D→D→D→D→b4→Prop)(Q:D→b4→Prop)(x0 x5 x14 x16 x17 x19 x94 x95 x96:D)(S:b4):Prop:=
 a8 (j9 x16) fun v84=>
 a8 (d4 .sub v84 (.int .i64 1)) fun v85=>
 a8 (m9 3 x16 v85) fun v86=>
 a8 (d4 .add x17 (.int .i64 1)) fun v87=>
 a8 (m9 1 x5 v87) fun v88=>
 a8 (c9 S v88) fun v89=>
 a8 (a2E v86) fun v90=>
 a8 (s5 1 v90) fun v91=>
 j2 S 1 v91 v89 fun v92 S93=>
 a8 (a2E v86) fun v94=>
 a8 (s5 2 v94) fun v95=>
 j2 S93 1 v95 x19 fun v96 S97=>
 a8 (d4 .add x96 (.int .i64 1)) fun v98=>
 N3 x0 x5 x14 x16 x94 x95 v98 S97
def N6(E:d6)(w0:i9)(N3:D→D→D→D→D→D→D→b4→Prop)(Q:D→b4→Prop)(x0 x5 x14 x16 x17 x19 x94 x95 x96:D)(S:b4):Prop:=d5 Try.prog E w0 b2s (f0 173 [0,5,14,16,17,19,94,95,96] [x0,x5,x14,x16,x17,x19,x94,x95,x96]) S (b0n E w0 N3 Q)
theorem a7j{E:d6}{w0:i9}{N3:D→D→D→D→D→D→D→b4→Prop}{Q:D→b4→Prop}{x0 x5 x14 x16 x17 x19 x94 x95 x96:D}{S:b4}(h:a4q E w0 N3 Q x0 x5 x14 x16 x17 x19 x94 x95 x96 S):N6 E w0 N3 Q x0 x5 x14 x16 x17 x19 x94 x95 x96 S:=f9 u5 w9 u9 mixed (by kernel_rfl) h
noncomputable def T9:Code:=(i5 [1,1,1,1,1,1,1,1,1,1,0,1,0,0] (Try.f14.body.getD .skip))
def U6(E:d6)(w0:i9)(Q:D→b4→Prop):j6→List D→b4→Prop:=
 (s7 6 (X9 Try.prog E w0 u5 w9 u9 (i5 [1,1,1,1,1,1,1,1,1,1,1] (Try.f14.body.getD .skip)) (P2 Try.prog Try.f14 Q)))
def a2q(E:d6)(w0:i9)(N3:D→D→D→D→D→D→D→b4→Prop)(Q:D→b4→Prop)(x0 x5 x14 x16 x94 x95 x96:D)(S:b4):Prop:=
 a8 (d4 .lss x96 x95) fun v69=>
 d9 v69
 (a8 (m9 4 x94 x96) fun v70=>
 a8 (r9 S 4 v70) fun v71=>
 o9 S [(.int .u8 0),(.int .i64 0),(.int .i64 0), .nilSlc] fun v72 S73=>
 j2 S73 4 v72 v71 fun v74 S75=>
 a8 (r9 S75 4 v72) fun v76=>
 a8 (d4 .add x96 (.int .i64 1)) fun v77=>
 a8 (m9 1 x5 v77) fun v78=>
 a8 (c9 S75 v78) fun v79=>
 s4 Try.prog E w0 I6 [v76,v79] S75 fun v80 S81=>
 a8 (o3 v80 0) fun v82=>
 a8 (o3 v80 1) fun v83=>
 a8 (j9 x14) fun v99=>
 a8 (d4 .gtr v99 (.int .i64 0)) fun v100=>
 a8 (b8 (b7 v100 true) (some x14)) fun v101=>
 a8 (b8 (b7 v100 true) (m9 1 v101 (.int .i64 0))) fun v102=>
 a8 (b8 (b7 v100 true) (c9 S81 v102)) fun v103=>
 a8 (b8 (b7 v100 true) (some x5)) fun v104=>
 a8 (b8 (b7 v100 true) (some x96)) fun v105=>
 a8 (b8 (b7 v100 true) (m9 1 v104 v105)) fun v106=>
 a8 (b8 (b7 v100 true) (c9 S81 v106)) fun v107=>
 a8 (b8 (b7 v100 true) (d4 .eql v103 v107)) fun v108=>
 a8 (B6 v100 v108 (.bool false)) fun v109=>
 d9 v109
 (a8 (W9 1 x14 (some (.int .i64 1)) none none) fun v110=>
 a8 (m9 1 x5 x96) fun v111=>
 a8 (c9 S81 v111) fun v112=>
 a8 (D6 (r8 [(.int .i64 0),(.int .i64 0), .nilSlc] [(0,1,v112)])) fun v113=>
 K5 S81 3 (z6 3 (List.replicate 1 [(.int .i64 0),(.int .i64 0), .nilSlc]) [(0,v113)]) 1 fun v114 S115=>
 z7 S115 3 40 x16 v114 fun v116 S117=>
 N6 E w0 N3 Q x0 x5 v110 v116 x96 v82 x94 x95 x96 S117)
 (N6 E w0 N3 Q x0 x5 x14 x16 x96 v82 x94 x95 x96 S81))
 (a8 (j9 x14) fun v118=>
 a8 (d4 .gtr v118 (.int .i64 0)) fun v119=>
 a8 (b8 (b7 v119 false) (some x16)) fun v120=>
 a8 (b8 (b7 v119 false) (j9 v120)) fun v121=>
 a8 (b8 (b7 v119 false) (d4 .eql v121 (.int .i64 0))) fun v122=>
 a8 (B6 v119 (.bool true) v122) fun v123=>
 a8 (b8 (b7 v123 false) (some x16)) fun v124=>
 a8 (b8 (b7 v123 false) (some x16)) fun v125=>
 a8 (b8 (b7 v123 false) (j9 v125)) fun v126=>
 a8 (b8 (b7 v123 false) (d4 .sub v126 (.int .i64 1))) fun v127=>
 a8 (b8 (b7 v123 false) (m9 3 v124 v127)) fun v128=>
 a8 (b8 (b7 v123 false) (s5 2 v128)) fun v129=>
 a8 (b8 (b7 v123 false) (c9 S v129)) fun v130=>
 a8 (b8 (b7 v123 false) (some x0)) fun v131=>
 a8 (b8 (b7 v123 false) (j9 v131)) fun v132=>
 a0a (b7 v123 false) (fun K=>s4 Try.prog E w0 L3 [v130,v132] S K) S fun v133 S134=>
 a8 (B6 v123 (.bool true) v133) fun v135=>
 d9 v135
 (Q (.tup [.nilSlc,(.int .i64 190)]) S134)
 (Q (.tup [x16,(.int .i64 0)]) S134))
theorem a9l{E:d6}{w0:i9}{N3:D→D→D→D→D→D→D→b4→Prop}{Q:D→b4→Prop}{x0 x5 x14 x16 x94 x95 x96:D}{S:b4}(h:a2q E w0 N3 Q x0 x5 x14 x16 x94 x95 x96 S):
  d5 Try.prog E w0 T9 (f0 173 [0,5,14,16,94,95,96] [x0,x5,x14,x16,x94,x95,x96]) S (E4 (fun T S=>N3 (T.getD 0 b6) (T.getD 5 b6) (T.getD 14 b6) (T.getD 16 b6) (T.getD 94 b6) (T.getD 95 b6) (T.getD 96 b6) S) (U6 E w0 Q)):=f9 u5 w9 u9 mixed (by kernel_rfl) h
theorem a8x{E:d6}{w0:i9}{Q:D→b4→Prop}(I:Nat→D→D→D→D→D→D→D→b4→Prop)
  (step:∀n x0 x5 x14 x16 x94 x95 x96 S,I n x0 x5 x14 x16 x94 x95 x96 S→a2q E w0 (fun x0 x5 x14 x16 x94 x95 x96 S=>∃m,m<n∧I m x0 x5 x14 x16 x94 x95 x96 S) Q x0 x5 x14 x16 x94 x95 x96 S)
  {n:Nat} {x0 x5 x14 x16 x94 x95 x96:D} {S:b4} (h:I n x0 x5 x14 x16 x94 x95 x96 S):d5 Try.prog E w0 (.loop T9) (f0 173 [0,5,14,16,94,95,96] [x0,x5,x14,x16,x94,x95,x96]) S (U6 E w0 Q):=
 s6 (k:=173) (n:=n) (I:=fun n T S=>I n (T.getD 0 b6) (T.getD 5 b6) (T.getD 14 b6) (T.getD 16 b6) (T.getD 94 b6) (T.getD 95 b6) (T.getD 96 b6) S) (fun n T S hl hI=>t6 [0,5,14,16,94,95,96] hl (d5.mono (a9l (step n _ _ _ _ _ _ _ S hI)) fun ex T' S' _ hq=>by cases ex<;>exact hq)) (i6 ..) (Eq.mp (by kernel_rfl) h)
noncomputable def U2:Code:=(i5 [1,1,1,1,1,1,1,0,1,0,0] (Try.f14.body.getD .skip))
def U9(E:d6)(w0:i9)(Q:D→b4→Prop):j6→List D→b4→Prop:=
 (s7 4 (X9 Try.prog E w0 u5 w9 u9 (i5 [1,1,1,1,1,1,1,1] (Try.f14.body.getD .skip)) (P2 Try.prog Try.f14 Q)))
def a2w(E:d6)(w0:i9)(N2:D→D→D→D→D→b4→Prop)(Q:D→b4→Prop)(x0 x4 x5 x14 x83:D)(S:b4):Prop:=
 b4c S x83 fun v56 S57=>
 a8 (o3 v56 0) fun v58=>
 d9 v58
 (a8J S57 x83 fun v59 S60=>
 a8 (o3 v59 0) fun v61=>
 K5 S60 1 (z6 1 (List.replicate 1 [(.int .i64 0)]) [(0,v61)]) 1 fun v62 S63=>
 z7 S63 1 8 x14 v62 fun v64 S65=>
 N2 x0 x4 x5 v64 x83 S65)
 (s4 Try.prog E w0 G4 [x14] S57 fun v66 S67=>
 a8 (j9 x4) fun v68=>
 d5 Try.prog E w0 (.loop T9) (f0 173 [0,5,14,16,94,95,96] [x0,x5,x14, .nilSlc,x4,v68,(.int .i64 0)]) S67 (U6 E w0 Q))
theorem a8P{E:d6}{w0:i9}{N2:D→D→D→D→D→b4→Prop}{Q:D→b4→Prop}{x0 x4 x5 x14 x83:D}{S:b4}(h:a2w E w0 N2 Q x0 x4 x5 x14 x83 S):
  d5 Try.prog E w0 U2 (f0 173 [0,4,5,14,83] [x0,x4,x5,x14,x83]) S (E4 (fun T S=>N2 (T.getD 0 b6) (T.getD 4 b6) (T.getD 5 b6) (T.getD 14 b6) (T.getD 83 b6) S) (U9 E w0 Q)):=f9 u5 w9 u9 mixed (by kernel_rfl) h
theorem a8M{E:d6}{w0:i9}{Q:D→b4→Prop}(I:Nat→D→D→D→D→D→b4→Prop)
  (step:∀n x0 x4 x5 x14 x83 S,I n x0 x4 x5 x14 x83 S→a2w E w0 (fun x0 x4 x5 x14 x83 S=>∃m,m<n∧I m x0 x4 x5 x14 x83 S) Q x0 x4 x5 x14 x83 S)
  {n:Nat} {x0 x4 x5 x14 x83:D} {S:b4} (h:I n x0 x4 x5 x14 x83 S):d5 Try.prog E w0 (.loop U2) (f0 173 [0,4,5,14,83] [x0,x4,x5,x14,x83]) S (U9 E w0 Q):=
 s6 (k:=173) (n:=n) (I:=fun n T S=>I n (T.getD 0 b6) (T.getD 4 b6) (T.getD 5 b6) (T.getD 14 b6) (T.getD 83 b6) S) (fun n T S hl hI=>t6 [0,4,5,14,83] hl (d5.mono (a8P (step n _ _ _ _ _ S hI)) fun ex T' S' _ hq=>by cases ex<;>exact hq)) (i6 ..) (Eq.mp (by kernel_rfl) h)
noncomputable def a0j:Code:=(i5 [1,1,1,1,1,0,1,0,0] (Try.f14.body.getD .skip))
def a0q(E:d6)(w0:i9)(Q:D→b4→Prop):j6→List D→b4→Prop:=
 (s7 0 (X9 Try.prog E w0 u5 w9 u9 (i5 [1,1,1,1,1,1] (Try.f14.body.getD .skip)) (P2 Try.prog Try.f14 Q)))
def a2s(E:d6)(w0:i9)(N0:D→D→D→D→D→D→D→b4→Prop)(Q:D→b4→Prop)(x0 x4 x5 x7 x38 x39 x40:D)(S:b4):Prop:=
 a8 (d4 .lss x40 x39) fun v16=>
 d9 v16
 (a8 (m9 4 x38 x40) fun v17=>
 a8 (r9 S 4 v17) fun v18=>
 o9 S [(.int .u8 0),(.int .i64 0),(.int .i64 0), .nilSlc] fun v19 S20=>
 j2 S20 4 v19 v18 fun v21 S22=>
 a8 (r9 S22 4 v19) fun v23=>
 a8 (d4 .add x40 (.int .i64 1)) fun v24=>
 a8 (m9 1 x5 v24) fun v25=>
 a8 (c9 S22 v25) fun v26=>
 s4 Try.prog E w0 I6 [v23,v26] S22 fun v27 S28=>
 a8 (o3 v27 0) fun v29=>
 a8 (o3 v27 1) fun v30=>
 a8 (unD .not v30) fun v31=>
 d9 v31
 (a8 (d4 .add x40 (.int .i64 1)) fun v32=>
 N0 x0 x4 x5 x7 x38 x39 v32 S28)
 (a8 (j9 v29) fun v33=>
 d5 Try.prog E w0 (.loop a0h) (f0 173 [0,4,5,7,8,38,39,40,57,58,59] [x0,x4,x5,x7,x40,x38,x39,x40,v29,v33,(.int .i64 0)]) S28 (a0g E w0 N0 Q)))
 (a6K S x7 fun v54 S55=>
 d5 Try.prog E w0 (.loop U2) (f0 173 [0,4,5,14,83] [x0,x4,x5, .nilSlc,v54]) S55 (U9 E w0 Q))
theorem a9p{E:d6}{w0:i9}{N0:D→D→D→D→D→D→D→b4→Prop}{Q:D→b4→Prop}{x0 x4 x5 x7 x38 x39 x40:D}{S:b4}(h:a2s E w0 N0 Q x0 x4 x5 x7 x38 x39 x40 S):
  d5 Try.prog E w0 a0j (f0 173 [0,4,5,7,38,39,40] [x0,x4,x5,x7,x38,x39,x40]) S (E4 (fun T S=>N0 (T.getD 0 b6) (T.getD 4 b6) (T.getD 5 b6) (T.getD 7 b6) (T.getD 38 b6) (T.getD 39 b6) (T.getD 40 b6) S) (a0q E w0 Q)):=f9 u5 w9 u9 mixed (by kernel_rfl) h
theorem a8D{E:d6}{w0:i9}{Q:D→b4→Prop}(I:Nat→D→D→D→D→D→D→D→b4→Prop)
  (step:∀n x0 x4 x5 x7 x38 x39 x40 S,I n x0 x4 x5 x7 x38 x39 x40 S→a2s E w0 (fun x0 x4 x5 x7 x38 x39 x40 S=>∃m,m<n∧I m x0 x4 x5 x7 x38 x39 x40 S) Q x0 x4 x5 x7 x38 x39 x40 S)
  {n:Nat} {x0 x4 x5 x7 x38 x39 x40:D} {S:b4} (h:I n x0 x4 x5 x7 x38 x39 x40 S):d5 Try.prog E w0 (.loop a0j) (f0 173 [0,4,5,7,38,39,40] [x0,x4,x5,x7,x38,x39,x40]) S (a0q E w0 Q):=
 s6 (k:=173) (n:=n) (I:=fun n T S=>I n (T.getD 0 b6) (T.getD 4 b6) (T.getD 5 b6) (T.getD 7 b6) (T.getD 38 b6) (T.getD 39 b6) (T.getD 40 b6) S) (fun n T S hl hI=>t6 [0,4,5,7,38,39,40] hl (d5.mono (a9p (step n _ _ _ _ _ _ _ S hI)) fun ex T' S' _ hq=>by cases ex<;>exact hq)) (i6 ..) (Eq.mp (by kernel_rfl) h)
def a9M(E:d6)(w0:i9)(Q:D→b4→Prop)(a0:D)(S:b4):Prop:=
 s4 Try.prog E w0 L2 [a0] S fun v0 S1=>
 a8 (o3 v0 0) fun v2=>
 a8 (o3 v0 1) fun v3=>
 a8 (o3 v0 2) fun v4=>
 a8 (d4 .neq v4 (.int .i64 0)) fun v5=>
 d9 v5
 (Q (.tup [.nilSlc,v4]) S1)
 (a8 (j9 a0) fun v6=>
 K5 S1 1 (z6 1 (List.replicate 1 [(.int .i64 0)]) [(0,v6)]) 1 fun v7 S8=>
 z7 S8 1 8 v3 v7 fun v9 S10=>
 b2I S10 fun v11 S12=>
 b0y S12 0 v11 (.int .i64 0) (.int .i64 0) fun v13 S14=>
 a8 (j9 v2) fun v15=>
 d5 Try.prog E w0 (.loop a0j) (f0 173 [0,4,5,7,38,39,40] [a0,v2,v9,v11,v2,v15,(.int .i64 0)]) S14 (a0q E w0 Q))
theorem b2S{E:d6}{w0:i9}{Q:D→b4→Prop}{a0:D}{S:b4}(h:a9M E w0 (b9 E Q) a0 S):s4 Try.prog E w0 W0 [a0] S Q:=
 q8 u5 w9 u9 (fn:=Try.f14) (c:=Try.f14.body.getD .skip) mixed Try.func14 (by kernel_rfl) (by kernel_rfl) h
def F7:List (Nat×List Nat):=[(6,[0,3,4]),(20,[0,3,5,6]),(32,[0,3,5,6,58,59,60])]
def F9:List (Nat×List Nat):=[(20,[0,3,5,6]),(44,[5])]
def F8:List (Nat×Arr):=[]
noncomputable def G6:Code:=(i5 [1,1,1,1,1,1,1] (Try.f18.body.getD .skip))
def a7e(E:d6)(w0:i9)(Q:D→b4→Prop):j6→List D→b4→Prop:=
 (P2 Try.prog Try.f18 Q)
def M3(E:d6)(w0:i9)(Q:D→b4→Prop)(x5:D)(S:b4):Prop:=d5 Try.prog E w0 G6 (f0 79 [5] [x5]) S (a7e E w0 Q)
noncomputable def P5:Code:=(i5 [1,1,1,1,1,1,0,0,0,1,0,1,1,1,1,1,0,0] (Try.f18.body.getD .skip))
def Q1(E:d6)(w0:i9)(N1:D→D→D→D→b4→Prop)(Q:D→b4→Prop):j6→List D→b4→Prop:=
 (s7 4 (s7 3 (E4 (fun T S=>N1 (T.getD 0 b6) (T.getD 3 b6) (T.getD 5 b6) (T.getD 6 b6) S) (s7 2 (b8z Try.prog E w0 79 [5] G6 (P2 Try.prog Try.f18 Q))))))
def Y7(E:d6)(w0:i9)(N1:D→D→D→D→b4→Prop)(N2:D→D→D→D→D→D→D→b4→Prop)(Q:D→b4→Prop)(x0 x3 x5 x6 x58 x59 x60:D)(S:b4):Prop:=
 a8 (d4 .lss x60 x59) fun v43=>
 d9 v43
 (a8 (m9 1 x58 x60) fun v44=>
 a8 (c9 S v44) fun v45=>
 a8 (a5e S 0 (.int .i64 0) true x3 v45) fun v46=>
 a8 (o3 v46 0) fun v47=>
 a8 (o3 v46 1) fun v48=>
 d9 v48
 (K5 S 1 (z6 1 (List.replicate 1 [(.int .i64 0)]) [(0,v47)]) 1 fun v49 S50=>
 z7 S50 1 8 x6 v49 fun v51 S52=>
 a8 (d4 .add x60 (.int .i64 1)) fun v53=>
 N2 x0 x3 x5 v51 x58 x59 v53 S52)
 (a8 (d4 .add x60 (.int .i64 1)) fun v54=>
 N2 x0 x3 x5 x6 x58 x59 v54 S))
 (N1 x0 x3 x5 x6 S)
theorem a6b{E:d6}{w0:i9}{N1:D→D→D→D→b4→Prop}{N2:D→D→D→D→D→D→D→b4→Prop}{Q:D→b4→Prop}{x0 x3 x5 x6 x58 x59 x60:D}{S:b4}(h:Y7 E w0 N1 N2 Q x0 x3 x5 x6 x58 x59 x60 S):
  d5 Try.prog E w0 P5 (f0 79 [0,3,5,6,58,59,60] [x0,x3,x5,x6,x58,x59,x60]) S (E4 (fun T S=>N2 (T.getD 0 b6) (T.getD 3 b6) (T.getD 5 b6) (T.getD 6 b6) (T.getD 58 b6) (T.getD 59 b6) (T.getD 60 b6) S) (Q1 E w0 N1 Q)):=f9 F7 F9 F8 mixed (by kernel_rfl) h
theorem a5R{E:d6}{w0:i9}{N1:D→D→D→D→b4→Prop}{Q:D→b4→Prop}(I:Nat→D→D→D→D→D→D→D→b4→Prop)
  (step:∀n x0 x3 x5 x6 x58 x59 x60 S,I n x0 x3 x5 x6 x58 x59 x60 S→Y7 E w0 N1 (fun x0 x3 x5 x6 x58 x59 x60 S=>∃m,m<n∧I m x0 x3 x5 x6 x58 x59 x60 S) Q x0 x3 x5 x6 x58 x59 x60 S)
  {n:Nat} {x0 x3 x5 x6 x58 x59 x60:D} {S:b4} (h:I n x0 x3 x5 x6 x58 x59 x60 S):d5 Try.prog E w0 (.loop P5) (f0 79 [0,3,5,6,58,59,60] [x0,x3,x5,x6,x58,x59,x60]) S (Q1 E w0 N1 Q):=
 s6 (k:=79) (n:=n) (I:=fun n T S=>I n (T.getD 0 b6) (T.getD 3 b6) (T.getD 5 b6) (T.getD 6 b6) (T.getD 58 b6) (T.getD 59 b6) (T.getD 60 b6) S) (fun n T S hl hI=>t6 [0,3,5,6,58,59,60] hl (d5.mono (a6b (step n _ _ _ _ _ _ _ S hI)) fun ex T' S' _ hq=>by cases ex<;>exact hq)) (i6 ..) (Eq.mp (by kernel_rfl) h)
noncomputable def Q4:Code:=(i5 [1,1,1,1,1,1,0,0,0] (Try.f18.body.getD .skip))
def Q2(E:d6)(w0:i9)(Q:D→b4→Prop):j6→List D→b4→Prop:=
 (s7 2 (b8z Try.prog E w0 79 [5] G6 (P2 Try.prog Try.f18 Q)))
def Y8(E:d6)(w0:i9)(N1:D→D→D→D→b4→Prop)(Q:D→b4→Prop)(x0 x3 x5 x6:D)(S:b4):Prop:=
 a8 (j9 x6) fun v17=>
 a8 (d4 .gtr v17 (.int .i64 0)) fun v18=>
 d9 v18
 (a8 (j9 x6) fun v19=>
 a8 (d4 .sub v19 (.int .i64 1)) fun v20=>
 a8 (m9 1 x6 v20) fun v21=>
 a8 (c9 S v21) fun v22=>
 a8 (m9 3 x0 v22) fun v23=>
 a8 (r9 S 3 v23) fun v24=>
 o9 S [(.int .i64 0),(.int .i64 0), .nilSlc] fun v25 S26=>
 j2 S26 3 v25 v24 fun v27 S28=>
 a8 (j9 x6) fun v29=>
 a8 (d4 .sub v29 (.int .i64 1)) fun v30=>
 a8 (W9 1 x6 none (some v30) none) fun v31=>
 a8 (s5 0 v25) fun v32=>
 a8 (c9 S28 v32) fun v33=>
 a8 (a5e S28 0 (.int .i64 0) false x5 v33) fun v34=>
 a8 (d4 .gtr v34 (.int .i64 0)) fun v35=>
 d9 v35
 (N1 x0 x3 x5 v31 S28)
 (a8 (s5 0 v25) fun v36=>
 a8 (c9 S28 v36) fun v37=>
 b0y S28 0 x5 v37 (.int .i64 1) fun v38 S39=>
 a8 (s5 2 v25) fun v40=>
 a8 (c9 S39 v40) fun v41=>
 a8 (j9 v41) fun v42=>
 d5 Try.prog E w0 (.loop P5) (f0 79 [0,3,5,6,58,59,60] [x0,x3,x5,v31,v41,v42,(.int .i64 0)]) S39 (Q1 E w0 N1 Q)))
 (M3 E w0 Q x5 S)
theorem a5P{E:d6}{w0:i9}{N1:D→D→D→D→b4→Prop}{Q:D→b4→Prop}{x0 x3 x5 x6:D}{S:b4}(h:Y8 E w0 N1 Q x0 x3 x5 x6 S):
  d5 Try.prog E w0 Q4 (f0 79 [0,3,5,6] [x0,x3,x5,x6]) S (E4 (fun T S=>N1 (T.getD 0 b6) (T.getD 3 b6) (T.getD 5 b6) (T.getD 6 b6) S) (Q2 E w0 Q)):=f9 F7 F9 F8 mixed (by kernel_rfl) h
theorem a6e{E:d6}{w0:i9}{Q:D→b4→Prop}(I:Nat→D→D→D→D→b4→Prop)
  (step:∀n x0 x3 x5 x6 S,I n x0 x3 x5 x6 S→Y8 E w0 (fun x0 x3 x5 x6 S=>∃m,m<n∧I m x0 x3 x5 x6 S) Q x0 x3 x5 x6 S)
  {n:Nat} {x0 x3 x5 x6:D} {S:b4} (h:I n x0 x3 x5 x6 S):d5 Try.prog E w0 (.loop Q4) (f0 79 [0,3,5,6] [x0,x3,x5,x6]) S (Q2 E w0 Q):=
 s6 (k:=79) (n:=n) (I:=fun n T S=>I n (T.getD 0 b6) (T.getD 3 b6) (T.getD 5 b6) (T.getD 6 b6) S) (fun n T S hl hI=>t6 [0,3,5,6] hl (d5.mono (a5P (step n _ _ _ _ S hI)) fun ex T' S' _ hq=>by cases ex<;>exact hq)) (i6 ..) (Eq.mp (by kernel_rfl) h)
noncomputable def a8f:Code:=(i5 [1,1,1,1,1,1] (Try.f18.body.getD .skip))
def a6W(E:d6)(w0:i9)(Q:D→b4→Prop):j6→List D→b4→Prop:=
 (P2 Try.prog Try.f18 Q)
def a2d(E:d6)(w0:i9)(Q:D→b4→Prop)(x0 x3 x5 x6:D)(S:b4):Prop:=
 d5 Try.prog E w0 (.loop Q4) (f0 79 [0,3,5,6] [x0,x3,x5,x6]) S (Q2 E w0 Q)
def C9(E:d6)(w0:i9)(Q:D→b4→Prop)(x0 x3 x5 x6:D)(S:b4):Prop:=d5 Try.prog E w0 a8f (f0 79 [0,3,5,6] [x0,x3,x5,x6]) S (a6W E w0 Q)
theorem a4C{E:d6}{w0:i9}{Q:D→b4→Prop}{x0 x3 x5 x6:D}{S:b4}(h:a2d E w0 Q x0 x3 x5 x6 S):C9 E w0 Q x0 x3 x5 x6 S:=f9 F7 F9 F8 mixed (by kernel_rfl) h
noncomputable def P3:Code:=(i5 [1,1,0,1,0,0] (Try.f18.body.getD .skip))
def P4(E:d6)(w0:i9)(Q:D→b4→Prop):j6→List D→b4→Prop:=
 (s7 0 (X9 Try.prog E w0 F7 F9 F8 (i5 [1,1,1] (Try.f18.body.getD .skip)) (P2 Try.prog Try.f18 Q)))
def a0d(E:d6)(w0:i9)(N0:D→D→D→b4→Prop)(Q:D→b4→Prop)(x0 x3 x4:D)(S:b4):Prop:=
 a8 (d4 .geq x4 (.int .i64 0)) fun v4=>
 d9 v4
 (a8 (m9 3 x0 x4) fun v5=>
 a8 (s5 0 v5) fun v6=>
 a8 (c9 S v6) fun v7=>
 b0y S 0 x3 v7 x4 fun v8 S9=>
 a8 (d4 .sub x4 (.int .i64 1)) fun v10=>
 N0 x0 x3 v10 S9)
 (b2I S fun v11 S12=>
 a8 (j9 x0) fun v55=>
 a8 (d4 .gtr v55 (.int .i64 0)) fun v56=>
 d9 v56
 (K5 S12 1 (z6 1 (List.replicate 1 [(.int .i64 0)]) [(0,(.int .i64 0))]) 1 fun v57 S58=>
 C9 E w0 Q x0 x3 v11 v57 S58)
 (C9 E w0 Q x0 x3 v11 .nilSlc S12))
theorem a5O{E:d6}{w0:i9}{N0:D→D→D→b4→Prop}{Q:D→b4→Prop}{x0 x3 x4:D}{S:b4}(h:a0d E w0 N0 Q x0 x3 x4 S):
  d5 Try.prog E w0 P3 (f0 79 [0,3,4] [x0,x3,x4]) S (E4 (fun T S=>N0 (T.getD 0 b6) (T.getD 3 b6) (T.getD 4 b6) S) (P4 E w0 Q)):=f9 F7 F9 F8 mixed (by kernel_rfl) h
theorem a5U{E:d6}{w0:i9}{Q:D→b4→Prop}(I:Nat→D→D→D→b4→Prop)
  (step:∀n x0 x3 x4 S,I n x0 x3 x4 S→a0d E w0 (fun x0 x3 x4 S=>∃m,m<n∧I m x0 x3 x4 S) Q x0 x3 x4 S)
  {n:Nat} {x0 x3 x4:D} {S:b4} (h:I n x0 x3 x4 S):d5 Try.prog E w0 (.loop P3) (f0 79 [0,3,4] [x0,x3,x4]) S (P4 E w0 Q):=
 s6 (k:=79) (n:=n) (I:=fun n T S=>I n (T.getD 0 b6) (T.getD 3 b6) (T.getD 4 b6) S) (fun n T S hl hI=>t6 [0,3,4] hl (d5.mono (a5O (step n _ _ _ S hI)) fun ex T' S' _ hq=>by cases ex<;>exact hq)) (i6 ..) (Eq.mp (by kernel_rfl) h)
def a4V(E:d6)(w0:i9)(Q:D→b4→Prop)(a0:D)(S:b4):Prop:=
 b2I S fun v0 S1=>
 a8 (j9 a0) fun v2=>
 a8 (d4 .sub v2 (.int .i64 1)) fun v3=>
 d5 Try.prog E w0 (.loop P3) (f0 79 [0,3,4] [a0,v0,v3]) S1 (P4 E w0 Q)
theorem a7X{E:d6}{w0:i9}{Q:D→b4→Prop}{a0:D}{S:b4}(h:a4V E w0 (b9 E Q) a0 S):s4 Try.prog E w0 I7 [a0] S Q:=
 q8 F7 F9 F8 (fn:=Try.f18) (c:=Try.f18.body.getD .skip) mixed Try.func18 (by kernel_rfl) (by kernel_rfl) h
def a3r:List (Nat×List Nat):=[]
def a3p:List (Nat×List Nat):=[]
def a3v:List (Nat×Arr):=[]
def Y5(E:d6)(w0:i9)(Q:D→b4→Prop)(a0 a1:D)(S:b4):Prop:=
 s4 Try.prog E w0 V1 [a0,a1] S fun v0 S1=>
 a8 (d4 .geq v0 (.int .i64 0)) fun v2=>
 Q v2 S1
theorem a2A{E:d6}{w0:i9}{Q:D→b4→Prop}{a0 a1:D}{S:b4}(h:Y5 E w0 (b9 E Q) a0 a1 S):s4 Try.prog E w0 L3 [a0,a1] S Q:=
 q8 a3r a3p a3v (fn:=Try.f40) (c:=Try.f40.body.getD .skip) mixed Try.func40 (by kernel_rfl) (by kernel_rfl) h
def R4:List (Nat×List Nat):=[(4,[0,1,7,8])]
def R9:List (Nat×List Nat):=[]
def R7:List (Nat×Arr):=[]
noncomputable def O0:Code:=(i5 [1,0,1,0,0] (Try.f57.body.getD .skip))
def N7(E:d6)(w0:i9)(Q:D→b4→Prop):j6→List D→b4→Prop:=
 (s7 0 (X9 Try.prog E w0 R4 R9 R7 (i5 [1,1] (Try.f57.body.getD .skip)) (P2 Try.prog Try.f57 Q)))
def O9(E:d6)(w0:i9)(N0:D→D→D→D→b4→Prop)(Q:D→b4→Prop)(x0 x1 x7 x8:D)(S:b4):Prop:=
 a8 (d4 .lss x8 x7) fun v1=>
 d9 v1
 (a8 (m9 1 x0 x8) fun v2=>
 a8 (c9 S v2) fun v3=>
 a8 (d4 .eql x1 v3) fun v4=>
 d9 v4
 (Q x8 S)
 (a8 (d4 .add x8 (.int .i64 1)) fun v5=>
 N0 x0 x1 x7 v5 S))
 (Q (.int .i64 (-1)) S)
theorem a2W{E:d6}{w0:i9}{N0:D→D→D→D→b4→Prop}{Q:D→b4→Prop}{x0 x1 x7 x8:D}{S:b4}(h:O9 E w0 N0 Q x0 x1 x7 x8 S):
  d5 Try.prog E w0 O0 (f0 19 [0,1,7,8] [x0,x1,x7,x8]) S (E4 (fun T S=>N0 (T.getD 0 b6) (T.getD 1 b6) (T.getD 7 b6) (T.getD 8 b6) S) (N7 E w0 Q)):=f9 R4 R9 R7 mixed (by kernel_rfl) h
theorem a2Y{E:d6}{w0:i9}{Q:D→b4→Prop}(I:Nat→D→D→D→D→b4→Prop)
  (step:∀n x0 x1 x7 x8 S,I n x0 x1 x7 x8 S→O9 E w0 (fun x0 x1 x7 x8 S=>∃m,m<n∧I m x0 x1 x7 x8 S) Q x0 x1 x7 x8 S)
  {n:Nat} {x0 x1 x7 x8:D} {S:b4} (h:I n x0 x1 x7 x8 S):d5 Try.prog E w0 (.loop O0) (f0 19 [0,1,7,8] [x0,x1,x7,x8]) S (N7 E w0 Q):=
 s6 (k:=19) (n:=n) (I:=fun n T S=>I n (T.getD 0 b6) (T.getD 1 b6) (T.getD 7 b6) (T.getD 8 b6) S) (fun n T S hl hI=>t6 [0,1,7,8] hl (d5.mono (a2W (step n _ _ _ _ S hI)) fun ex T' S' _ hq=>by cases ex<;>exact hq)) (i6 ..) (Eq.mp (by kernel_rfl) h)
def a1g(E:d6)(w0:i9)(Q:D→b4→Prop)(a0 a1:D)(S:b4):Prop:=
 a8 (j9 a0) fun v0=>
 d5 Try.prog E w0 (.loop O0) (f0 19 [0,1,7,8] [a0,a1,v0,(.int .i64 0)]) S (N7 E w0 Q)
theorem a4j{E:d6}{w0:i9}{Q:D→b4→Prop}{a0 a1:D}{S:b4}(h:a1g E w0 (b9 E Q) a0 a1 S):s4 Try.prog E w0 V1 [a0,a1] S Q:=
 q8 R4 R9 R7 (fn:=Try.f57) (c:=Try.f57.body.getD .skip) mixed Try.func57 (by kernel_rfl) (by kernel_rfl) h
end Go.Proofs.Ytdkidgkiplcggaa.d
end
section
open Go.Proofs Go Go.Am Go.Op
namespace Go.Proofs.Ytdkidgkiplcggaa.d
set_option linter.unusedSectionVars false
def J3(y:In):Bool:=decide (46≤y.op∧y.op≤49∨y.op=51∨y.op=52)
section
variable{E:d6}{w0:i9}
theorem Own.compactT{S0 S:b4}{d:D}{l:List Int}(h:Own S0 d l S)(h0:l≠[])(hl:l.length<2^60){Q:D→b4→Prop}{lp lq:List D}(hQ:b9 E Q (.tup (lp++iD (Lib.compact l)::lq)) S0):s4 Try.prog E w0 G7 [d] S fun v S'=>b9 E Q (.tup (lp++v::lq)) S':=by
 rcases h with ⟨_,e,_⟩|⟨k,acs,ex,hk,rfl,rfl⟩
 ·exact absurd e h0
 ·refine a6q.fnD (zs:=l) (b4.set_same _ _ _) rfl (by rw[i4];omega) (by rw[List.drop_zero,List.take_of_length_le (by rw[i4];exact Nat.le_refl _),X2]) (by omega) fun acs'=> ?_
  have hle:=Z5 l
  refine b9.freezeT (b4.set_same _ _ _) rfl (by simp[E1]<;>omega) hle ?_
  rw[b4.set_set,b4.erase_set _ _ _ hk]
  have:D.lst (((List.take 0 (iC l)++(E1 (Lib.compact l++List.replicate (l.length - (Lib.compact l).length) 0)++List.drop (0+l.length) (iC l))).drop 0).take (Lib.compact l).length) 1=iD (Lib.compact l):=by
   rw[List.take_zero,List.nil_append,List.drop_zero,X2,Z3,List.append_assoc,List.take_append_of_le_length (by rw[i4];exact Nat.le_refl _),List.take_of_length_le (by rw[i4];exact Nat.le_refl _)]
   rfl
  rw[this]
  exact hQ
theorem a4b{y:In}(hal:y.arms.length≤65535){next:Int}:a0A Try.prog E w0 I6 [inD y, .int .i64 next] (.tup [iD (t8 y next), .bool (J3 y)]):=fun S=>by
 refine a7u ?_
 unfold a4Q
 refine c5l fun k a n=> ?_
 have hk:H5 (S.set k ⟨4,[inC y],a⟩) k 4 (inC y):=H5.new
 have l1:S.le (S.set k ⟨4,[inC y],a⟩):=b4.le_new n
 generalize (S.set k ⟨4,[inC y],a⟩)=B at hk l1
 obtain⟨i0,i1,i2,i3⟩:=c4k y
 have hk0:=hk
 have g0:∀ {T:b4},H5 T k 4 (inC y)→c9 T (.ptr k 0)=some (.int .u8 y.op):=fun h=>h.ld 0
 have g1:∀ {T:b4},H5 T k 4 (inC y)→c9 T (.ptr k 1)=some (.int .i64 y.a):=fun h=>h.ld 1
 have g2:∀ {T:b4},H5 T k 4 (inC y)→c9 T (.ptr k 2)=some (.int .i64 y.b):=fun h=>h.ld 2
 have g3:∀ {T:b4},H5 T k 4 (inC y)→c9 T (.ptr k 3)=some (b1b y.arms):=fun h=>h.ld 3
 let Q:D→b4→Prop:=fun d' S'=>d'= .tup [iD (t8 y next), .bool (J3 y)]∧S'=S
 have fin:∀ {B' T:b4} {d:D} {l:List Int},S.le B'→Own B' d l T→l≠[]→l.length<2^60→J3 y=true→t8 y next=a0r l→M6 E w0 (b9 E Q) d T:=by
  intro B' T d l hle ho h0 hl hen he
  refine a5j ?_
  unfold a1Z
  refine ho.sort h0 hl fun v S' ho'=> ?_
  refine Own.compactT (lp:=[]) (lq:=[.bool true]) ho' (fun e=>h0 (List.length_eq_zero_iff.1 (by rw[←a3M,e];rfl))) (by rw[a3M];exact hl) ?_
  exact b9.less hle (b9.here ⟨by rw[he,hen];rfl,rfl⟩)
 have sw:∀ {T:b4} {d:D},Own B d [y.b] T→y.op=49→a8 (c9 T (.ptr k 3)) fun v23=>a8 (j9 v23) fun v24=>d5 Try.prog E w0 (.loop P8) (f0 49 [4,33,34,35] [d,v23,v24,(.int .i64 0)]) T (Q7 E w0 (b9 E Q)):=by
  intro T d ho' h49
  have hk:=(hk0.le ho'.le)
  rw[g3 hk,oD]
  rw[c1Y,oD]
  refine a6d (I:=fun n x5 x36 x37 x38 T=>x36=b1b y.arms∧x37= .int .i64 (y.arms.length:Int)∧∃(i:Nat) (B':b4),x38= .int .i64 (i:Int)∧i+n=y.arms.length∧B.le B'∧Own B' x5 (y.b::(y.arms.take i).map (·.2)) T) ?_ (n:=y.arms.length)
   ⟨rfl,rfl,0,B,rfl,by omega,b4.le_refl _,ho'⟩
  rintro n x5 _ _ _ T ⟨rfl,rfl,i,B',rfl,hi,hB,ho⟩
  unfold Z4
  rw[a2X,oD,cdI]
  refine⟨fun hlt=> ?_,fun hge=> ?_⟩
  ·have hlt:i<y.arms.length:=by omega
   have ha:y.arms[i]? =some y.arms[i]:=List.getElem?_eq_getElem hlt
   rw[c2k ha,oD,laE,if_pos ⟨by decide,by simp[a0b]⟩,oD]
   intro k3 a3 n3
   refine(H5.new (sz:=2) (c:=[.int .i64 0, .int .i64 0])).st (ds:=a0b y.arms[i]) (clA _) ⟨rfl,by decide,by simp⟩ fun a4=> ?_
   rw[b4.set_set,show n8 [D.int .i64 0, .int .i64 0] 0 (a0b y.arms[i])=a0b y.arms[i]from rfl]
   have hb:=ho.under (o:=⟨2,[a0b y.arms[i]],a4⟩) n3
   simp only[ofP,Nat.zero_add,oD]
   rw[(H5.new).ld 1,show(a0b y.arms[i])[1]? =some (.int .i64 y.arms[i].2) from rfl,oD,show z6 1 (List.replicate 1 [D.int .i64 0]) [(0, .int .i64 y.arms[i].2)]=some (iC [y.arms[i].2]) from rfl]
   refine P7 rfl ?_
   refine hb.push (news:=[y.arms[i].2]) (by simp[rowsS,F6]) (by simp) (by simp;omega) fun d' T' ho'=> ?_
   rw[K9,oD,g9 (by omega) (by omega)]
   refine⟨n - 1,by omega,by trivial,by trivial,i+1,B'.set k3 ⟨2,[a0b y.arms[i]],a4⟩,by trivial,by omega,b4.le_set hB (b4.none_of hB (b4.none_of ho.le n3)), ?_⟩
   have e:y.b::(y.arms.take (i+1)).map (·.2)=(y.b::(y.arms.take i).map (·.2))++[y.arms[i].2]:=by rw[List.take_add_one,ha,List.map_append];rfl
   rw[e]
   exact ho'
  ·rw[List.take_of_length_le (by omega)]at ho
   exact fin (b4.le_trans l1 hB) ho (by simp) (by simp;omega) (by unfold J3;simp[h49]) (by unfold t8;rw[if_neg (by omega),if_neg (by omega),if_neg (by omega),if_pos h49])
 have c41:∀ {b:Bool},y.op≠51∧y.op≠52∧y.op≠46→b=decide (y.op=47∨y.op=48)→M2 E w0 (b9 E Q) (.int .i64 next) (.ptr k 0) (.int .u8 y.op) (.bool b) B:=by
  intro b hne hb
  subst hb
  refine a4R ?_
  unfold a2h
  rw[cdI]
  refine⟨fun h=> ?_,fun h=> ?_⟩
  ·simp only[ofP,Nat.zero_add,oD,g1 hk]
   refine b9c (l:=[y.a,next]) fun d T hT=> ?_
   refine fin l1 hT (by simp) (by simp) (by unfold J3;rcases h with h|h<;>simp[h]) ?_
   unfold t8
   rw[if_neg (by omega),if_neg (by omega),if_pos h]
   exact Y6 (D1 _).1 (D1 _).1 fun n=>by rw[(D1 _).2,(D1 _).2];simp[or_comm]
  ·rw[a3Y,oD,cdI]
   refine⟨fun h49=> ?_,fun h49=> ?_⟩
   ·simp only[ofP,Nat.zero_add,oD,g2 hk]
    exact b0O fun d T hT=>sw hT h49
   ·refine b0O fun d T hT=> ?_
    refine hT.finT (lp:=[]) (lq:=[.bool false]) (b9.less l1 (b9.here ⟨?_,rfl⟩))
    have e1:t8 y next=[next]:=by unfold t8;rw[if_neg (by omega),if_neg (by omega),if_neg h,if_neg h49];exact c0X _
    have e2:J3 y=false:=by unfold J3;simp;omega
    rw[e1,e2];rfl
 have c21:∀ {b:Bool},b=decide (y.op=51∨y.op=52)→M4 E w0 (b9 E Q) (.int .i64 next) (.ptr k 0) (.int .u8 y.op) (.bool b) B:=by
  intro b hb
  subst hb
  refine a4J ?_
  unfold a2a
  rw[cdI]
  refine⟨fun h=> ?_,fun h=> ?_⟩
  ·refine b9.less l1 (b9.weak (d':= .tup [iD [], .bool true]) (Wk.tup ⟨Wk.nil 1,Wk.refl _,trivial⟩) (b9.here ⟨?_,rfl⟩))
   have e1:t8 y next=[]:=by unfold t8;rw[if_pos h]
   have e2:J3 y=true:=by unfold J3;rcases h with h|h<;>simp[h]
   rw[e1,e2]
  ·rw[a3Y,oD,cdI]
   refine⟨fun h46=> ?_,fun h46=> ?_⟩
   ·simp only[ofP,Nat.zero_add,oD,g1 hk]
    refine b0O fun d T hT=> ?_
    refine hT.finT (lp:=[]) (lq:=[.bool true]) (b9.less l1 (b9.here ⟨?_,rfl⟩))
    have e1:t8 y next=[y.a]:=by unfold t8;rw[if_neg h,if_pos h46]
    have e2:J3 y=true:=by unfold J3;simp[h46]
    rw[e1,e2];rfl
   ·rw[a3Y,oD,cdI]
    refine⟨fun h47=>c41 (by omega) (by rw[decide_eq_true h47,decide_eq_true (.inl h47)]),fun h47=> ?_⟩
    rw[a3Y,oD]
    exact c41 (by omega) (by by_cases h48:y.op=48<;>simp[h47,h48])
 simp only[ofP,Nat.zero_add,oD,g0 hk,a3Y]
 rw[cdI]
 refine⟨fun h51=>c21 (by rw[decide_eq_true h51,decide_eq_true (.inl h51)]),fun h51=>c21 (by by_cases h52:y.op=52<;>simp[h51,h52])⟩
end
end Go.Proofs.Ytdkidgkiplcggaa.d
end
section
namespace Go.Am
section
section
variable{P:Program}{E:d6}{w0:i9}
theorem b6Q(k:Nat)(o:s9):∀(ds:List D) (i:Nat) (v:D),W5 k o (ds.set i v)=(W5 k o ds).set i (frz k o v)
 | [],i,v=>by simp[W5]
 |d::ds,0,v=>by simp[W5]
 |d::ds,i+1,v=>by simp only[List.set_cons_succ,W5,b6Q k o ds i v]
theorem b6o(k:Nat)(o:s9):∀n:Nat,W5 k o (List.replicate n .any)=List.replicate n .any
 |0=>rfl
 |n+1=>by simp only[List.replicate_succ,W5,b6o k o n];simp[frz]
theorem a9Q(k:Nat)(o:s9):∀(T:List D) (L:List Nat) (vs:List D),W5 k o (V4 T L vs)=V4 (W5 k o T) L (W5 k o vs)
 |T,i::L,v::vs=>by simp only[V4,W5];rw[a9Q k o _ L vs,b6Q]
 |T,[],[]=>by simp[V4,W5]
 |T,[],_::_=>by simp[V4,W5]
 |T,_::_,[]=>by simp[V4,W5]
theorem b5a{c:Code}{n:Nat}{L:List Nat}{vs:List D}{S:b4}{Q:j6→List D→b4→Prop}{k:Nat}{o:s9}(hk:S k=some o)(hc:b8t o)(h:d5 P E w0 c (f0 n L (W5 k o vs)) (S.erase k) Q):d5 P E w0 c (f0 n L vs) S Q:=fun R H avs F hC hT=>by
 obtain⟨h1,h2⟩:=hC.freeze hk hc
 have e:W5 k o (f0 n L vs)=f0 n L (W5 k o vs):=by unfold f0;rw[a9Q,b6o]
 have hT':=a5E hC hk h2 (fun _=>if_pos rfl) hT
 rw[e]at hT'
 have:=(C0.at_le h2 (h _ H avs F h1 hT')).mono fun ex T' H' hq=>a1C.le h2 hq
 rw[i6]at this
 show C0 P E (w0.at E R) c avs H (c1B E R (f0 n L vs).length Q)
 rw[i6]
 exact this
end
end
section
def b0l(t:Int×Int×Nat):List D:=[.int .i64 t.1, .int .i64 t.2.1, .int .i64 (t.2.2:Int)]
structure I4 (S:b4) (k:Nat) (ts:List (Int×Int×Nat)):Prop where
 has:∃acs,S k=some (b0B (ts.map b0l) acs)
 keys:(ts.map (·.1)).Nodup
 stamps:(ts.map (·.2.2)).Nodup
theorem a5J(rows:List (List D))(acs:List AV):a4f (b0B rows acs)=some rows:=by
 unfold a4f b0B
 rw[if_pos rfl]
theorem a1m(q:Int):∀(ts:List (Int×Int×Nat)) (i:Nat),(q ∉ ts.map (·.1)∧a6r (.int .i64 q) (ts.map b0l) i=some none)∨
  ∃j t,ts[j]? =some t∧t.1=q∧a6r (.int .i64 q) (ts.map b0l) i=some (some (i+j, .int .i64 t.2.1, .int .i64 (t.2.2:Int)))
 | [],i=> .inl ⟨by simp,rfl⟩
 |t::ts,i=>by
  simp only[List.map_cons,b0l,a6r,b5O,if_true]
  by_cases h:q=t.1
  ·refine .inr ⟨0,t,rfl,h.symm, ?_⟩
   rw[show(q==t.1)=true by simpa using h]
   rfl
  ·rw[show(q==t.1)=false by simpa using h]
   rcases a1m q ts (i+1) with ⟨h1,h2⟩|⟨j,t',h1,h2,h3⟩
   ·exact .inl ⟨by simpa [h]using h1,h2⟩
   ·exact .inr ⟨j+1,t',h1,h2,by rw[h3,Nat.add_assoc,Nat.add_comm 1 j]⟩
theorem I4.of{S S':b4}{k:Nat}{ts:List (Int×Int×Nat)}(h:I4 S k ts)(e:S' k=S k):I4 S' k ts:=⟨by rw[e];exact h.has,h.keys,h.stamps⟩
theorem I4.there{S:b4}{k:Nat}{ts:List (Int×Int×Nat)}(h:I4 S k ts):S k≠none:=by obtain⟨a,e⟩:=h.has;rw[e];simp
theorem I4.put{S:b4}{k:Nat}{ts:List (Int×Int×Nat)}(h:I4 S k ts){q v:Int}{K:D→b4→Prop}
  (hK:∀ts' S',(∀n,n∈ts'.map (·.1)↔n=q∨n∈ts.map (·.1))→I4 S' k ts'→(∀j,j≠k→S' j=S j)→K b6 S'):b0y S 0 (.mp k) (.int .i64 q) (.int .i64 v) K:=by
 obtain⟨acs,hS⟩:=h.has
 simp only[b0y,a8i,hS,a5J,beq_self_eq_true,if_true]
 rcases a1m q ts 0 with ⟨h1,h2⟩|⟨j,t,h1,h2,h3⟩
 ·rw[h2]
  intro n acs' hn
  refine hK (ts++[(q,v,n)]) _ (fun m=>by simp[or_comm]) ⟨⟨acs',by rw[b4.set_same,List.map_append];rfl⟩, ?_, ?_⟩ fun j hj=>b4.set_ne _ _ _ hj
  ·rw[List.map_append,List.nodup_append]
   exact⟨h.keys,by simp,fun a ha b hb=>by simp at hb;subst hb;exact fun e=>h1 (by rw[←e];exact ha)⟩
  ·rw[List.map_append,List.nodup_append]
   refine⟨h.stamps,by simp,fun a ha b hb=> ?_⟩
   simp at hb
   subst hb
   rintro rfl
   obtain⟨t,ht,e⟩:=List.mem_map.1 ha
   exact hn (b0l t) (List.mem_map.2 ⟨t,ht,rfl⟩) (by simp[b0l,e])
 ·rw[h3]
  intro acs'
  have hj:j<ts.length:=(List.getElem?_eq_some_iff.1 h1).1
  have e0:∀ {α:Type} (f:Int×Int×Nat→α),f (q,v,t.2.2)=f t→(ts.set j (q,v,t.2.2)).map f=ts.map f:=fun f hf=>by
   rw[List.map_set,hf]
   apply List.ext_getElem?
   intro i
   rw[List.getElem?_set]
   split
   ·rename_i e
    subst e
    rw[List.length_map,if_pos hj,List.getElem?_map,h1];rfl
   ·rfl
  have k1:=e0 (·.1) h2.symm
  have k2:=e0 (·.2.2) rfl
  refine hK (ts.set j (q,v,t.2.2)) _ (fun n=> ?_) ⟨⟨acs', ?_⟩,by rw[k1];exact h.keys,by rw[k2];exact h.stamps⟩ fun j hj=>b4.set_ne _ _ _ hj
  ·rw[k1]
   constructor
   ·exact .inr
   ·rintro(rfl|h)
    ·exact List.mem_map.2 ⟨t,List.mem_of_getElem? h1,h2⟩
    ·exact h
  ·rw[b4.set_same,List.map_set,Nat.zero_add];rfl
theorem I4.look{S:b4}{k:Nat}{ts:List (Int×Int×Nat)}(h:I4 S k ts)(q:Int):∃v:Int,a5e S 0 (.int .i64 0) false (.mp k) (.int .i64 q)=some (.int .i64 v):=by
 obtain⟨acs,hS⟩:=h.has
 simp only[a5e,a8i,b7M,hS,a5J,beq_self_eq_true,if_true]
 rcases a1m q ts 0 with ⟨h1,h2⟩|⟨j,t,h1,h2,h3⟩
 ·rw[h2];exact⟨0,rfl⟩
 ·rw[h3];exact⟨t.2.1,rfl⟩
theorem I4.new{S:b4}{K:D→b4→Prop}(h:∀k S',S k=none→I4 S' k []→(∀j,j≠k→S' j=S j)→K (.mp k) S'):b2I S K:=fun k acs hk=>h k _ hk ⟨⟨acs,b4.set_same _ _ _⟩,by simp,by simp⟩ fun j hj=>b4.set_ne _ _ _ hj
theorem a5u{α β:Type}{f:α→β}:∀ {l:List α},(l.map f).Nodup→∀ {a b:α},a∈l→b∈l→f a=f b→a=b
 | [],_,a,b,ha,_,_=>by cases ha
 |x::l,h,a,b,ha,hb,e=>by
  simp only[List.map_cons,List.nodup_cons]at h
  rcases List.mem_cons.1 ha with h1|h1<;>rcases List.mem_cons.1 hb with h2|h2
  ·rw[h1,h2]
  ·exact(h.1 (List.mem_map.2 ⟨b,h2,by rw[←e,h1]⟩)).elim
  ·exact(h.1 (List.mem_map.2 ⟨a,h1,by rw[e,h2]⟩)).elim
  ·exact a5u h.2 h1 h2 e
def a3l(S:b4)(j m:Nat)(dn ts:List (Int×Int×Nat)):Prop:=∃acs,S j=some ⟨b0o,[.mp m]::dn.map (fun t=> .int .i64 (t.2.2:Int))::ts.map b0l,acs⟩
theorem I4.range{S:b4}{k:Nat}{ts:List (Int×Int×Nat)}(h:I4 S k ts){K:D→b4→Prop}(hK:∀j S',S j=none→a3l S' j k [] ts→(∀i,i≠j→i≠k→S' i=S i)→K (.ptr j 0) S'):a6K S (.mp k) K:=by
 obtain⟨acs,hS⟩:=h.has
 simp only[a6K,hS,a5J]
 exact fun j acs' hj=>hK j _ hj ⟨acs',b4.set_same _ _ _⟩ fun i h1 h2=>by rw[b4.set_ne _ _ _ h1,b4.erase_ne _ _ h2]
theorem b9s(m:Nat)(sr:List D)(rows:List (List D))(acs:List AV):b4o ⟨b0o,[.mp m]::sr::rows,acs⟩=some (m,sr,rows):=by
 unfold b4o
 rw[if_pos rfl]
theorem a3l.next{S:b4}{j m:Nat}{dn ts:List (Int×Int×Nat)}(h:a3l S j m dn ts)(hst:(ts.map (·.2.2)).Nodup)(hsub:∀t∈dn,t∈ts){K:D→b4→Prop}
  (h1:∀t∈ts,t ∉ dn→∀S',a3l S' j m (dn++[t]) ts→(∀i,i≠j→S' i=S i)→K (.tup [.bool true, .int .i64 t.1, .int .i64 t.2.1]) S') (h2:(∀t∈ts,t∈dn)→K (.tup [.bool false]) S):b4c S (.ptr j 0) K:=by
 obtain⟨acs,hS⟩:=h
 simp only[b4c,hS,b9s]
 have uniq:∀a∈ts,∀b∈ts,a.2.2=b.2.2→a=b:=fun a ha b hb e=>a5u hst ha hb e
 refine⟨fun key x n hrow hn acs'=> ?_,fun hall=>h2 fun t ht=> ?_⟩
 ·obtain⟨t,ht,e⟩:=List.mem_map.1 hrow
  simp only[b0l,List.cons.injEq,and_true]at e
  obtain⟨rfl,rfl,rfl⟩:=e
  refine h1 t ht (fun hd=>hn (List.mem_map.2 ⟨t,hd,rfl⟩)) _ ⟨acs', ?_⟩ fun i hi=>b4.set_ne _ _ _ hi
  rw[b4.set_same,List.map_append];rfl
 ·have:=hall _ _ _ (List.mem_map.2 ⟨t,ht,rfl⟩)
  obtain⟨t',ht',e⟩:=List.mem_map.1 this
  simp only[D.int.injEq,true_and,Int.natCast_inj]at e
  rw[uniq t ht t' (hsub t' ht') e.symm]
  exact ht'
theorem a3l.entry{S:b4}{j m:Nat}{dn ts:List (Int×Int×Nat)}{t:Int×Int×Nat}(h:a3l S j m (dn++[t]) ts)(ht:t∈ts){K:D→b4→Prop}(hK:K (.tup [.int .i64 t.1, .int .i64 t.2.1]) S):a8J S (.ptr j 0) K:=by
 obtain⟨acs,hS⟩:=h
 simp only[a8J,hS,b9s]
 exact⟨_,_,_,List.mem_map.2 ⟨t,ht,rfl⟩,by simp,hK⟩
theorem a3l.of{S S':b4}{j m:Nat}{dn ts:List (Int×Int×Nat)}(h:a3l S j m dn ts)(e:S' j=S j):a3l S' j m dn ts:=by
 obtain⟨acs,hS⟩:=h
 exact⟨acs,by rw[e];exact hS⟩
theorem a3l.there{S:b4}{j m:Nat}{dn ts:List (Int×Int×Nat)}(h:a3l S j m dn ts):S j≠none:=by obtain⟨a,e⟩:=h;rw[e];simp
end
end Go.Am
end
