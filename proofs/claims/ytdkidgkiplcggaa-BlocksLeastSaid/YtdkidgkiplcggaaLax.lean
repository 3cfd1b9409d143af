/-
  BlocksLeastSaid: part Lax of its proof.
-/
import Derived.Test.YtdkidgkiplcggaaRows
import Derived.Test.YtdkidgkiplcggaaLar
import Derived.KernelRfl
import Derived.Test.YtdkidgkiplcggaaLaw
import Derived.Test.YtdkidgkiplcggaaLav
set_option linter.unusedVariables false
set_option linter.unusedSimpArgs false
set_option maxRecDepth 100000
section
open Go.Proofs Go Go.Am
namespace Go.Proofs.Ytdkidgkiplcggaa.d
def K2:List (Nat×List Nat):=[(28,[4,33,34,35])]
def K0:List (Nat×List Nat):=[(21,[1,2,9,12]),(41,[1,2,9,20]),(36,[4])]
def K6:List (Nat×Arr):=[]
noncomputable def N9:Code:=(i6 [1,1] (Try.f38.body.getD .skip))
def a6Z(E:d6)(w0:i9)(Q:D→b4→Prop):j5→List D→b4→Prop:=
 (K3 Try.prog Try.f38 Q)
def a1U(E:d6)(w0:i9)(Q:D→b4→Prop)(x4:D)(S:b4):Prop:=
 s5 Try.prog E w0 G5 [x4] S fun v2 S3=>
 s5 Try.prog E w0 G3 [x4] S3 fun v4 S5=>
 Q (.tup [v4,(.bool true)]) S5
def N7(E:d6)(w0:i9)(Q:D→b4→Prop)(x4:D)(S:b4):Prop:=c9 Try.prog E w0 N9 (d8 49 [4] [x4]) S (a6Z E w0 Q)
theorem a4T{E:d6}{w0:i9}{Q:D→b4→Prop}{x4:D}{S:b4}(h:a1U E w0 Q x4 S):N7 E w0 Q x4 S:=d9 K2 K0 K6 mixed (by kernel_rfl) h
noncomputable def R3:Code:=(i6 [1,0,1,0,1,1,1,1,1,1,1,0,1,1,0,0] (Try.f38.body.getD .skip))
def R6(E:d6)(w0:i9)(Q:D→b4→Prop):j5→List D→b4→Prop:=
 (q9 1 (q9 0 (b7H Try.prog E w0 49 [4] N9 (K3 Try.prog Try.f38 Q))))
def a0h(E:d6)(w0:i9)(N0:D→D→D→D→b4→Prop)(Q:D→b4→Prop)(x4 x33 x34 x35:D)(S:b4):Prop:=
 a8 (d4 .lss x35 x34) fun v25=>
 f0 v25
 (a8 (l7 2 x33 x35) fun v26=>
 a8 (s4 S 2 v26) fun v27=>
 p4 S [(.int .i64 0),(.int .i64 0)] fun v28 S29=>
 j6 S29 2 v28 v27 fun v30 S31=>
 a8 (u7 1 v28) fun v32=>
 a8 (c8 S31 v32) fun v33=>
 L2 S31 1 (y9 1 (List.replicate 1 [(.int .i64 0)]) [(0,v33)]) 1 fun v34 S35=>
 u9 S35 1 8 x4 v34 fun v36 S37=>
 a8 (d4 .add x35 (.int .i64 1)) fun v38=>
 N0 v36 x33 x34 v38 S37)
 (N7 E w0 Q x4 S)
theorem a6g{E:d6}{w0:i9}{N0:D→D→D→D→b4→Prop}{Q:D→b4→Prop}{x4 x33 x34 x35:D}{S:b4}(h:a0h E w0 N0 Q x4 x33 x34 x35 S):
  c9 Try.prog E w0 R3 (d8 49 [4,33,34,35] [x4,x33,x34,x35]) S (B5 (fun T S=>N0 (T.getD 4 b6) (T.getD 33 b6) (T.getD 34 b6) (T.getD 35 b6) S) (R6 E w0 Q)):=d9 K2 K0 K6 mixed (by kernel_rfl) h
theorem a6d{E:d6}{w0:i9}{Q:D→b4→Prop}(I:Nat→D→D→D→D→b4→Prop)
  (step:∀n x4 x33 x34 x35 S,I n x4 x33 x34 x35 S→a0h E w0 (fun x4 x33 x34 x35 S=>∃m,m<n∧I m x4 x33 x34 x35 S) Q x4 x33 x34 x35 S)
  {n:Nat} {x4 x33 x34 x35:D} {S:b4} (h:I n x4 x33 x34 x35 S):c9 Try.prog E w0 (.loop R3) (d8 49 [4,33,34,35] [x4,x33,x34,x35]) S (R6 E w0 Q):=
 o4 (k:=49) (n:=n) (I:=fun n T S=>I n (T.getD 4 b6) (T.getD 33 b6) (T.getD 34 b6) (T.getD 35 b6) S) (fun n T S hl hI=>p6 [4,33,34,35] hl (c9.mono (a6g (step n _ _ _ _ S hI)) fun ex T' S' _ hq=>by cases ex<;>exact hq)) (i5 ..) (Eq.mp (by kernel_rfl) h)
noncomputable def a7G:Code:=(i6 [1,0,1,0,1,1,1,1,1] (Try.f38.body.getD .skip))
def a7b(E:d6)(w0:i9)(Q:D→b4→Prop):j5→List D→b4→Prop:=
 (q9 0 (b7H Try.prog E w0 49 [4] N9 (K3 Try.prog Try.f38 Q)))
def a1Z(E:d6)(w0:i9)(Q:D→b4→Prop)(x1 x2 x9 x20:D)(S:b4):Prop:=
 f0 x20
 (a8 (u7 1 x2) fun v13=>
 a8 (c8 S v13) fun v14=>
 L2 S 1 (y9 1 (List.replicate 2 [(.int .i64 0)]) [(0,v14),(1,x1)]) 2 fun v15 S16=>
 N7 E w0 Q v15 S16)
 (a8 (d4 .eql x9 (.int .u8 49)) fun v17=>
 f0 v17
 (a8 (u7 2 x2) fun v18=>
 a8 (c8 S v18) fun v19=>
 L2 S 1 (y9 1 (List.replicate 1 [(.int .i64 0)]) [(0,v19)]) 1 fun v20 S21=>
 a8 (u7 3 x2) fun v22=>
 a8 (c8 S21 v22) fun v23=>
 a8 (m8 v23) fun v24=>
 c9 Try.prog E w0 (.loop R3) (d8 49 [4,33,34,35] [v20,v23,v24,(.int .i64 0)]) S21 (R6 E w0 Q))
 (L2 S 1 (y9 1 (List.replicate 1 [(.int .i64 0)]) [(0,x1)]) 1 fun v39 S40=>
 Q (.tup [v39,(.bool false)]) S40))
def M9(E:d6)(w0:i9)(Q:D→b4→Prop)(x1 x2 x9 x20:D)(S:b4):Prop:=c9 Try.prog E w0 a7G (d8 49 [1,2,9,20] [x1,x2,x9,x20]) S (a7b E w0 Q)
theorem a4w{E:d6}{w0:i9}{Q:D→b4→Prop}{x1 x2 x9 x20:D}{S:b4}(h:a1Z E w0 Q x1 x2 x9 x20 S):M9 E w0 Q x1 x2 x9 x20 S:=d9 K2 K0 K6 mixed (by kernel_rfl) h
noncomputable def a7q:Code:=(i6 [1,0,1,0,1] (Try.f38.body.getD .skip))
def a6L(E:d6)(w0:i9)(Q:D→b4→Prop):j5→List D→b4→Prop:=
 (q9 0 (b7H Try.prog E w0 49 [4] N9 (K3 Try.prog Try.f38 Q)))
def a2k(E:d6)(w0:i9)(Q:D→b4→Prop)(x1 x2 x9 x12:D)(S:b4):Prop:=
 f0 x12
 (Q (.tup [.nilSlc,(.bool true)]) S)
 (a8 (d4 .eql x9 (.int .u8 46)) fun v8=>
 f0 v8
 (a8 (u7 1 x2) fun v9=>
 a8 (c8 S v9) fun v10=>
 L2 S 1 (y9 1 (List.replicate 1 [(.int .i64 0)]) [(0,v10)]) 1 fun v11 S12=>
 Q (.tup [v11,(.bool true)]) S12)
 (a8 (d4 .eql x9 (.int .u8 47)) fun v41=>
 f0 v41
 (M9 E w0 Q x1 x2 x9 v41 S)
 (a8 (d4 .eql x9 (.int .u8 48)) fun v42=>
 M9 E w0 Q x1 x2 x9 v42 S)))
def O0(E:d6)(w0:i9)(Q:D→b4→Prop)(x1 x2 x9 x12:D)(S:b4):Prop:=c9 Try.prog E w0 a7q (d8 49 [1,2,9,12] [x1,x2,x9,x12]) S (a6L E w0 Q)
theorem a4H{E:d6}{w0:i9}{Q:D→b4→Prop}{x1 x2 x9 x12:D}{S:b4}(h:a2k E w0 Q x1 x2 x9 x12 S):O0 E w0 Q x1 x2 x9 x12 S:=d9 K2 K0 K6 mixed (by kernel_rfl) h
def a4F(E:d6)(w0:i9)(Q:D→b4→Prop)(a0 a1:D)(S:b4):Prop:=
 a8 (r7 a0) fun cs=>p4 S cs fun v0 S1=>
 a8 (u7 0 v0) fun v6=>
 a8 (c8 S1 v6) fun v7=>
 a8 (d4 .eql v7 (.int .u8 51)) fun v43=>
 f0 v43
 (O0 E w0 Q a1 v0 v7 v43 S1)
 (a8 (d4 .eql v7 (.int .u8 52)) fun v44=>
 O0 E w0 Q a1 v0 v7 v44 S1)
theorem a7E{E:d6}{w0:i9}{Q:D→b4→Prop}{a0 a1:D}{S:b4}(h:a4F E w0 (b9 E Q) a0 a1 S):s5 Try.prog E w0 I3 [a0,a1] S Q:=
 q8 K2 K0 K6 (fn:=Try.f38) (c:=Try.f38.body.getD .skip) mixed Try.func38 (by kernel_rfl) (by kernel_rfl) h
def u6:List (Nat×List Nat):=[(14,[0,4,5,7,38,39,40]),(24,[0,4,5,7,8,38,39,40,57,58,59]),(42,[0,4,5,14,83]),(54,[0,5,14,16,94,95,96])]
def t7:List (Nat×List Nat):=[(66,[0,5,14,16,17,19,94,95,96])]
def t8:List (Nat×Arr):=[]
noncomputable def a0q:Code:=(i6 [1,1,1,1,1,0,1,0,0,1,1,0,0,1,1,1,0,1,0,0] (Try.f14.body.getD .skip))
def a0o(E:d6)(w0:i9)(N0:D→D→D→D→D→D→D→b4→Prop)(Q:D→b4→Prop):j5→List D→b4→Prop:=
 (q9 2 (W1 Try.prog E w0 u6 t7 t8 (i6 [1,1,1,1,1,0,1,0,0,1,1,0,0,1,1,1,1] (Try.f14.body.getD .skip)) (q9 1 (W1 Try.prog E w0 u6 t7 t8 (i6 [1,1,1,1,1,0,1,0,0,1,1,1] (Try.f14.body.getD .skip)) (B5 (fun T S=>N0 (T.getD 0 b6) (T.getD 4 b6) (T.getD 5 b6) (T.getD 7 b6) (T.getD 38 b6) (T.getD 39 b6) (T.getD 40 b6) S) (q9 0 (W1 Try.prog E w0 u6 t7 t8 (i6 [1,1,1,1,1,1] (Try.f14.body.getD .skip)) (K3 Try.prog Try.f14 Q))))))))
def a2q(E:d6)(w0:i9)(N0:D→D→D→D→D→D→D→b4→Prop)(N1:D→D→D→D→D→D→D→D→D→D→D→b4→Prop)(Q:D→b4→Prop)(x0 x4 x5 x7 x8 x38 x39 x40 x57 x58 x59:D)(S:b4):Prop:=
 a8 (d4 .lss x59 x58) fun v34=>
 f0 v34
 (a8 (l7 1 x57 x59) fun v35=>
 a8 (c8 S v35) fun v36=>
 a8 (a4B S 0 (.int .i64 0) false x7 v36) fun v37=>
 a8 (d4 .add v37 (.int .i64 1)) fun v38=>
 b0z S 0 x7 v36 v38 fun v39 S40=>
 a8 (d4 .add x59 (.int .i64 1)) fun v41=>
 N1 x0 x4 x5 x7 x8 x38 x39 x40 x57 x58 v41 S40)
 (a8 (d4 .add x8 (.int .i64 1)) fun v42=>
 a8 (m8 x4) fun v43=>
 a8 (d4 .lss v42 v43) fun v44=>
 f0 v44
 (a8 (d4 .add x8 (.int .i64 1)) fun v45=>
 a8 (l7 1 x5 v45) fun v46=>
 a8 (c8 S v46) fun v47=>
 a8 (a4B S 0 (.int .i64 0) false x7 v47) fun v48=>
 a8 (d4 .add v48 (.int .i64 1)) fun v49=>
 b0z S 0 x7 v47 v49 fun v50 S51=>
 a8 (d4 .add x40 (.int .i64 1)) fun v52=>
 N0 x0 x4 x5 x7 x38 x39 v52 S51)
 (a8 (d4 .add x40 (.int .i64 1)) fun v53=>
 N0 x0 x4 x5 x7 x38 x39 v53 S))
theorem a8x{E:d6}{w0:i9}{N0:D→D→D→D→D→D→D→b4→Prop}{N1:D→D→D→D→D→D→D→D→D→D→D→b4→Prop}{Q:D→b4→Prop}{x0 x4 x5 x7 x8 x38 x39 x40 x57 x58 x59:D}{S:b4}(h:a2q E w0 N0 N1 Q x0 x4 x5 x7 x8 x38 x39 x40 x57 x58 x59 S):
  c9 Try.prog E w0 a0q (d8 173 [0,4,5,7,8,38,39,40,57,58,59] [x0,x4,x5,x7,x8,x38,x39,x40,x57,x58,x59]) S (B5 (fun T S=>N1 (T.getD 0 b6) (T.getD 4 b6) (T.getD 5 b6) (T.getD 7 b6) (T.getD 8 b6) (T.getD 38 b6) (T.getD 39 b6) (T.getD 40 b6) (T.getD 57 b6) (T.getD 58 b6) (T.getD 59 b6) S) (a0o E w0 N0 Q)):=d9 u6 t7 t8 mixed (by kernel_rfl) h
theorem a9c{E:d6}{w0:i9}{N0:D→D→D→D→D→D→D→b4→Prop}{Q:D→b4→Prop}(I:Nat→D→D→D→D→D→D→D→D→D→D→D→b4→Prop)
  (step:∀n x0 x4 x5 x7 x8 x38 x39 x40 x57 x58 x59 S,I n x0 x4 x5 x7 x8 x38 x39 x40 x57 x58 x59 S→a2q E w0 N0 (fun x0 x4 x5 x7 x8 x38 x39 x40 x57 x58 x59 S=>∃m,m<n∧I m x0 x4 x5 x7 x8 x38 x39 x40 x57 x58 x59 S) Q x0 x4 x5 x7 x8 x38 x39 x40 x57 x58 x59 S)
  {n:Nat} {x0 x4 x5 x7 x8 x38 x39 x40 x57 x58 x59:D} {S:b4} (h:I n x0 x4 x5 x7 x8 x38 x39 x40 x57 x58 x59 S):c9 Try.prog E w0 (.loop a0q) (d8 173 [0,4,5,7,8,38,39,40,57,58,59] [x0,x4,x5,x7,x8,x38,x39,x40,x57,x58,x59]) S (a0o E w0 N0 Q):=
 o4 (k:=173) (n:=n) (I:=fun n T S=>I n (T.getD 0 b6) (T.getD 4 b6) (T.getD 5 b6) (T.getD 7 b6) (T.getD 8 b6) (T.getD 38 b6) (T.getD 39 b6) (T.getD 40 b6) (T.getD 57 b6) (T.getD 58 b6) (T.getD 59 b6) S) (fun n T S hl hI=>p6 [0,4,5,7,8,38,39,40,57,58,59] hl (c9.mono (a8x (step n _ _ _ _ _ _ _ _ _ _ _ S hI)) fun ex T' S' _ hq=>by cases ex<;>exact hq)) (i5 ..) (Eq.mp (by kernel_rfl) h)
noncomputable def b1T:Code:=(i6 [1,1,1,1,1,1,1,1,1,1,0,1,0,0,1,1,0,0,1,1,1] (Try.f14.body.getD .skip))
def b0y(E:d6)(w0:i9)(N3:D→D→D→D→D→D→D→b4→Prop)(Q:D→b4→Prop):j5→List D→b4→Prop:=
 (q9 7 (W1 Try.prog E w0 u6 t7 t8 (i6 [1,1,1,1,1,1,1,1,1,1,0,1,0,0,1,1,1] (Try.f14.body.getD .skip)) (B5 (fun T S=>N3 (T.getD 0 b6) (T.getD 5 b6) (T.getD 14 b6) (T.getD 16 b6) (T.getD 94 b6) (T.getD 95 b6) (T.getD 96 b6) S) (q9 6 (W1 Try.prog E w0 u6 t7 t8 (i6 [1,1,1,1,1,1,1,1,1,1,1] (Try.f14.body.getD .skip)) (K3 Try.prog Try.f14 Q))))))
def a4Z(E:d6)(w0:i9)(N3:D→D→D→D→D→D→D→b4→Prop)(Q:D→b4→Prop)(x0 x5 x14 x16 x17 x19 x94 x95 x96:D)(S:b4):Prop:=
 a8 (m8 x16) fun v84=>
 a8 (d4 .sub v84 (.int .i64 1)) fun v85=>
 a8 (l7 3 x16 v85) fun v86=>
 a8 (d4 .add x17 (.int .i64 1)) fun v87=>
 a8 (l7 1 x5 v87) fun v88=>
 a8 (c8 S v88) fun v89=>
 a8 (a2O v86) fun v90=>
 a8 (u7 1 v90) fun v91=>
 j6 S 1 v91 v89 fun v92 S93=>
 a8 (a2O v86) fun v94=>
 a8 (u7 2 v94) fun v95=>
 j6 S93 1 v95 x19 fun v96 S97=>
 a8 (d4 .add x96 (.int .i64 1)) fun v98=>
 N3 x0 x5 x14 x16 x94 x95 v98 S97
def P7(E:d6)(w0:i9)(N3:D→D→D→D→D→D→D→b4→Prop)(Q:D→b4→Prop)(x0 x5 x14 x16 x17 x19 x94 x95 x96:D)(S:b4):Prop:=c9 Try.prog E w0 b1T (d8 173 [0,5,14,16,17,19,94,95,96] [x0,x5,x14,x16,x17,x19,x94,x95,x96]) S (b0y E w0 N3 Q)
theorem a8o{E:d6}{w0:i9}{N3:D→D→D→D→D→D→D→b4→Prop}{Q:D→b4→Prop}{x0 x5 x14 x16 x17 x19 x94 x95 x96:D}{S:b4}(h:a4Z E w0 N3 Q x0 x5 x14 x16 x17 x19 x94 x95 x96 S):P7 E w0 N3 Q x0 x5 x14 x16 x17 x19 x94 x95 x96 S:=d9 u6 t7 t8 mixed (by kernel_rfl) h
noncomputable def V3:Code:=(i6 [1,1,1,1,1,1,1,1,1,1,0,1,0,0] (Try.f14.body.getD .skip))
def U4(E:d6)(w0:i9)(Q:D→b4→Prop):j5→List D→b4→Prop:=
 (q9 6 (W1 Try.prog E w0 u6 t7 t8 (i6 [1,1,1,1,1,1,1,1,1,1,1] (Try.f14.body.getD .skip)) (K3 Try.prog Try.f14 Q)))
def a2p(E:d6)(w0:i9)(N3:D→D→D→D→D→D→D→b4→Prop)(Q:D→b4→Prop)(x0 x5 x14 x16 x94 x95 x96:D)(S:b4):Prop:=
 a8 (d4 .lss x96 x95) fun v69=>
 f0 v69
 (a8 (l7 4 x94 x96) fun v70=>
 a8 (s4 S 4 v70) fun v71=>
 p4 S [(.int .u8 0),(.int .i64 0),(.int .i64 0), .nilSlc] fun v72 S73=>
 j6 S73 4 v72 v71 fun v74 S75=>
 a8 (s4 S75 4 v72) fun v76=>
 a8 (d4 .add x96 (.int .i64 1)) fun v77=>
 a8 (l7 1 x5 v77) fun v78=>
 a8 (c8 S75 v78) fun v79=>
 s5 Try.prog E w0 I3 [v76,v79] S75 fun v80 S81=>
 a8 (s6 v80 0) fun v82=>
 a8 (s6 v80 1) fun v83=>
 a8 (m8 x14) fun v99=>
 a8 (d4 .gtr v99 (.int .i64 0)) fun v100=>
 a8 (d5 (b7 v100 true) (some x14)) fun v101=>
 a8 (d5 (b7 v100 true) (l7 1 v101 (.int .i64 0))) fun v102=>
 a8 (d5 (b7 v100 true) (c8 S81 v102)) fun v103=>
 a8 (d5 (b7 v100 true) (some x5)) fun v104=>
 a8 (d5 (b7 v100 true) (some x96)) fun v105=>
 a8 (d5 (b7 v100 true) (l7 1 v104 v105)) fun v106=>
 a8 (d5 (b7 v100 true) (c8 S81 v106)) fun v107=>
 a8 (d5 (b7 v100 true) (d4 .eql v103 v107)) fun v108=>
 a8 (H9 v100 v108 (.bool false)) fun v109=>
 f0 v109
 (a8 (V6 1 x14 (some (.int .i64 1)) none none) fun v110=>
 a8 (l7 1 x5 x96) fun v111=>
 a8 (c8 S81 v111) fun v112=>
 a8 (C9 (r9 [(.int .i64 0),(.int .i64 0), .nilSlc] [(0,1,v112)])) fun v113=>
 L2 S81 3 (y9 3 (List.replicate 1 [(.int .i64 0),(.int .i64 0), .nilSlc]) [(0,v113)]) 1 fun v114 S115=>
 u9 S115 3 40 x16 v114 fun v116 S117=>
 P7 E w0 N3 Q x0 x5 v110 v116 x96 v82 x94 x95 x96 S117)
 (P7 E w0 N3 Q x0 x5 x14 x16 x96 v82 x94 x95 x96 S81))
 (a8 (m8 x14) fun v118=>
 a8 (d4 .gtr v118 (.int .i64 0)) fun v119=>
 a8 (d5 (b7 v119 false) (some x16)) fun v120=>
 a8 (d5 (b7 v119 false) (m8 v120)) fun v121=>
 a8 (d5 (b7 v119 false) (d4 .eql v121 (.int .i64 0))) fun v122=>
 a8 (H9 v119 (.bool true) v122) fun v123=>
 a8 (d5 (b7 v123 false) (some x16)) fun v124=>
 a8 (d5 (b7 v123 false) (some x16)) fun v125=>
 a8 (d5 (b7 v123 false) (m8 v125)) fun v126=>
 a8 (d5 (b7 v123 false) (d4 .sub v126 (.int .i64 1))) fun v127=>
 a8 (d5 (b7 v123 false) (l7 3 v124 v127)) fun v128=>
 a8 (d5 (b7 v123 false) (u7 2 v128)) fun v129=>
 a8 (d5 (b7 v123 false) (c8 S v129)) fun v130=>
 a8 (d5 (b7 v123 false) (some x0)) fun v131=>
 a8 (d5 (b7 v123 false) (m8 v131)) fun v132=>
 V9 (b7 v123 false) (fun K=>s5 Try.prog E w0 L9 [v130,v132] S K) S fun v133 S134=>
 a8 (H9 v123 (.bool true) v133) fun v135=>
 f0 v135
 (Q (.tup [.nilSlc,(.int .i64 190)]) S134)
 (Q (.tup [x16,(.int .i64 0)]) S134))
theorem a8N{E:d6}{w0:i9}{N3:D→D→D→D→D→D→D→b4→Prop}{Q:D→b4→Prop}{x0 x5 x14 x16 x94 x95 x96:D}{S:b4}(h:a2p E w0 N3 Q x0 x5 x14 x16 x94 x95 x96 S):
  c9 Try.prog E w0 V3 (d8 173 [0,5,14,16,94,95,96] [x0,x5,x14,x16,x94,x95,x96]) S (B5 (fun T S=>N3 (T.getD 0 b6) (T.getD 5 b6) (T.getD 14 b6) (T.getD 16 b6) (T.getD 94 b6) (T.getD 95 b6) (T.getD 96 b6) S) (U4 E w0 Q)):=d9 u6 t7 t8 mixed (by kernel_rfl) h
theorem a8G{E:d6}{w0:i9}{Q:D→b4→Prop}(I:Nat→D→D→D→D→D→D→D→b4→Prop)
  (step:∀n x0 x5 x14 x16 x94 x95 x96 S,I n x0 x5 x14 x16 x94 x95 x96 S→a2p E w0 (fun x0 x5 x14 x16 x94 x95 x96 S=>∃m,m<n∧I m x0 x5 x14 x16 x94 x95 x96 S) Q x0 x5 x14 x16 x94 x95 x96 S)
  {n:Nat} {x0 x5 x14 x16 x94 x95 x96:D} {S:b4} (h:I n x0 x5 x14 x16 x94 x95 x96 S):c9 Try.prog E w0 (.loop V3) (d8 173 [0,5,14,16,94,95,96] [x0,x5,x14,x16,x94,x95,x96]) S (U4 E w0 Q):=
 o4 (k:=173) (n:=n) (I:=fun n T S=>I n (T.getD 0 b6) (T.getD 5 b6) (T.getD 14 b6) (T.getD 16 b6) (T.getD 94 b6) (T.getD 95 b6) (T.getD 96 b6) S) (fun n T S hl hI=>p6 [0,5,14,16,94,95,96] hl (c9.mono (a8N (step n _ _ _ _ _ _ _ S hI)) fun ex T' S' _ hq=>by cases ex<;>exact hq)) (i5 ..) (Eq.mp (by kernel_rfl) h)
noncomputable def U8:Code:=(i6 [1,1,1,1,1,1,1,0,1,0,0] (Try.f14.body.getD .skip))
def V0(E:d6)(w0:i9)(Q:D→b4→Prop):j5→List D→b4→Prop:=
 (q9 4 (W1 Try.prog E w0 u6 t7 t8 (i6 [1,1,1,1,1,1,1,1] (Try.f14.body.getD .skip)) (K3 Try.prog Try.f14 Q)))
def a2I(E:d6)(w0:i9)(N2:D→D→D→D→D→b4→Prop)(Q:D→b4→Prop)(x0 x4 x5 x14 x83:D)(S:b4):Prop:=
 b4j S x83 fun v56 S57=>
 a8 (s6 v56 0) fun v58=>
 f0 v58
 (a9t S57 x83 fun v59 S60=>
 a8 (s6 v59 0) fun v61=>
 L2 S60 1 (y9 1 (List.replicate 1 [(.int .i64 0)]) [(0,v61)]) 1 fun v62 S63=>
 u9 S63 1 8 x14 v62 fun v64 S65=>
 N2 x0 x4 x5 v64 x83 S65)
 (s5 Try.prog E w0 G5 [x14] S57 fun v66 S67=>
 a8 (m8 x4) fun v68=>
 c9 Try.prog E w0 (.loop V3) (d8 173 [0,5,14,16,94,95,96] [x0,x5,x14, .nilSlc,x4,v68,(.int .i64 0)]) S67 (U4 E w0 Q))
theorem a8M{E:d6}{w0:i9}{N2:D→D→D→D→D→b4→Prop}{Q:D→b4→Prop}{x0 x4 x5 x14 x83:D}{S:b4}(h:a2I E w0 N2 Q x0 x4 x5 x14 x83 S):
  c9 Try.prog E w0 U8 (d8 173 [0,4,5,14,83] [x0,x4,x5,x14,x83]) S (B5 (fun T S=>N2 (T.getD 0 b6) (T.getD 4 b6) (T.getD 5 b6) (T.getD 14 b6) (T.getD 83 b6) S) (V0 E w0 Q)):=d9 u6 t7 t8 mixed (by kernel_rfl) h
theorem a8T{E:d6}{w0:i9}{Q:D→b4→Prop}(I:Nat→D→D→D→D→D→b4→Prop)
  (step:∀n x0 x4 x5 x14 x83 S,I n x0 x4 x5 x14 x83 S→a2I E w0 (fun x0 x4 x5 x14 x83 S=>∃m,m<n∧I m x0 x4 x5 x14 x83 S) Q x0 x4 x5 x14 x83 S)
  {n:Nat} {x0 x4 x5 x14 x83:D} {S:b4} (h:I n x0 x4 x5 x14 x83 S):c9 Try.prog E w0 (.loop U8) (d8 173 [0,4,5,14,83] [x0,x4,x5,x14,x83]) S (V0 E w0 Q):=
 o4 (k:=173) (n:=n) (I:=fun n T S=>I n (T.getD 0 b6) (T.getD 4 b6) (T.getD 5 b6) (T.getD 14 b6) (T.getD 83 b6) S) (fun n T S hl hI=>p6 [0,4,5,14,83] hl (c9.mono (a8M (step n _ _ _ _ _ S hI)) fun ex T' S' _ hq=>by cases ex<;>exact hq)) (i5 ..) (Eq.mp (by kernel_rfl) h)
noncomputable def a0m:Code:=(i6 [1,1,1,1,1,0,1,0,0] (Try.f14.body.getD .skip))
def a0l(E:d6)(w0:i9)(Q:D→b4→Prop):j5→List D→b4→Prop:=
 (q9 0 (W1 Try.prog E w0 u6 t7 t8 (i6 [1,1,1,1,1,1] (Try.f14.body.getD .skip)) (K3 Try.prog Try.f14 Q)))
def a2D(E:d6)(w0:i9)(N0:D→D→D→D→D→D→D→b4→Prop)(Q:D→b4→Prop)(x0 x4 x5 x7 x38 x39 x40:D)(S:b4):Prop:=
 a8 (d4 .lss x40 x39) fun v16=>
 f0 v16
 (a8 (l7 4 x38 x40) fun v17=>
 a8 (s4 S 4 v17) fun v18=>
 p4 S [(.int .u8 0),(.int .i64 0),(.int .i64 0), .nilSlc] fun v19 S20=>
 j6 S20 4 v19 v18 fun v21 S22=>
 a8 (s4 S22 4 v19) fun v23=>
 a8 (d4 .add x40 (.int .i64 1)) fun v24=>
 a8 (l7 1 x5 v24) fun v25=>
 a8 (c8 S22 v25) fun v26=>
 s5 Try.prog E w0 I3 [v23,v26] S22 fun v27 S28=>
 a8 (s6 v27 0) fun v29=>
 a8 (s6 v27 1) fun v30=>
 a8 (unD .not v30) fun v31=>
 f0 v31
 (a8 (d4 .add x40 (.int .i64 1)) fun v32=>
 N0 x0 x4 x5 x7 x38 x39 v32 S28)
 (a8 (m8 v29) fun v33=>
 c9 Try.prog E w0 (.loop a0q) (d8 173 [0,4,5,7,8,38,39,40,57,58,59] [x0,x4,x5,x7,x40,x38,x39,x40,v29,v33,(.int .i64 0)]) S28 (a0o E w0 N0 Q)))
 (a6G S x7 fun v54 S55=>
 c9 Try.prog E w0 (.loop U8) (d8 173 [0,4,5,14,83] [x0,x4,x5, .nilSlc,v54]) S55 (V0 E w0 Q))
theorem a9w{E:d6}{w0:i9}{N0:D→D→D→D→D→D→D→b4→Prop}{Q:D→b4→Prop}{x0 x4 x5 x7 x38 x39 x40:D}{S:b4}(h:a2D E w0 N0 Q x0 x4 x5 x7 x38 x39 x40 S):
  c9 Try.prog E w0 a0m (d8 173 [0,4,5,7,38,39,40] [x0,x4,x5,x7,x38,x39,x40]) S (B5 (fun T S=>N0 (T.getD 0 b6) (T.getD 4 b6) (T.getD 5 b6) (T.getD 7 b6) (T.getD 38 b6) (T.getD 39 b6) (T.getD 40 b6) S) (a0l E w0 Q)):=d9 u6 t7 t8 mixed (by kernel_rfl) h
theorem a9z{E:d6}{w0:i9}{Q:D→b4→Prop}(I:Nat→D→D→D→D→D→D→D→b4→Prop)
  (step:∀n x0 x4 x5 x7 x38 x39 x40 S,I n x0 x4 x5 x7 x38 x39 x40 S→a2D E w0 (fun x0 x4 x5 x7 x38 x39 x40 S=>∃m,m<n∧I m x0 x4 x5 x7 x38 x39 x40 S) Q x0 x4 x5 x7 x38 x39 x40 S)
  {n:Nat} {x0 x4 x5 x7 x38 x39 x40:D} {S:b4} (h:I n x0 x4 x5 x7 x38 x39 x40 S):c9 Try.prog E w0 (.loop a0m) (d8 173 [0,4,5,7,38,39,40] [x0,x4,x5,x7,x38,x39,x40]) S (a0l E w0 Q):=
 o4 (k:=173) (n:=n) (I:=fun n T S=>I n (T.getD 0 b6) (T.getD 4 b6) (T.getD 5 b6) (T.getD 7 b6) (T.getD 38 b6) (T.getD 39 b6) (T.getD 40 b6) S) (fun n T S hl hI=>p6 [0,4,5,7,38,39,40] hl (c9.mono (a9w (step n _ _ _ _ _ _ _ S hI)) fun ex T' S' _ hq=>by cases ex<;>exact hq)) (i5 ..) (Eq.mp (by kernel_rfl) h)
def b0c(E:d6)(w0:i9)(Q:D→b4→Prop)(a0:D)(S:b4):Prop:=
 s5 Try.prog E w0 a5R [a0] S fun v0 S1=>
 a8 (s6 v0 0) fun v2=>
 a8 (s6 v0 1) fun v3=>
 a8 (s6 v0 2) fun v4=>
 a8 (d4 .neq v4 (.int .i64 0)) fun v5=>
 f0 v5
 (Q (.tup [.nilSlc,v4]) S1)
 (a8 (m8 a0) fun v6=>
 L2 S1 1 (y9 1 (List.replicate 1 [(.int .i64 0)]) [(0,v6)]) 1 fun v7 S8=>
 u9 S8 1 8 v3 v7 fun v9 S10=>
 b1u S10 fun v11 S12=>
 b0z S12 0 v11 (.int .i64 0) (.int .i64 0) fun v13 S14=>
 a8 (m8 v2) fun v15=>
 c9 Try.prog E w0 (.loop a0m) (d8 173 [0,4,5,7,38,39,40] [a0,v2,v9,v11,v2,v15,(.int .i64 0)]) S14 (a0l E w0 Q))
theorem b2v{E:d6}{w0:i9}{Q:D→b4→Prop}{a0:D}{S:b4}(h:b0c E w0 (b9 E Q) a0 S):s5 Try.prog E w0 a2l [a0] S Q:=
 q8 u6 t7 t8 (fn:=Try.f14) (c:=Try.f14.body.getD .skip) mixed Try.func14 (by kernel_rfl) (by kernel_rfl) h
def F7:List (Nat×List Nat):=[(6,[0,3,4]),(20,[0,3,5,6]),(32,[0,3,5,6,58,59,60])]
def F9:List (Nat×List Nat):=[(20,[0,3,5,6]),(44,[5])]
def F8:List (Nat×Arr):=[]
noncomputable def G4:Code:=(i6 [1,1,1,1,1,1,1] (Try.f18.body.getD .skip))
def a6H(E:d6)(w0:i9)(Q:D→b4→Prop):j5→List D→b4→Prop:=
 (K3 Try.prog Try.f18 Q)
def N8(E:d6)(w0:i9)(Q:D→b4→Prop)(x5:D)(S:b4):Prop:=c9 Try.prog E w0 G4 (d8 79 [5] [x5]) S (a6H E w0 Q)
noncomputable def Q5:Code:=(i6 [1,1,1,1,1,1,0,0,0,1,0,1,1,1,1,1,0,0] (Try.f18.body.getD .skip))
def R8(E:d6)(w0:i9)(N1:D→D→D→D→b4→Prop)(Q:D→b4→Prop):j5→List D→b4→Prop:=
 (q9 4 (q9 3 (B5 (fun T S=>N1 (T.getD 0 b6) (T.getD 3 b6) (T.getD 5 b6) (T.getD 6 b6) S) (q9 2 (b7H Try.prog E w0 79 [5] G4 (K3 Try.prog Try.f18 Q))))))
def Z7(E:d6)(w0:i9)(N1:D→D→D→D→b4→Prop)(N2:D→D→D→D→D→D→D→b4→Prop)(Q:D→b4→Prop)(x0 x3 x5 x6 x58 x59 x60:D)(S:b4):Prop:=
 a8 (d4 .lss x60 x59) fun v43=>
 f0 v43
 (a8 (l7 1 x58 x60) fun v44=>
 a8 (c8 S v44) fun v45=>
 a8 (a4B S 0 (.int .i64 0) true x3 v45) fun v46=>
 a8 (s6 v46 0) fun v47=>
 a8 (s6 v46 1) fun v48=>
 f0 v48
 (L2 S 1 (y9 1 (List.replicate 1 [(.int .i64 0)]) [(0,v47)]) 1 fun v49 S50=>
 u9 S50 1 8 x6 v49 fun v51 S52=>
 a8 (d4 .add x60 (.int .i64 1)) fun v53=>
 N2 x0 x3 x5 v51 x58 x59 v53 S52)
 (a8 (d4 .add x60 (.int .i64 1)) fun v54=>
 N2 x0 x3 x5 x6 x58 x59 v54 S))
 (N1 x0 x3 x5 x6 S)
theorem a5V{E:d6}{w0:i9}{N1:D→D→D→D→b4→Prop}{N2:D→D→D→D→D→D→D→b4→Prop}{Q:D→b4→Prop}{x0 x3 x5 x6 x58 x59 x60:D}{S:b4}(h:Z7 E w0 N1 N2 Q x0 x3 x5 x6 x58 x59 x60 S):
  c9 Try.prog E w0 Q5 (d8 79 [0,3,5,6,58,59,60] [x0,x3,x5,x6,x58,x59,x60]) S (B5 (fun T S=>N2 (T.getD 0 b6) (T.getD 3 b6) (T.getD 5 b6) (T.getD 6 b6) (T.getD 58 b6) (T.getD 59 b6) (T.getD 60 b6) S) (R8 E w0 N1 Q)):=d9 F7 F9 F8 mixed (by kernel_rfl) h
theorem a5S{E:d6}{w0:i9}{N1:D→D→D→D→b4→Prop}{Q:D→b4→Prop}(I:Nat→D→D→D→D→D→D→D→b4→Prop)
  (step:∀n x0 x3 x5 x6 x58 x59 x60 S,I n x0 x3 x5 x6 x58 x59 x60 S→Z7 E w0 N1 (fun x0 x3 x5 x6 x58 x59 x60 S=>∃m,m<n∧I m x0 x3 x5 x6 x58 x59 x60 S) Q x0 x3 x5 x6 x58 x59 x60 S)
  {n:Nat} {x0 x3 x5 x6 x58 x59 x60:D} {S:b4} (h:I n x0 x3 x5 x6 x58 x59 x60 S):c9 Try.prog E w0 (.loop Q5) (d8 79 [0,3,5,6,58,59,60] [x0,x3,x5,x6,x58,x59,x60]) S (R8 E w0 N1 Q):=
 o4 (k:=79) (n:=n) (I:=fun n T S=>I n (T.getD 0 b6) (T.getD 3 b6) (T.getD 5 b6) (T.getD 6 b6) (T.getD 58 b6) (T.getD 59 b6) (T.getD 60 b6) S) (fun n T S hl hI=>p6 [0,3,5,6,58,59,60] hl (c9.mono (a5V (step n _ _ _ _ _ _ _ S hI)) fun ex T' S' _ hq=>by cases ex<;>exact hq)) (i5 ..) (Eq.mp (by kernel_rfl) h)
noncomputable def Q2:Code:=(i6 [1,1,1,1,1,1,0,0,0] (Try.f18.body.getD .skip))
def R4(E:d6)(w0:i9)(Q:D→b4→Prop):j5→List D→b4→Prop:=
 (q9 2 (b7H Try.prog E w0 79 [5] G4 (K3 Try.prog Try.f18 Q)))
def a0a(E:d6)(w0:i9)(N1:D→D→D→D→b4→Prop)(Q:D→b4→Prop)(x0 x3 x5 x6:D)(S:b4):Prop:=
 a8 (m8 x6) fun v17=>
 a8 (d4 .gtr v17 (.int .i64 0)) fun v18=>
 f0 v18
 (a8 (m8 x6) fun v19=>
 a8 (d4 .sub v19 (.int .i64 1)) fun v20=>
 a8 (l7 1 x6 v20) fun v21=>
 a8 (c8 S v21) fun v22=>
 a8 (l7 3 x0 v22) fun v23=>
 a8 (s4 S 3 v23) fun v24=>
 p4 S [(.int .i64 0),(.int .i64 0), .nilSlc] fun v25 S26=>
 j6 S26 3 v25 v24 fun v27 S28=>
 a8 (m8 x6) fun v29=>
 a8 (d4 .sub v29 (.int .i64 1)) fun v30=>
 a8 (V6 1 x6 none (some v30) none) fun v31=>
 a8 (u7 0 v25) fun v32=>
 a8 (c8 S28 v32) fun v33=>
 a8 (a4B S28 0 (.int .i64 0) false x5 v33) fun v34=>
 a8 (d4 .gtr v34 (.int .i64 0)) fun v35=>
 f0 v35
 (N1 x0 x3 x5 v31 S28)
 (a8 (u7 0 v25) fun v36=>
 a8 (c8 S28 v36) fun v37=>
 b0z S28 0 x5 v37 (.int .i64 1) fun v38 S39=>
 a8 (u7 2 v25) fun v40=>
 a8 (c8 S39 v40) fun v41=>
 a8 (m8 v41) fun v42=>
 c9 Try.prog E w0 (.loop Q5) (d8 79 [0,3,5,6,58,59,60] [x0,x3,x5,v31,v41,v42,(.int .i64 0)]) S39 (R8 E w0 N1 Q)))
 (N8 E w0 Q x5 S)
theorem a6f{E:d6}{w0:i9}{N1:D→D→D→D→b4→Prop}{Q:D→b4→Prop}{x0 x3 x5 x6:D}{S:b4}(h:a0a E w0 N1 Q x0 x3 x5 x6 S):
  c9 Try.prog E w0 Q2 (d8 79 [0,3,5,6] [x0,x3,x5,x6]) S (B5 (fun T S=>N1 (T.getD 0 b6) (T.getD 3 b6) (T.getD 5 b6) (T.getD 6 b6) S) (R4 E w0 Q)):=d9 F7 F9 F8 mixed (by kernel_rfl) h
theorem a6h{E:d6}{w0:i9}{Q:D→b4→Prop}(I:Nat→D→D→D→D→b4→Prop)
  (step:∀n x0 x3 x5 x6 S,I n x0 x3 x5 x6 S→a0a E w0 (fun x0 x3 x5 x6 S=>∃m,m<n∧I m x0 x3 x5 x6 S) Q x0 x3 x5 x6 S)
  {n:Nat} {x0 x3 x5 x6:D} {S:b4} (h:I n x0 x3 x5 x6 S):c9 Try.prog E w0 (.loop Q2) (d8 79 [0,3,5,6] [x0,x3,x5,x6]) S (R4 E w0 Q):=
 o4 (k:=79) (n:=n) (I:=fun n T S=>I n (T.getD 0 b6) (T.getD 3 b6) (T.getD 5 b6) (T.getD 6 b6) S) (fun n T S hl hI=>p6 [0,3,5,6] hl (c9.mono (a6f (step n _ _ _ _ S hI)) fun ex T' S' _ hq=>by cases ex<;>exact hq)) (i5 ..) (Eq.mp (by kernel_rfl) h)
noncomputable def a8m:Code:=(i6 [1,1,1,1,1,1] (Try.f18.body.getD .skip))
def a6O(E:d6)(w0:i9)(Q:D→b4→Prop):j5→List D→b4→Prop:=
 (K3 Try.prog Try.f18 Q)
def a2j(E:d6)(w0:i9)(Q:D→b4→Prop)(x0 x3 x5 x6:D)(S:b4):Prop:=
 c9 Try.prog E w0 (.loop Q2) (d8 79 [0,3,5,6] [x0,x3,x5,x6]) S (R4 E w0 Q)
def C5(E:d6)(w0:i9)(Q:D→b4→Prop)(x0 x3 x5 x6:D)(S:b4):Prop:=c9 Try.prog E w0 a8m (d8 79 [0,3,5,6] [x0,x3,x5,x6]) S (a6O E w0 Q)
theorem a5a{E:d6}{w0:i9}{Q:D→b4→Prop}{x0 x3 x5 x6:D}{S:b4}(h:a2j E w0 Q x0 x3 x5 x6 S):C5 E w0 Q x0 x3 x5 x6 S:=d9 F7 F9 F8 mixed (by kernel_rfl) h
noncomputable def Q4:Code:=(i6 [1,1,0,1,0,0] (Try.f18.body.getD .skip))
def Q6(E:d6)(w0:i9)(Q:D→b4→Prop):j5→List D→b4→Prop:=
 (q9 0 (W1 Try.prog E w0 F7 F9 F8 (i6 [1,1,1] (Try.f18.body.getD .skip)) (K3 Try.prog Try.f18 Q)))
def Z8(E:d6)(w0:i9)(N0:D→D→D→b4→Prop)(Q:D→b4→Prop)(x0 x3 x4:D)(S:b4):Prop:=
 a8 (d4 .geq x4 (.int .i64 0)) fun v4=>
 f0 v4
 (a8 (l7 3 x0 x4) fun v5=>
 a8 (u7 0 v5) fun v6=>
 a8 (c8 S v6) fun v7=>
 b0z S 0 x3 v7 x4 fun v8 S9=>
 a8 (d4 .sub x4 (.int .i64 1)) fun v10=>
 N0 x0 x3 v10 S9)
 (b1u S fun v11 S12=>
 a8 (m8 x0) fun v55=>
 a8 (d4 .gtr v55 (.int .i64 0)) fun v56=>
 f0 v56
 (L2 S12 1 (y9 1 (List.replicate 1 [(.int .i64 0)]) [(0,(.int .i64 0))]) 1 fun v57 S58=>
 C5 E w0 Q x0 x3 v11 v57 S58)
 (C5 E w0 Q x0 x3 v11 .nilSlc S12))
theorem a5T{E:d6}{w0:i9}{N0:D→D→D→b4→Prop}{Q:D→b4→Prop}{x0 x3 x4:D}{S:b4}(h:Z8 E w0 N0 Q x0 x3 x4 S):
  c9 Try.prog E w0 Q4 (d8 79 [0,3,4] [x0,x3,x4]) S (B5 (fun T S=>N0 (T.getD 0 b6) (T.getD 3 b6) (T.getD 4 b6) S) (Q6 E w0 Q)):=d9 F7 F9 F8 mixed (by kernel_rfl) h
theorem a5Y{E:d6}{w0:i9}{Q:D→b4→Prop}(I:Nat→D→D→D→b4→Prop)
  (step:∀n x0 x3 x4 S,I n x0 x3 x4 S→Z8 E w0 (fun x0 x3 x4 S=>∃m,m<n∧I m x0 x3 x4 S) Q x0 x3 x4 S)
  {n:Nat} {x0 x3 x4:D} {S:b4} (h:I n x0 x3 x4 S):c9 Try.prog E w0 (.loop Q4) (d8 79 [0,3,4] [x0,x3,x4]) S (Q6 E w0 Q):=
 o4 (k:=79) (n:=n) (I:=fun n T S=>I n (T.getD 0 b6) (T.getD 3 b6) (T.getD 4 b6) S) (fun n T S hl hI=>p6 [0,3,4] hl (c9.mono (a5T (step n _ _ _ S hI)) fun ex T' S' _ hq=>by cases ex<;>exact hq)) (i5 ..) (Eq.mp (by kernel_rfl) h)
def a5b(E:d6)(w0:i9)(Q:D→b4→Prop)(a0:D)(S:b4):Prop:=
 b1u S fun v0 S1=>
 a8 (m8 a0) fun v2=>
 a8 (d4 .sub v2 (.int .i64 1)) fun v3=>
 c9 Try.prog E w0 (.loop Q4) (d8 79 [0,3,4] [a0,v0,v3]) S1 (Q6 E w0 Q)
theorem a8e{E:d6}{w0:i9}{Q:D→b4→Prop}{a0:D}{S:b4}(h:a5b E w0 (b9 E Q) a0 S):s5 Try.prog E w0 I1 [a0] S Q:=
 q8 F7 F9 F8 (fn:=Try.f18) (c:=Try.f18.body.getD .skip) mixed Try.func18 (by kernel_rfl) (by kernel_rfl) h
def a3u:List (Nat×List Nat):=[]
def a3q:List (Nat×List Nat):=[]
def a3F:List (Nat×Arr):=[]
def Z2(E:d6)(w0:i9)(Q:D→b4→Prop)(a0 a1:D)(S:b4):Prop:=
 s5 Try.prog E w0 W2 [a0,a1] S fun v0 S1=>
 a8 (d4 .geq v0 (.int .i64 0)) fun v2=>
 Q v2 S1
theorem a2G{E:d6}{w0:i9}{Q:D→b4→Prop}{a0 a1:D}{S:b4}(h:Z2 E w0 (b9 E Q) a0 a1 S):s5 Try.prog E w0 L9 [a0,a1] S Q:=
 q8 a3u a3q a3F (fn:=Try.f40) (c:=Try.f40.body.getD .skip) mixed Try.func40 (by kernel_rfl) (by kernel_rfl) h
def R9:List (Nat×List Nat):=[(4,[0,1,7,8])]
def T8:List (Nat×List Nat):=[]
def T9:List (Nat×Arr):=[]
noncomputable def O5:Code:=(i6 [1,0,1,0,0] (Try.f57.body.getD .skip))
def P4(E:d6)(w0:i9)(Q:D→b4→Prop):j5→List D→b4→Prop:=
 (q9 0 (W1 Try.prog E w0 R9 T8 T9 (i6 [1,1] (Try.f57.body.getD .skip)) (K3 Try.prog Try.f57 Q)))
def P2(E:d6)(w0:i9)(N0:D→D→D→D→b4→Prop)(Q:D→b4→Prop)(x0 x1 x7 x8:D)(S:b4):Prop:=
 a8 (d4 .lss x8 x7) fun v1=>
 f0 v1
 (a8 (l7 1 x0 x8) fun v2=>
 a8 (c8 S v2) fun v3=>
 a8 (d4 .eql x1 v3) fun v4=>
 f0 v4
 (Q x8 S)
 (a8 (d4 .add x8 (.int .i64 1)) fun v5=>
 N0 x0 x1 x7 v5 S))
 (Q (.int .i64 (-1)) S)
theorem a3c{E:d6}{w0:i9}{N0:D→D→D→D→b4→Prop}{Q:D→b4→Prop}{x0 x1 x7 x8:D}{S:b4}(h:P2 E w0 N0 Q x0 x1 x7 x8 S):
  c9 Try.prog E w0 O5 (d8 19 [0,1,7,8] [x0,x1,x7,x8]) S (B5 (fun T S=>N0 (T.getD 0 b6) (T.getD 1 b6) (T.getD 7 b6) (T.getD 8 b6) S) (P4 E w0 Q)):=d9 R9 T8 T9 mixed (by kernel_rfl) h
theorem a2U{E:d6}{w0:i9}{Q:D→b4→Prop}(I:Nat→D→D→D→D→b4→Prop)
  (step:∀n x0 x1 x7 x8 S,I n x0 x1 x7 x8 S→P2 E w0 (fun x0 x1 x7 x8 S=>∃m,m<n∧I m x0 x1 x7 x8 S) Q x0 x1 x7 x8 S)
  {n:Nat} {x0 x1 x7 x8:D} {S:b4} (h:I n x0 x1 x7 x8 S):c9 Try.prog E w0 (.loop O5) (d8 19 [0,1,7,8] [x0,x1,x7,x8]) S (P4 E w0 Q):=
 o4 (k:=19) (n:=n) (I:=fun n T S=>I n (T.getD 0 b6) (T.getD 1 b6) (T.getD 7 b6) (T.getD 8 b6) S) (fun n T S hl hI=>p6 [0,1,7,8] hl (c9.mono (a3c (step n _ _ _ _ S hI)) fun ex T' S' _ hq=>by cases ex<;>exact hq)) (i5 ..) (Eq.mp (by kernel_rfl) h)
def a1o(E:d6)(w0:i9)(Q:D→b4→Prop)(a0 a1:D)(S:b4):Prop:=
 a8 (m8 a0) fun v0=>
 c9 Try.prog E w0 (.loop O5) (d8 19 [0,1,7,8] [a0,a1,v0,(.int .i64 0)]) S (P4 E w0 Q)
theorem a4k{E:d6}{w0:i9}{Q:D→b4→Prop}{a0 a1:D}{S:b4}(h:a1o E w0 (b9 E Q) a0 a1 S):s5 Try.prog E w0 W2 [a0,a1] S Q:=
 q8 R9 T8 T9 (fn:=Try.f57) (c:=Try.f57.body.getD .skip) mixed Try.func57 (by kernel_rfl) (by kernel_rfl) h
end Go.Proofs.Ytdkidgkiplcggaa.d
end
section
open Go.Proofs Go Go.Am Go.Op
namespace Go.Proofs.Ytdkidgkiplcggaa.d
set_option linter.unusedSectionVars false
def a1x(y:In):Bool:=decide (46≤y.op∧y.op≤49∨y.op=51∨y.op=52)
section
variable{E:d6}{w0:i9}
theorem Own.compactT{S0 S:b4}{d:D}{l:List Int}(h:Own S0 d l S)(h0:l≠[])(hl:l.length<2^60){Q:D→b4→Prop}{lp lq:List D}(hQ:b9 E Q (.tup (lp++iD (Lib.compact l)::lq)) S0):s5 Try.prog E w0 G3 [d] S fun v S'=>b9 E Q (.tup (lp++v::lq)) S':=by
 rcases h with ⟨_,e,_⟩|⟨k,acs,ex,hk,rfl,rfl⟩
 ·exact absurd e h0
 ·refine a6x.fnD (zs:=l) (b4.set_same _ _ _) rfl (by rw[j0];omega) (by rw[List.drop_zero,List.take_of_length_le (by rw[j0];exact Nat.le_refl _),X9]) (by omega) fun acs'=> ?_
  have hle:=a0b l
  refine b9.freezeT (b4.set_same _ _ _) rfl (by simp[D2]<;>omega) hle ?_
  rw[b4.set_set,b4.erase_set _ _ _ hk]
  have:D.lst (((List.take 0 (iC l)++(D2 (Lib.compact l++List.replicate (l.length - (Lib.compact l).length) 0)++List.drop (0+l.length) (iC l))).drop 0).take (Lib.compact l).length) 1=iD (Lib.compact l):=by
   rw[List.take_zero,List.nil_append,List.drop_zero,X9,Z3,List.append_assoc,List.take_append_of_le_length (by rw[j0];exact Nat.le_refl _),List.take_of_length_le (by rw[j0];exact Nat.le_refl _)]
   rfl
  rw[this]
  exact hQ
theorem a4i{y:In}(hal:y.arms.length≤65535){next:Int}:a1c Try.prog E w0 I3 [inD y, .int .i64 next] (.tup [iD (B7 y next), .bool (a1x y)]):=fun S=>by
 refine a7E ?_
 unfold a4F
 refine c4E fun k a n=> ?_
 have hk:I5 (S.set k ⟨4,[inC y],a⟩) k 4 (inC y):=I5.new
 have l1:S.le (S.set k ⟨4,[inC y],a⟩):=b4.le_new n
 generalize (S.set k ⟨4,[inC y],a⟩)=B at hk l1
 obtain⟨i0,i1,i2,i3⟩:=c3U y
 have hk0:=hk
 have g0:∀ {T:b4},I5 T k 4 (inC y)→c8 T (.ptr k 0)=some (.int .u8 y.op):=fun h=>h.ld 0
 have g1:∀ {T:b4},I5 T k 4 (inC y)→c8 T (.ptr k 1)=some (.int .i64 y.a):=fun h=>h.ld 1
 have g2:∀ {T:b4},I5 T k 4 (inC y)→c8 T (.ptr k 2)=some (.int .i64 y.b):=fun h=>h.ld 2
 have g3:∀ {T:b4},I5 T k 4 (inC y)→c8 T (.ptr k 3)=some (b2H y.arms):=fun h=>h.ld 3
 let Q:D→b4→Prop:=fun d' S'=>d'= .tup [iD (B7 y next), .bool (a1x y)]∧S'=S
 have fin:∀ {B' T:b4} {d:D} {l:List Int},S.le B'→Own B' d l T→l≠[]→l.length<2^60→a1x y=true→B7 y next=a0K l→N7 E w0 (b9 E Q) d T:=by
  intro B' T d l hle ho h0 hl hen he
  refine a4T ?_
  unfold a1U
  refine ho.sort h0 hl fun v S' ho'=> ?_
  refine Own.compactT (lp:=[]) (lq:=[.bool true]) ho' (fun e=>h0 (List.length_eq_zero_iff.1 (by rw[←a3t,e];rfl))) (by rw[a3t];exact hl) ?_
  exact b9.less hle (b9.here ⟨by rw[he,hen];rfl,rfl⟩)
 have sw:∀ {T:b4} {d:D},Own B d [y.b] T→y.op=49→a8 (c8 T (.ptr k 3)) fun v23=>a8 (m8 v23) fun v24=>c9 Try.prog E w0 (.loop R3) (d8 49 [4,33,34,35] [d,v23,v24,(.int .i64 0)]) T (R6 E w0 (b9 E Q)):=by
  intro T d ho' h49
  have hk:=(hk0.le ho'.le)
  rw[g3 hk,oD]
  rw[c1K,oD]
  refine a6d (I:=fun n x5 x36 x37 x38 T=>x36=b2H y.arms∧x37= .int .i64 (y.arms.length:Int)∧∃(i:Nat) (B':b4),x38= .int .i64 (i:Int)∧i+n=y.arms.length∧B.le B'∧Own B' x5 (y.b::(y.arms.take i).map (·.2)) T) ?_ (n:=y.arms.length)
   ⟨rfl,rfl,0,B,rfl,by omega,b4.le_refl _,ho'⟩
  rintro n x5 _ _ _ T ⟨rfl,rfl,i,B',rfl,hi,hB,ho⟩
  unfold a0h
  rw[a0U,oD,cdI]
  refine⟨fun hlt=> ?_,fun hge=> ?_⟩
  ·have hlt:i<y.arms.length:=by omega
   have ha:y.arms[i]? =some y.arms[i]:=List.getElem?_eq_getElem hlt
   rw[c2G ha,oD,laE,if_pos ⟨by decide,by simp[Z4]⟩,oD]
   intro k3 a3 n3
   refine(I5.new (sz:=2) (c:=[.int .i64 0, .int .i64 0])).st (ds:=Z4 y.arms[i]) (clA _) ⟨rfl,by decide,by simp⟩ fun a4=> ?_
   rw[b4.set_set,show o3 [D.int .i64 0, .int .i64 0] 0 (Z4 y.arms[i])=Z4 y.arms[i]from rfl]
   have hb:=ho.under (o:=⟨2,[Z4 y.arms[i]],a4⟩) n3
   simp only[ofP,Nat.zero_add,oD]
   rw[(I5.new).ld 1,show(Z4 y.arms[i])[1]? =some (.int .i64 y.arms[i].2) from rfl,oD,show y9 1 (List.replicate 1 [D.int .i64 0]) [(0, .int .i64 y.arms[i].2)]=some (iC [y.arms[i].2]) from rfl]
   refine V7 rfl ?_
   refine hb.push (news:=[y.arms[i].2]) (by simp[rowsS,F4]) (by simp) (by simp;omega) fun d' T' ho'=> ?_
   rw[D7,oD,j1 (by omega) (by omega)]
   refine⟨n - 1,by omega,by trivial,by trivial,i+1,B'.set k3 ⟨2,[Z4 y.arms[i]],a4⟩,by trivial,by omega,b4.le_set hB (b4.none_of hB (b4.none_of ho.le n3)), ?_⟩
   have e:y.b::(y.arms.take (i+1)).map (·.2)=(y.b::(y.arms.take i).map (·.2))++[y.arms[i].2]:=by rw[List.take_add_one,ha,List.map_append];rfl
   rw[e]
   exact ho'
  ·rw[List.take_of_length_le (by omega)]at ho
   exact fin (b4.le_trans l1 hB) ho (by simp) (by simp;omega) (by unfold a1x;simp[h49]) (by unfold B7;rw[if_neg (by omega),if_neg (by omega),if_neg (by omega),if_pos h49])
 have c41:∀ {b:Bool},y.op≠51∧y.op≠52∧y.op≠46→b=decide (y.op=47∨y.op=48)→M9 E w0 (b9 E Q) (.int .i64 next) (.ptr k 0) (.int .u8 y.op) (.bool b) B:=by
  intro b hne hb
  subst hb
  refine a4w ?_
  unfold a1Z
  rw[cdI]
  refine⟨fun h=> ?_,fun h=> ?_⟩
  ·simp only[ofP,Nat.zero_add,oD,g1 hk]
   refine b8Q (l:=[y.a,next]) fun d T hT=> ?_
   refine fin l1 hT (by simp) (by simp) (by unfold a1x;rcases h with h|h<;>simp[h]) ?_
   unfold B7
   rw[if_neg (by omega),if_neg (by omega),if_pos h]
   exact a3n (J4 _).1 (J4 _).1 fun n=>by rw[(J4 _).2,(J4 _).2];simp[or_comm]
  ·rw[a4I,oD,cdI]
   refine⟨fun h49=> ?_,fun h49=> ?_⟩
   ·simp only[ofP,Nat.zero_add,oD,g2 hk]
    exact b0P fun d T hT=>sw hT h49
   ·refine b0P fun d T hT=> ?_
    refine hT.finT (lp:=[]) (lq:=[.bool false]) (b9.less l1 (b9.here ⟨?_,rfl⟩))
    have e1:B7 y next=[next]:=by unfold B7;rw[if_neg (by omega),if_neg (by omega),if_neg h,if_neg h49];exact c0C _
    have e2:a1x y=false:=by unfold a1x;simp;omega
    rw[e1,e2];rfl
 have c21:∀ {b:Bool},b=decide (y.op=51∨y.op=52)→O0 E w0 (b9 E Q) (.int .i64 next) (.ptr k 0) (.int .u8 y.op) (.bool b) B:=by
  intro b hb
  subst hb
  refine a4H ?_
  unfold a2k
  rw[cdI]
  refine⟨fun h=> ?_,fun h=> ?_⟩
  ·refine b9.less l1 (b9.weak (d':= .tup [iD [], .bool true]) (Wk.tup ⟨Wk.nil 1,Wk.refl _,trivial⟩) (b9.here ⟨?_,rfl⟩))
   have e1:B7 y next=[]:=by unfold B7;rw[if_pos h]
   have e2:a1x y=true:=by unfold a1x;rcases h with h|h<;>simp[h]
   rw[e1,e2]
  ·rw[a4I,oD,cdI]
   refine⟨fun h46=> ?_,fun h46=> ?_⟩
   ·simp only[ofP,Nat.zero_add,oD,g1 hk]
    refine b0P fun d T hT=> ?_
    refine hT.finT (lp:=[]) (lq:=[.bool true]) (b9.less l1 (b9.here ⟨?_,rfl⟩))
    have e1:B7 y next=[y.a]:=by unfold B7;rw[if_neg h,if_pos h46]
    have e2:a1x y=true:=by unfold a1x;simp[h46]
    rw[e1,e2];rfl
   ·rw[a4I,oD,cdI]
    refine⟨fun h47=>c41 (by omega) (by rw[decide_eq_true h47,decide_eq_true (.inl h47)]),fun h47=> ?_⟩
    rw[a4I,oD]
    exact c41 (by omega) (by by_cases h48:y.op=48<;>simp[h47,h48])
 simp only[ofP,Nat.zero_add,oD,g0 hk,a4I]
 rw[cdI]
 refine⟨fun h51=>c21 (by rw[decide_eq_true h51,decide_eq_true (.inl h51)]),fun h51=>c21 (by by_cases h52:y.op=52<;>simp[h51,h52])⟩
end
end Go.Proofs.Ytdkidgkiplcggaa.d
end
section
namespace Go.Am
section
section
variable{P:Program}{E:d6}{w0:i9}
theorem b7e(k:Nat)(o:s8):∀(ds:List D) (i:Nat) (v:D),X4 k o (ds.set i v)=(X4 k o ds).set i (frz k o v)
 | [],i,v=>by simp[X4]
 |d::ds,0,v=>by simp[X4]
 |d::ds,i+1,v=>by simp only[List.set_cons_succ,X4,b7e k o ds i v]
theorem b6R(k:Nat)(o:s8):∀n:Nat,X4 k o (List.replicate n .any)=List.replicate n .any
 |0=>rfl
 |n+1=>by simp only[List.replicate_succ,X4,b6R k o n];simp[frz]
theorem a9Q(k:Nat)(o:s8):∀(T:List D) (L:List Nat) (vs:List D),X4 k o (W3 T L vs)=W3 (X4 k o T) L (X4 k o vs)
 |T,i::L,v::vs=>by simp only[W3,X4];rw[a9Q k o _ L vs,b7e]
 |T,[],[]=>by simp[W3,X4]
 |T,[],_::_=>by simp[W3,X4]
 |T,_::_,[]=>by simp[W3,X4]
theorem b5u{c:Code}{n:Nat}{L:List Nat}{vs:List D}{S:b4}{Q:j5→List D→b4→Prop}{k:Nat}{o:s8}(hk:S k=some o)(hc:b8o o)(h:c9 P E w0 c (d8 n L (X4 k o vs)) (S.erase k) Q):c9 P E w0 c (d8 n L vs) S Q:=fun R H avs F hC hT=>by
 obtain⟨h1,h2⟩:=hC.freeze hk hc
 have e:X4 k o (d8 n L vs)=d8 n L (X4 k o vs):=by unfold d8;rw[a9Q,b6R]
 have hT':=a5F hC hk h2 (fun _=>if_pos rfl) hT
 rw[e]at hT'
 have:=(B8.at_le h2 (h _ H avs F h1 hT')).mono fun ex T' H' hq=>a1F.le h2 hq
 rw[i5]at this
 show B8 P E (w0.at E R) c avs H (c1w E R (d8 n L vs).length Q)
 rw[i5]
 exact this
end
end
section
def b0t(t:Int×Int×Nat):List D:=[.int .i64 t.1, .int .i64 t.2.1, .int .i64 (t.2.2:Int)]
structure I2 (S:b4) (k:Nat) (ts:List (Int×Int×Nat)):Prop where
 has:∃acs,S k=some (b0w (ts.map b0t) acs)
 keys:(ts.map (·.1)).Nodup
 stamps:(ts.map (·.2.2)).Nodup
theorem a5Q(rows:List (List D))(acs:List AV):a4g (b0w rows acs)=some rows:=by
 unfold a4g b0w
 rw[if_pos rfl]
theorem a1C(q:Int):∀(ts:List (Int×Int×Nat)) (i:Nat),(q ∉ ts.map (·.1)∧a6t (.int .i64 q) (ts.map b0t) i=some none)∨
  ∃j t,ts[j]? =some t∧t.1=q∧a6t (.int .i64 q) (ts.map b0t) i=some (some (i+j, .int .i64 t.2.1, .int .i64 (t.2.2:Int)))
 | [],i=> .inl ⟨by simp,rfl⟩
 |t::ts,i=>by
  simp only[List.map_cons,b0t,a6t,b5d,if_true]
  by_cases h:q=t.1
  ·refine .inr ⟨0,t,rfl,h.symm, ?_⟩
   rw[show(q==t.1)=true by simpa using h]
   rfl
  ·rw[show(q==t.1)=false by simpa using h]
   rcases a1C q ts (i+1) with ⟨h1,h2⟩|⟨j,t',h1,h2,h3⟩
   ·exact .inl ⟨by simpa [h]using h1,h2⟩
   ·exact .inr ⟨j+1,t',h1,h2,by rw[h3,Nat.add_assoc,Nat.add_comm 1 j]⟩
theorem I2.of{S S':b4}{k:Nat}{ts:List (Int×Int×Nat)}(h:I2 S k ts)(e:S' k=S k):I2 S' k ts:=⟨by rw[e];exact h.has,h.keys,h.stamps⟩
theorem I2.there{S:b4}{k:Nat}{ts:List (Int×Int×Nat)}(h:I2 S k ts):S k≠none:=by obtain⟨a,e⟩:=h.has;rw[e];simp
theorem I2.put{S:b4}{k:Nat}{ts:List (Int×Int×Nat)}(h:I2 S k ts){q v:Int}{K:D→b4→Prop}
  (hK:∀ts' S',(∀n,n∈ts'.map (·.1)↔n=q∨n∈ts.map (·.1))→I2 S' k ts'→(∀j,j≠k→S' j=S j)→K b6 S'):b0z S 0 (.mp k) (.int .i64 q) (.int .i64 v) K:=by
 obtain⟨acs,hS⟩:=h.has
 simp only[b0z,a7B,hS,a5Q,beq_self_eq_true,if_true]
 rcases a1C q ts 0 with ⟨h1,h2⟩|⟨j,t,h1,h2,h3⟩
 ·rw[h2]
  intro n acs' hn
  refine hK (ts++[(q,v,n)]) _ (fun m=>by simp[or_comm]) ⟨⟨acs',by rw[b4.set_same,List.map_append];rfl⟩, ?_, ?_⟩ fun j hj=>b4.set_ne _ _ _ hj
  ·rw[List.map_append,List.nodup_append]
   exact⟨h.keys,by simp,fun a ha b hb=>by simp at hb;subst hb;exact fun e=>h1 (by rw[←e];exact ha)⟩
  ·rw[List.map_append,List.nodup_append]
   refine⟨h.stamps,by simp,fun a ha b hb=> ?_⟩
   simp at hb
   subst hb
   rintro rfl
   obtain⟨t,ht,e⟩:=List.mem_map.1 ha
   exact hn (b0t t) (List.mem_map.2 ⟨t,ht,rfl⟩) (by simp[b0t,e])
 ·rw[h3]
  intro acs'
  have hj:j<ts.length:=(List.getElem?_eq_some_iff.1 h1).1
  have e0:∀ {α:Type} (f:Int×Int×Nat→α),f (q,v,t.2.2)=f t→(ts.set j (q,v,t.2.2)).map f=ts.map f:=fun f hf=>by
   rw[List.map_set,hf]
   apply List.ext_getElem?
   intro i
   rw[List.getElem?_set]
   split
   ·rename_i e
    subst e
    rw[List.length_map,if_pos hj,List.getElem?_map,h1];rfl
   ·rfl
  have k1:=e0 (·.1) h2.symm
  have k2:=e0 (·.2.2) rfl
  refine hK (ts.set j (q,v,t.2.2)) _ (fun n=> ?_) ⟨⟨acs', ?_⟩,by rw[k1];exact h.keys,by rw[k2];exact h.stamps⟩ fun j hj=>b4.set_ne _ _ _ hj
  ·rw[k1]
   constructor
   ·exact .inr
   ·rintro(rfl|h)
    ·exact List.mem_map.2 ⟨t,List.mem_of_getElem? h1,h2⟩
    ·exact h
  ·rw[b4.set_same,List.map_set,Nat.zero_add];rfl
theorem I2.look{S:b4}{k:Nat}{ts:List (Int×Int×Nat)}(h:I2 S k ts)(q:Int):∃v:Int,a4B S 0 (.int .i64 0) false (.mp k) (.int .i64 q)=some (.int .i64 v):=by
 obtain⟨acs,hS⟩:=h.has
 simp only[a4B,a7B,b7O,hS,a5Q,beq_self_eq_true,if_true]
 rcases a1C q ts 0 with ⟨h1,h2⟩|⟨j,t,h1,h2,h3⟩
 ·rw[h2];exact⟨0,rfl⟩
 ·rw[h3];exact⟨t.2.1,rfl⟩
theorem I2.new{S:b4}{K:D→b4→Prop}(h:∀k S',S k=none→I2 S' k []→(∀j,j≠k→S' j=S j)→K (.mp k) S'):b1u S K:=fun k acs hk=>h k _ hk ⟨⟨acs,b4.set_same _ _ _⟩,by simp,by simp⟩ fun j hj=>b4.set_ne _ _ _ hj
theorem a5E{α β:Type}{f:α→β}:∀ {l:List α},(l.map f).Nodup→∀ {a b:α},a∈l→b∈l→f a=f b→a=b
 | [],_,a,b,ha,_,_=>by cases ha
 |x::l,h,a,b,ha,hb,e=>by
  simp only[List.map_cons,List.nodup_cons]at h
  rcases List.mem_cons.1 ha with h1|h1<;>rcases List.mem_cons.1 hb with h2|h2
  ·rw[h1,h2]
  ·exact(h.1 (List.mem_map.2 ⟨b,h2,by rw[←e,h1]⟩)).elim
  ·exact(h.1 (List.mem_map.2 ⟨a,h1,by rw[e,h2]⟩)).elim
  ·exact a5E h.2 h1 h2 e
def a2X(S:b4)(j m:Nat)(dn ts:List (Int×Int×Nat)):Prop:=∃acs,S j=some ⟨b0H,[.mp m]::dn.map (fun t=> .int .i64 (t.2.2:Int))::ts.map b0t,acs⟩
theorem I2.range{S:b4}{k:Nat}{ts:List (Int×Int×Nat)}(h:I2 S k ts){K:D→b4→Prop}(hK:∀j S',S j=none→a2X S' j k [] ts→(∀i,i≠j→i≠k→S' i=S i)→K (.ptr j 0) S'):a6G S (.mp k) K:=by
 obtain⟨acs,hS⟩:=h.has
 simp only[a6G,hS,a5Q]
 exact fun j acs' hj=>hK j _ hj ⟨acs',b4.set_same _ _ _⟩ fun i h1 h2=>by rw[b4.set_ne _ _ _ h1,b4.erase_ne _ _ h2]
theorem b9p(m:Nat)(sr:List D)(rows:List (List D))(acs:List AV):b3F ⟨b0H,[.mp m]::sr::rows,acs⟩=some (m,sr,rows):=by
 unfold b3F
 rw[if_pos rfl]
theorem a2X.next{S:b4}{j m:Nat}{dn ts:List (Int×Int×Nat)}(h:a2X S j m dn ts)(hst:(ts.map (·.2.2)).Nodup)(hsub:∀t∈dn,t∈ts){K:D→b4→Prop}
  (h1:∀t∈ts,t ∉ dn→∀S',a2X S' j m (dn++[t]) ts→(∀i,i≠j→S' i=S i)→K (.tup [.bool true, .int .i64 t.1, .int .i64 t.2.1]) S') (h2:(∀t∈ts,t∈dn)→K (.tup [.bool false]) S):b4j S (.ptr j 0) K:=by
 obtain⟨acs,hS⟩:=h
 simp only[b4j,hS,b9p]
 have uniq:∀a∈ts,∀b∈ts,a.2.2=b.2.2→a=b:=fun a ha b hb e=>a5E hst ha hb e
 refine⟨fun key x n hrow hn acs'=> ?_,fun hall=>h2 fun t ht=> ?_⟩
 ·obtain⟨t,ht,e⟩:=List.mem_map.1 hrow
  simp only[b0t,List.cons.injEq,and_true]at e
  obtain⟨rfl,rfl,rfl⟩:=e
  refine h1 t ht (fun hd=>hn (List.mem_map.2 ⟨t,hd,rfl⟩)) _ ⟨acs', ?_⟩ fun i hi=>b4.set_ne _ _ _ hi
  rw[b4.set_same,List.map_append];rfl
 ·have:=hall _ _ _ (List.mem_map.2 ⟨t,ht,rfl⟩)
  obtain⟨t',ht',e⟩:=List.mem_map.1 this
  simp only[D.int.injEq,true_and,Int.natCast_inj]at e
  rw[uniq t ht t' (hsub t' ht') e.symm]
  exact ht'
theorem a2X.entry{S:b4}{j m:Nat}{dn ts:List (Int×Int×Nat)}{t:Int×Int×Nat}(h:a2X S j m (dn++[t]) ts)(ht:t∈ts){K:D→b4→Prop}(hK:K (.tup [.int .i64 t.1, .int .i64 t.2.1]) S):a9t S (.ptr j 0) K:=by
 obtain⟨acs,hS⟩:=h
 simp only[a9t,hS,b9p]
 exact⟨_,_,_,List.mem_map.2 ⟨t,ht,rfl⟩,by simp,hK⟩
theorem a2X.of{S S':b4}{j m:Nat}{dn ts:List (Int×Int×Nat)}(h:a2X S j m dn ts)(e:S' j=S j):a2X S' j m dn ts:=by
 obtain⟨acs,hS⟩:=h
 exact⟨acs,by rw[e];exact hS⟩
theorem a2X.there{S:b4}{j m:Nat}{dn ts:List (Int×Int×Nat)}(h:a2X S j m dn ts):S j≠none:=by obtain⟨a,e⟩:=h;rw[e];simp
end
end Go.Am
end
