/-
  BlocksKnownSaid: part Kax of its proof.
-/
import Derived.Test.YtdkidgkiplcggaaRows
import Derived.Test.YtdkidgkiplcggaaKar
import Derived.KernelRfl
import Derived.Test.YtdkidgkiplcggaaKaw
import Derived.Test.YtdkidgkiplcggaaKav
set_option linter.unusedVariables false
set_option linter.unusedSimpArgs false
set_option maxRecDepth 100000
section
open Go.Proofs Go Go.Am
namespace Go.Proofs.Ytdkidgkiplcggaa.d
def K3:List (Nat×List Nat):=[(28,[4,33,34,35])]
def K6:List (Nat×List Nat):=[(21,[1,2,9,12]),(41,[1,2,9,20]),(36,[4])]
def K9:List (Nat×Arr):=[]
noncomputable def M6:Code:=(i5 [1,1] (Try.f38.body.getD .skip))
def a6P(E:c9)(w0:g9)(Q:D→a8→Prop):j0→List D→a8→Prop:=
 (J2 Try.prog Try.f38 Q)
def a1X(E:c9)(w0:g9)(Q:D→a8→Prop)(x4:D)(S:a8):Prop:=
 r8 Try.prog E w0 G4 [x4] S fun v2 S3=>
 r8 Try.prog E w0 F9 [x4] S3 fun v4 S5=>
 Q (.tup [v4,(.bool true)]) S5
def M5(E:c9)(w0:g9)(Q:D→a8→Prop)(x4:D)(S:a8):Prop:=d6 Try.prog E w0 M6 (f0 49 [4] [x4]) S (a6P E w0 Q)
theorem a5j{E:c9}{w0:g9}{Q:D→a8→Prop}{x4:D}{S:a8}(h:a1X E w0 Q x4 S):M5 E w0 Q x4 S:=d8 K3 K6 K9 mixed (by kernel_rfl) h
noncomputable def Q2:Code:=(i5 [1,0,1,0,1,1,1,1,1,1,1,0,1,1,0,0] (Try.f38.body.getD .skip))
def P4(E:c9)(w0:g9)(Q:D→a8→Prop):j0→List D→a8→Prop:=
 (z8 1 (z8 0 (b6K Try.prog E w0 49 [4] M6 (J2 Try.prog Try.f38 Q))))
def Z0(E:c9)(w0:g9)(N0:D→D→D→D→a8→Prop)(Q:D→a8→Prop)(x4 x33 x34 x35:D)(S:a8):Prop:=
 b4 (d5 .lss x35 x34) fun v25=>
 g8 v25
 (b4 (o3 2 x33 x35) fun v26=>
 b4 (s4 S 2 v26) fun v27=>
 o9 S [(.int .i64 0),(.int .i64 0)] fun v28 S29=>
 j1 S29 2 v28 v27 fun v30 S31=>
 b4 (y9 1 v28) fun v32=>
 b4 (c8 S31 v32) fun v33=>
 B3 S31 1 (l9 1 (List.replicate 1 [(.int .i64 0)]) [(0,v33)]) 1 fun v34 S35=>
 u5 S35 1 8 x4 v34 fun v36 S37=>
 b4 (d5 .add x35 (.int .i64 1)) fun v38=>
 N0 v36 x33 x34 v38 S37)
 (M5 E w0 Q x4 S)
theorem a6d{E:c9}{w0:g9}{N0:D→D→D→D→a8→Prop}{Q:D→a8→Prop}{x4 x33 x34 x35:D}{S:a8}(h:Z0 E w0 N0 Q x4 x33 x34 x35 S):
  d6 Try.prog E w0 Q2 (f0 49 [4,33,34,35] [x4,x33,x34,x35]) S (H9 (fun T S=>N0 (T.getD 4 b6) (T.getD 33 b6) (T.getD 34 b6) (T.getD 35 b6) S) (P4 E w0 Q)):=d8 K3 K6 K9 mixed (by kernel_rfl) h
theorem a5V{E:c9}{w0:g9}{Q:D→a8→Prop}(I:Nat→D→D→D→D→a8→Prop)
  (step:∀n x4 x33 x34 x35 S,I n x4 x33 x34 x35 S→Z0 E w0 (fun x4 x33 x34 x35 S=>∃m,m<n∧I m x4 x33 x34 x35 S) Q x4 x33 x34 x35 S)
  {n:Nat} {x4 x33 x34 x35:D} {S:a8} (h:I n x4 x33 x34 x35 S):d6 Try.prog E w0 (.loop Q2) (f0 49 [4,33,34,35] [x4,x33,x34,x35]) S (P4 E w0 Q):=
 u7 (k:=49) (n:=n) (I:=fun n T S=>I n (T.getD 4 b6) (T.getD 33 b6) (T.getD 34 b6) (T.getD 35 b6) S) (fun n T S hl hI=>w9 [4,33,34,35] hl (d6.mono (a6d (step n _ _ _ _ S hI)) fun ex T' S' _ hq=>by cases ex<;>exact hq)) (j5 ..) (Eq.mp (by kernel_rfl) h)
noncomputable def a7l:Code:=(i5 [1,0,1,0,1,1,1,1,1] (Try.f38.body.getD .skip))
def a6V(E:c9)(w0:g9)(Q:D→a8→Prop):j0→List D→a8→Prop:=
 (z8 0 (b6K Try.prog E w0 49 [4] M6 (J2 Try.prog Try.f38 Q)))
def a1O(E:c9)(w0:g9)(Q:D→a8→Prop)(x1 x2 x9 x20:D)(S:a8):Prop:=
 g8 x20
 (b4 (y9 1 x2) fun v13=>
 b4 (c8 S v13) fun v14=>
 B3 S 1 (l9 1 (List.replicate 2 [(.int .i64 0)]) [(0,v14),(1,x1)]) 2 fun v15 S16=>
 M5 E w0 Q v15 S16)
 (b4 (d5 .eql x9 (.int .u8 49)) fun v17=>
 g8 v17
 (b4 (y9 2 x2) fun v18=>
 b4 (c8 S v18) fun v19=>
 B3 S 1 (l9 1 (List.replicate 1 [(.int .i64 0)]) [(0,v19)]) 1 fun v20 S21=>
 b4 (y9 3 x2) fun v22=>
 b4 (c8 S21 v22) fun v23=>
 b4 (n9 v23) fun v24=>
 d6 Try.prog E w0 (.loop Q2) (f0 49 [4,33,34,35] [v20,v23,v24,(.int .i64 0)]) S21 (P4 E w0 Q))
 (B3 S 1 (l9 1 (List.replicate 1 [(.int .i64 0)]) [(0,x1)]) 1 fun v39 S40=>
 Q (.tup [v39,(.bool false)]) S40))
def M3(E:c9)(w0:g9)(Q:D→a8→Prop)(x1 x2 x9 x20:D)(S:a8):Prop:=d6 Try.prog E w0 a7l (f0 49 [1,2,9,20] [x1,x2,x9,x20]) S (a6V E w0 Q)
theorem a4p{E:c9}{w0:g9}{Q:D→a8→Prop}{x1 x2 x9 x20:D}{S:a8}(h:a1O E w0 Q x1 x2 x9 x20 S):M3 E w0 Q x1 x2 x9 x20 S:=d8 K3 K6 K9 mixed (by kernel_rfl) h
noncomputable def a8f:Code:=(i5 [1,0,1,0,1] (Try.f38.body.getD .skip))
def a6Z(E:c9)(w0:g9)(Q:D→a8→Prop):j0→List D→a8→Prop:=
 (z8 0 (b6K Try.prog E w0 49 [4] M6 (J2 Try.prog Try.f38 Q)))
def a1R(E:c9)(w0:g9)(Q:D→a8→Prop)(x1 x2 x9 x12:D)(S:a8):Prop:=
 g8 x12
 (Q (.tup [.nilSlc,(.bool true)]) S)
 (b4 (d5 .eql x9 (.int .u8 46)) fun v8=>
 g8 v8
 (b4 (y9 1 x2) fun v9=>
 b4 (c8 S v9) fun v10=>
 B3 S 1 (l9 1 (List.replicate 1 [(.int .i64 0)]) [(0,v10)]) 1 fun v11 S12=>
 Q (.tup [v11,(.bool true)]) S12)
 (b4 (d5 .eql x9 (.int .u8 47)) fun v41=>
 g8 v41
 (M3 E w0 Q x1 x2 x9 v41 S)
 (b4 (d5 .eql x9 (.int .u8 48)) fun v42=>
 M3 E w0 Q x1 x2 x9 v42 S)))
def M7(E:c9)(w0:g9)(Q:D→a8→Prop)(x1 x2 x9 x12:D)(S:a8):Prop:=d6 Try.prog E w0 a8f (f0 49 [1,2,9,12] [x1,x2,x9,x12]) S (a6Z E w0 Q)
theorem a4H{E:c9}{w0:g9}{Q:D→a8→Prop}{x1 x2 x9 x12:D}{S:a8}(h:a1R E w0 Q x1 x2 x9 x12 S):M7 E w0 Q x1 x2 x9 x12 S:=d8 K3 K6 K9 mixed (by kernel_rfl) h
def a4L(E:c9)(w0:g9)(Q:D→a8→Prop)(a0 a1:D)(S:a8):Prop:=
 b4 (r6 a0) fun cs=>o9 S cs fun v0 S1=>
 b4 (y9 0 v0) fun v6=>
 b4 (c8 S1 v6) fun v7=>
 b4 (d5 .eql v7 (.int .u8 51)) fun v43=>
 g8 v43
 (M7 E w0 Q a1 v0 v7 v43 S1)
 (b4 (d5 .eql v7 (.int .u8 52)) fun v44=>
 M7 E w0 Q a1 v0 v7 v44 S1)
theorem a8q{E:c9}{w0:g9}{Q:D→a8→Prop}{a0 a1:D}{S:a8}(h:a4L E w0 (b9 E Q) a0 a1 S):r8 Try.prog E w0 I0 [a0,a1] S Q:=
 q9 K3 K6 K9 (fn:=Try.f38) (c:=Try.f38.body.getD .skip) mixed Try.func38 (by kernel_rfl) (by kernel_rfl) h
def s9:List (Nat×List Nat):=[(14,[0,4,5,7,38,39,40]),(24,[0,4,5,7,8,38,39,40,57,58,59]),(42,[0,4,5,14,83]),(54,[0,5,14,16,94,95,96])]
def t8:List (Nat×List Nat):=[(66,[0,5,14,16,17,19,94,95,96])]
def s8:List (Nat×Arr):=[]
noncomputable def a0a:Code:=(i5 [1,1,1,1,1,0,1,0,0,1,1,0,0,1,1,1,0,1,0,0] (Try.f14.body.getD .skip))
def Z8(E:c9)(w0:g9)(N0:D→D→D→D→D→D→D→a8→Prop)(Q:D→a8→Prop):j0→List D→a8→Prop:=
 (z8 2 (a2D Try.prog E w0 s9 t8 s8 (i5 [1,1,1,1,1,0,1,0,0,1,1,0,0,1,1,1,1] (Try.f14.body.getD .skip)) (z8 1 (a2D Try.prog E w0 s9 t8 s8 (i5 [1,1,1,1,1,0,1,0,0,1,1,1] (Try.f14.body.getD .skip)) (H9 (fun T S=>N0 (T.getD 0 b6) (T.getD 4 b6) (T.getD 5 b6) (T.getD 7 b6) (T.getD 38 b6) (T.getD 39 b6) (T.getD 40 b6) S) (z8 0 (a2D Try.prog E w0 s9 t8 s8 (i5 [1,1,1,1,1,1] (Try.f14.body.getD .skip)) (J2 Try.prog Try.f14 Q))))))))
def a2m(E:c9)(w0:g9)(N0:D→D→D→D→D→D→D→a8→Prop)(N1:D→D→D→D→D→D→D→D→D→D→D→a8→Prop)(Q:D→a8→Prop)(x0 x4 x5 x7 x8 x38 x39 x40 x57 x58 x59:D)(S:a8):Prop:=
 b4 (d5 .lss x59 x58) fun v34=>
 g8 v34
 (b4 (o3 1 x57 x59) fun v35=>
 b4 (c8 S v35) fun v36=>
 b4 (a4P S 0 (.int .i64 0) false x7 v36) fun v37=>
 b4 (d5 .add v37 (.int .i64 1)) fun v38=>
 b0u S 0 x7 v36 v38 fun v39 S40=>
 b4 (d5 .add x59 (.int .i64 1)) fun v41=>
 N1 x0 x4 x5 x7 x8 x38 x39 x40 x57 x58 v41 S40)
 (b4 (d5 .add x8 (.int .i64 1)) fun v42=>
 b4 (n9 x4) fun v43=>
 b4 (d5 .lss v42 v43) fun v44=>
 g8 v44
 (b4 (d5 .add x8 (.int .i64 1)) fun v45=>
 b4 (o3 1 x5 v45) fun v46=>
 b4 (c8 S v46) fun v47=>
 b4 (a4P S 0 (.int .i64 0) false x7 v47) fun v48=>
 b4 (d5 .add v48 (.int .i64 1)) fun v49=>
 b0u S 0 x7 v47 v49 fun v50 S51=>
 b4 (d5 .add x40 (.int .i64 1)) fun v52=>
 N0 x0 x4 x5 x7 x38 x39 v52 S51)
 (b4 (d5 .add x40 (.int .i64 1)) fun v53=>
 N0 x0 x4 x5 x7 x38 x39 v53 S))
theorem a9d{E:c9}{w0:g9}{N0:D→D→D→D→D→D→D→a8→Prop}{N1:D→D→D→D→D→D→D→D→D→D→D→a8→Prop}{Q:D→a8→Prop}{x0 x4 x5 x7 x8 x38 x39 x40 x57 x58 x59:D}{S:a8}(h:a2m E w0 N0 N1 Q x0 x4 x5 x7 x8 x38 x39 x40 x57 x58 x59 S):
  d6 Try.prog E w0 a0a (f0 173 [0,4,5,7,8,38,39,40,57,58,59] [x0,x4,x5,x7,x8,x38,x39,x40,x57,x58,x59]) S (H9 (fun T S=>N1 (T.getD 0 b6) (T.getD 4 b6) (T.getD 5 b6) (T.getD 7 b6) (T.getD 8 b6) (T.getD 38 b6) (T.getD 39 b6) (T.getD 40 b6) (T.getD 57 b6) (T.getD 58 b6) (T.getD 59 b6) S) (Z8 E w0 N0 Q)):=d8 s9 t8 s8 mixed (by kernel_rfl) h
theorem a9u{E:c9}{w0:g9}{N0:D→D→D→D→D→D→D→a8→Prop}{Q:D→a8→Prop}(I:Nat→D→D→D→D→D→D→D→D→D→D→D→a8→Prop)
  (step:∀n x0 x4 x5 x7 x8 x38 x39 x40 x57 x58 x59 S,I n x0 x4 x5 x7 x8 x38 x39 x40 x57 x58 x59 S→a2m E w0 N0 (fun x0 x4 x5 x7 x8 x38 x39 x40 x57 x58 x59 S=>∃m,m<n∧I m x0 x4 x5 x7 x8 x38 x39 x40 x57 x58 x59 S) Q x0 x4 x5 x7 x8 x38 x39 x40 x57 x58 x59 S)
  {n:Nat} {x0 x4 x5 x7 x8 x38 x39 x40 x57 x58 x59:D} {S:a8} (h:I n x0 x4 x5 x7 x8 x38 x39 x40 x57 x58 x59 S):d6 Try.prog E w0 (.loop a0a) (f0 173 [0,4,5,7,8,38,39,40,57,58,59] [x0,x4,x5,x7,x8,x38,x39,x40,x57,x58,x59]) S (Z8 E w0 N0 Q):=
 u7 (k:=173) (n:=n) (I:=fun n T S=>I n (T.getD 0 b6) (T.getD 4 b6) (T.getD 5 b6) (T.getD 7 b6) (T.getD 8 b6) (T.getD 38 b6) (T.getD 39 b6) (T.getD 40 b6) (T.getD 57 b6) (T.getD 58 b6) (T.getD 59 b6) S) (fun n T S hl hI=>w9 [0,4,5,7,8,38,39,40,57,58,59] hl (d6.mono (a9d (step n _ _ _ _ _ _ _ _ _ _ _ S hI)) fun ex T' S' _ hq=>by cases ex<;>exact hq)) (j5 ..) (Eq.mp (by kernel_rfl) h)
noncomputable def b0S:Code:=(i5 [1,1,1,1,1,1,1,1,1,1,0,1,0,0,1,1,0,0,1,1,1] (Try.f14.body.getD .skip))
def b0B(E:c9)(w0:g9)(N3:D→D→D→D→D→D→D→a8→Prop)(Q:D→a8→Prop):j0→List D→a8→Prop:=
 (z8 7 (a2D Try.prog E w0 s9 t8 s8 (i5 [1,1,1,1,1,1,1,1,1,1,0,1,0,0,1,1,1] (Try.f14.body.getD .skip)) (H9 (fun T S=>N3 (T.getD 0 b6) (T.getD 5 b6) (T.getD 14 b6) (T.getD 16 b6) (T.getD 94 b6) (T.getD 95 b6) (T.getD 96 b6) S) (z8 6 (a2D Try.prog E w0 s9 t8 s8 (i5 [1,1,1,1,1,1,1,1,1,1,1] (Try.f14.body.getD .skip)) (J2 Try.prog Try.f14 Q))))))
def a4n(E:c9)(w0:g9)(N3:D→D→D→D→D→D→D→a8→Prop)(Q:D→a8→Prop)(x0 x5 x14 x16 x17 x19 x94 x95 x96:D)(S:a8):Prop:=
 b4 (n9 x16) fun v84=>
 b4 (d5 .sub v84 (.int .i64 1)) fun v85=>
 b4 (o3 3 x16 v85) fun v86=>
 b4 (d5 .add x17 (.int .i64 1)) fun v87=>
 b4 (o3 1 x5 v87) fun v88=>
 b4 (c8 S v88) fun v89=>
 b4 (a2q v86) fun v90=>
 b4 (y9 1 v90) fun v91=>
 j1 S 1 v91 v89 fun v92 S93=>
 b4 (a2q v86) fun v94=>
 b4 (y9 2 v94) fun v95=>
 j1 S93 1 v95 x19 fun v96 S97=>
 b4 (d5 .add x96 (.int .i64 1)) fun v98=>
 N3 x0 x5 x14 x16 x94 x95 v98 S97
def O8(E:c9)(w0:g9)(N3:D→D→D→D→D→D→D→a8→Prop)(Q:D→a8→Prop)(x0 x5 x14 x16 x17 x19 x94 x95 x96:D)(S:a8):Prop:=d6 Try.prog E w0 b0S (f0 173 [0,5,14,16,17,19,94,95,96] [x0,x5,x14,x16,x17,x19,x94,x95,x96]) S (b0B E w0 N3 Q)
theorem a7C{E:c9}{w0:g9}{N3:D→D→D→D→D→D→D→a8→Prop}{Q:D→a8→Prop}{x0 x5 x14 x16 x17 x19 x94 x95 x96:D}{S:a8}(h:a4n E w0 N3 Q x0 x5 x14 x16 x17 x19 x94 x95 x96 S):O8 E w0 N3 Q x0 x5 x14 x16 x17 x19 x94 x95 x96 S:=d8 s9 t8 s8 mixed (by kernel_rfl) h
noncomputable def R9:Code:=(i5 [1,1,1,1,1,1,1,1,1,1,0,1,0,0] (Try.f14.body.getD .skip))
def R8(E:c9)(w0:g9)(Q:D→a8→Prop):j0→List D→a8→Prop:=
 (z8 6 (a2D Try.prog E w0 s9 t8 s8 (i5 [1,1,1,1,1,1,1,1,1,1,1] (Try.f14.body.getD .skip)) (J2 Try.prog Try.f14 Q)))
def a2s(E:c9)(w0:g9)(N3:D→D→D→D→D→D→D→a8→Prop)(Q:D→a8→Prop)(x0 x5 x14 x16 x94 x95 x96:D)(S:a8):Prop:=
 b4 (d5 .lss x96 x95) fun v69=>
 g8 v69
 (b4 (o3 4 x94 x96) fun v70=>
 b4 (s4 S 4 v70) fun v71=>
 o9 S [(.int .u8 0),(.int .i64 0),(.int .i64 0), .nilSlc] fun v72 S73=>
 j1 S73 4 v72 v71 fun v74 S75=>
 b4 (s4 S75 4 v72) fun v76=>
 b4 (d5 .add x96 (.int .i64 1)) fun v77=>
 b4 (o3 1 x5 v77) fun v78=>
 b4 (c8 S75 v78) fun v79=>
 r8 Try.prog E w0 I0 [v76,v79] S75 fun v80 S81=>
 b4 (k9 v80 0) fun v82=>
 b4 (k9 v80 1) fun v83=>
 b4 (n9 x14) fun v99=>
 b4 (d5 .gtr v99 (.int .i64 0)) fun v100=>
 b4 (d4 (b7 v100 true) (some x14)) fun v101=>
 b4 (d4 (b7 v100 true) (o3 1 v101 (.int .i64 0))) fun v102=>
 b4 (d4 (b7 v100 true) (c8 S81 v102)) fun v103=>
 b4 (d4 (b7 v100 true) (some x5)) fun v104=>
 b4 (d4 (b7 v100 true) (some x96)) fun v105=>
 b4 (d4 (b7 v100 true) (o3 1 v104 v105)) fun v106=>
 b4 (d4 (b7 v100 true) (c8 S81 v106)) fun v107=>
 b4 (d4 (b7 v100 true) (d5 .eql v103 v107)) fun v108=>
 b4 (B8 v100 v108 (.bool false)) fun v109=>
 g8 v109
 (b4 (a2e 1 x14 (some (.int .i64 1)) none none) fun v110=>
 b4 (o3 1 x5 x96) fun v111=>
 b4 (c8 S81 v111) fun v112=>
 b4 (y8 (j6 [(.int .i64 0),(.int .i64 0), .nilSlc] [(0,1,v112)])) fun v113=>
 B3 S81 3 (l9 3 (List.replicate 1 [(.int .i64 0),(.int .i64 0), .nilSlc]) [(0,v113)]) 1 fun v114 S115=>
 u5 S115 3 40 x16 v114 fun v116 S117=>
 O8 E w0 N3 Q x0 x5 v110 v116 x96 v82 x94 x95 x96 S117)
 (O8 E w0 N3 Q x0 x5 x14 x16 x96 v82 x94 x95 x96 S81))
 (b4 (n9 x14) fun v118=>
 b4 (d5 .gtr v118 (.int .i64 0)) fun v119=>
 b4 (d4 (b7 v119 false) (some x16)) fun v120=>
 b4 (d4 (b7 v119 false) (n9 v120)) fun v121=>
 b4 (d4 (b7 v119 false) (d5 .eql v121 (.int .i64 0))) fun v122=>
 b4 (B8 v119 (.bool true) v122) fun v123=>
 b4 (d4 (b7 v123 false) (some x16)) fun v124=>
 b4 (d4 (b7 v123 false) (some x16)) fun v125=>
 b4 (d4 (b7 v123 false) (n9 v125)) fun v126=>
 b4 (d4 (b7 v123 false) (d5 .sub v126 (.int .i64 1))) fun v127=>
 b4 (d4 (b7 v123 false) (o3 3 v124 v127)) fun v128=>
 b4 (d4 (b7 v123 false) (y9 2 v128)) fun v129=>
 b4 (d4 (b7 v123 false) (c8 S v129)) fun v130=>
 b4 (d4 (b7 v123 false) (some x0)) fun v131=>
 b4 (d4 (b7 v123 false) (n9 v131)) fun v132=>
 A1 (b7 v123 false) (fun K=>r8 Try.prog E w0 L4 [v130,v132] S K) S fun v133 S134=>
 b4 (B8 v123 (.bool true) v133) fun v135=>
 g8 v135
 (Q (.tup [.nilSlc,(.int .i64 190)]) S134)
 (Q (.tup [x16,(.int .i64 0)]) S134))
theorem a9h{E:c9}{w0:g9}{N3:D→D→D→D→D→D→D→a8→Prop}{Q:D→a8→Prop}{x0 x5 x14 x16 x94 x95 x96:D}{S:a8}(h:a2s E w0 N3 Q x0 x5 x14 x16 x94 x95 x96 S):
  d6 Try.prog E w0 R9 (f0 173 [0,5,14,16,94,95,96] [x0,x5,x14,x16,x94,x95,x96]) S (H9 (fun T S=>N3 (T.getD 0 b6) (T.getD 5 b6) (T.getD 14 b6) (T.getD 16 b6) (T.getD 94 b6) (T.getD 95 b6) (T.getD 96 b6) S) (R8 E w0 Q)):=d8 s9 t8 s8 mixed (by kernel_rfl) h
theorem a9t{E:c9}{w0:g9}{Q:D→a8→Prop}(I:Nat→D→D→D→D→D→D→D→a8→Prop)
  (step:∀n x0 x5 x14 x16 x94 x95 x96 S,I n x0 x5 x14 x16 x94 x95 x96 S→a2s E w0 (fun x0 x5 x14 x16 x94 x95 x96 S=>∃m,m<n∧I m x0 x5 x14 x16 x94 x95 x96 S) Q x0 x5 x14 x16 x94 x95 x96 S)
  {n:Nat} {x0 x5 x14 x16 x94 x95 x96:D} {S:a8} (h:I n x0 x5 x14 x16 x94 x95 x96 S):d6 Try.prog E w0 (.loop R9) (f0 173 [0,5,14,16,94,95,96] [x0,x5,x14,x16,x94,x95,x96]) S (R8 E w0 Q):=
 u7 (k:=173) (n:=n) (I:=fun n T S=>I n (T.getD 0 b6) (T.getD 5 b6) (T.getD 14 b6) (T.getD 16 b6) (T.getD 94 b6) (T.getD 95 b6) (T.getD 96 b6) S) (fun n T S hl hI=>w9 [0,5,14,16,94,95,96] hl (d6.mono (a9h (step n _ _ _ _ _ _ _ S hI)) fun ex T' S' _ hq=>by cases ex<;>exact hq)) (j5 ..) (Eq.mp (by kernel_rfl) h)
noncomputable def R5:Code:=(i5 [1,1,1,1,1,1,1,0,1,0,0] (Try.f14.body.getD .skip))
def R6(E:c9)(w0:g9)(Q:D→a8→Prop):j0→List D→a8→Prop:=
 (z8 4 (a2D Try.prog E w0 s9 t8 s8 (i5 [1,1,1,1,1,1,1,1] (Try.f14.body.getD .skip)) (J2 Try.prog Try.f14 Q)))
def a2v(E:c9)(w0:g9)(N2:D→D→D→D→D→a8→Prop)(Q:D→a8→Prop)(x0 x4 x5 x14 x83:D)(S:a8):Prop:=
 b3w S x83 fun v56 S57=>
 b4 (k9 v56 0) fun v58=>
 g8 v58
 (a8U S57 x83 fun v59 S60=>
 b4 (k9 v59 0) fun v61=>
 B3 S60 1 (l9 1 (List.replicate 1 [(.int .i64 0)]) [(0,v61)]) 1 fun v62 S63=>
 u5 S63 1 8 x14 v62 fun v64 S65=>
 N2 x0 x4 x5 v64 x83 S65)
 (r8 Try.prog E w0 G4 [x14] S57 fun v66 S67=>
 b4 (n9 x4) fun v68=>
 d6 Try.prog E w0 (.loop R9) (f0 173 [0,5,14,16,94,95,96] [x0,x5,x14, .nilSlc,x4,v68,(.int .i64 0)]) S67 (R8 E w0 Q))
theorem a8M{E:c9}{w0:g9}{N2:D→D→D→D→D→a8→Prop}{Q:D→a8→Prop}{x0 x4 x5 x14 x83:D}{S:a8}(h:a2v E w0 N2 Q x0 x4 x5 x14 x83 S):
  d6 Try.prog E w0 R5 (f0 173 [0,4,5,14,83] [x0,x4,x5,x14,x83]) S (H9 (fun T S=>N2 (T.getD 0 b6) (T.getD 4 b6) (T.getD 5 b6) (T.getD 14 b6) (T.getD 83 b6) S) (R6 E w0 Q)):=d8 s9 t8 s8 mixed (by kernel_rfl) h
theorem a9x{E:c9}{w0:g9}{Q:D→a8→Prop}(I:Nat→D→D→D→D→D→a8→Prop)
  (step:∀n x0 x4 x5 x14 x83 S,I n x0 x4 x5 x14 x83 S→a2v E w0 (fun x0 x4 x5 x14 x83 S=>∃m,m<n∧I m x0 x4 x5 x14 x83 S) Q x0 x4 x5 x14 x83 S)
  {n:Nat} {x0 x4 x5 x14 x83:D} {S:a8} (h:I n x0 x4 x5 x14 x83 S):d6 Try.prog E w0 (.loop R5) (f0 173 [0,4,5,14,83] [x0,x4,x5,x14,x83]) S (R6 E w0 Q):=
 u7 (k:=173) (n:=n) (I:=fun n T S=>I n (T.getD 0 b6) (T.getD 4 b6) (T.getD 5 b6) (T.getD 14 b6) (T.getD 83 b6) S) (fun n T S hl hI=>w9 [0,4,5,14,83] hl (d6.mono (a8M (step n _ _ _ _ _ S hI)) fun ex T' S' _ hq=>by cases ex<;>exact hq)) (j5 ..) (Eq.mp (by kernel_rfl) h)
noncomputable def a0e:Code:=(i5 [1,1,1,1,1,0,1,0,0] (Try.f14.body.getD .skip))
def a0g(E:c9)(w0:g9)(Q:D→a8→Prop):j0→List D→a8→Prop:=
 (z8 0 (a2D Try.prog E w0 s9 t8 s8 (i5 [1,1,1,1,1,1] (Try.f14.body.getD .skip)) (J2 Try.prog Try.f14 Q)))
def a2n(E:c9)(w0:g9)(N0:D→D→D→D→D→D→D→a8→Prop)(Q:D→a8→Prop)(x0 x4 x5 x7 x38 x39 x40:D)(S:a8):Prop:=
 b4 (d5 .lss x40 x39) fun v16=>
 g8 v16
 (b4 (o3 4 x38 x40) fun v17=>
 b4 (s4 S 4 v17) fun v18=>
 o9 S [(.int .u8 0),(.int .i64 0),(.int .i64 0), .nilSlc] fun v19 S20=>
 j1 S20 4 v19 v18 fun v21 S22=>
 b4 (s4 S22 4 v19) fun v23=>
 b4 (d5 .add x40 (.int .i64 1)) fun v24=>
 b4 (o3 1 x5 v24) fun v25=>
 b4 (c8 S22 v25) fun v26=>
 r8 Try.prog E w0 I0 [v23,v26] S22 fun v27 S28=>
 b4 (k9 v27 0) fun v29=>
 b4 (k9 v27 1) fun v30=>
 b4 (unD .not v30) fun v31=>
 g8 v31
 (b4 (d5 .add x40 (.int .i64 1)) fun v32=>
 N0 x0 x4 x5 x7 x38 x39 v32 S28)
 (b4 (n9 v29) fun v33=>
 d6 Try.prog E w0 (.loop a0a) (f0 173 [0,4,5,7,8,38,39,40,57,58,59] [x0,x4,x5,x7,x40,x38,x39,x40,v29,v33,(.int .i64 0)]) S28 (Z8 E w0 N0 Q)))
 (a6X S x7 fun v54 S55=>
 d6 Try.prog E w0 (.loop R5) (f0 173 [0,4,5,14,83] [x0,x4,x5, .nilSlc,v54]) S55 (R6 E w0 Q))
theorem a8H{E:c9}{w0:g9}{N0:D→D→D→D→D→D→D→a8→Prop}{Q:D→a8→Prop}{x0 x4 x5 x7 x38 x39 x40:D}{S:a8}(h:a2n E w0 N0 Q x0 x4 x5 x7 x38 x39 x40 S):
  d6 Try.prog E w0 a0e (f0 173 [0,4,5,7,38,39,40] [x0,x4,x5,x7,x38,x39,x40]) S (H9 (fun T S=>N0 (T.getD 0 b6) (T.getD 4 b6) (T.getD 5 b6) (T.getD 7 b6) (T.getD 38 b6) (T.getD 39 b6) (T.getD 40 b6) S) (a0g E w0 Q)):=d8 s9 t8 s8 mixed (by kernel_rfl) h
theorem a9m{E:c9}{w0:g9}{Q:D→a8→Prop}(I:Nat→D→D→D→D→D→D→D→a8→Prop)
  (step:∀n x0 x4 x5 x7 x38 x39 x40 S,I n x0 x4 x5 x7 x38 x39 x40 S→a2n E w0 (fun x0 x4 x5 x7 x38 x39 x40 S=>∃m,m<n∧I m x0 x4 x5 x7 x38 x39 x40 S) Q x0 x4 x5 x7 x38 x39 x40 S)
  {n:Nat} {x0 x4 x5 x7 x38 x39 x40:D} {S:a8} (h:I n x0 x4 x5 x7 x38 x39 x40 S):d6 Try.prog E w0 (.loop a0e) (f0 173 [0,4,5,7,38,39,40] [x0,x4,x5,x7,x38,x39,x40]) S (a0g E w0 Q):=
 u7 (k:=173) (n:=n) (I:=fun n T S=>I n (T.getD 0 b6) (T.getD 4 b6) (T.getD 5 b6) (T.getD 7 b6) (T.getD 38 b6) (T.getD 39 b6) (T.getD 40 b6) S) (fun n T S hl hI=>w9 [0,4,5,7,38,39,40] hl (d6.mono (a8H (step n _ _ _ _ _ _ _ S hI)) fun ex T' S' _ hq=>by cases ex<;>exact hq)) (j5 ..) (Eq.mp (by kernel_rfl) h)
def a9E(E:c9)(w0:g9)(Q:D→a8→Prop)(a0:D)(S:a8):Prop:=
 r8 Try.prog E w0 a5r [a0] S fun v0 S1=>
 b4 (k9 v0 0) fun v2=>
 b4 (k9 v0 1) fun v3=>
 b4 (k9 v0 2) fun v4=>
 b4 (d5 .neq v4 (.int .i64 0)) fun v5=>
 g8 v5
 (Q (.tup [.nilSlc,v4]) S1)
 (b4 (n9 a0) fun v6=>
 B3 S1 1 (l9 1 (List.replicate 1 [(.int .i64 0)]) [(0,v6)]) 1 fun v7 S8=>
 u5 S8 1 8 v3 v7 fun v9 S10=>
 b1h S10 fun v11 S12=>
 b0u S12 0 v11 (.int .i64 0) (.int .i64 0) fun v13 S14=>
 b4 (n9 v2) fun v15=>
 d6 Try.prog E w0 (.loop a0e) (f0 173 [0,4,5,7,38,39,40] [a0,v2,v9,v11,v2,v15,(.int .i64 0)]) S14 (a0g E w0 Q))
theorem b0M{E:c9}{w0:g9}{Q:D→a8→Prop}{a0:D}{S:a8}(h:a9E E w0 (b9 E Q) a0 S):r8 Try.prog E w0 C7 [a0] S Q:=
 q9 s9 t8 s8 (fn:=Try.f14) (c:=Try.f14.body.getD .skip) mixed Try.func14 (by kernel_rfl) (by kernel_rfl) h
def F6:List (Nat×List Nat):=[(6,[0,3,4]),(20,[0,3,5,6]),(32,[0,3,5,6,58,59,60])]
def F4:List (Nat×List Nat):=[(20,[0,3,5,6]),(44,[5])]
def F5:List (Nat×Arr):=[]
noncomputable def G3:Code:=(i5 [1,1,1,1,1,1,1] (Try.f18.body.getD .skip))
def a6D(E:c9)(w0:g9)(Q:D→a8→Prop):j0→List D→a8→Prop:=
 (J2 Try.prog Try.f18 Q)
def M8(E:c9)(w0:g9)(Q:D→a8→Prop)(x5:D)(S:a8):Prop:=d6 Try.prog E w0 G3 (f0 79 [5] [x5]) S (a6D E w0 Q)
noncomputable def P9:Code:=(i5 [1,1,1,1,1,1,0,0,0,1,0,1,1,1,1,1,0,0] (Try.f18.body.getD .skip))
def Q4(E:c9)(w0:g9)(N1:D→D→D→D→a8→Prop)(Q:D→a8→Prop):j0→List D→a8→Prop:=
 (z8 4 (z8 3 (H9 (fun T S=>N1 (T.getD 0 b6) (T.getD 3 b6) (T.getD 5 b6) (T.getD 6 b6) S) (z8 2 (b6K Try.prog E w0 79 [5] G3 (J2 Try.prog Try.f18 Q))))))
def Z1(E:c9)(w0:g9)(N1:D→D→D→D→a8→Prop)(N2:D→D→D→D→D→D→D→a8→Prop)(Q:D→a8→Prop)(x0 x3 x5 x6 x58 x59 x60:D)(S:a8):Prop:=
 b4 (d5 .lss x60 x59) fun v43=>
 g8 v43
 (b4 (o3 1 x58 x60) fun v44=>
 b4 (c8 S v44) fun v45=>
 b4 (a4P S 0 (.int .i64 0) true x3 v45) fun v46=>
 b4 (k9 v46 0) fun v47=>
 b4 (k9 v46 1) fun v48=>
 g8 v48
 (B3 S 1 (l9 1 (List.replicate 1 [(.int .i64 0)]) [(0,v47)]) 1 fun v49 S50=>
 u5 S50 1 8 x6 v49 fun v51 S52=>
 b4 (d5 .add x60 (.int .i64 1)) fun v53=>
 N2 x0 x3 x5 v51 x58 x59 v53 S52)
 (b4 (d5 .add x60 (.int .i64 1)) fun v54=>
 N2 x0 x3 x5 x6 x58 x59 v54 S))
 (N1 x0 x3 x5 x6 S)
theorem a5S{E:c9}{w0:g9}{N1:D→D→D→D→a8→Prop}{N2:D→D→D→D→D→D→D→a8→Prop}{Q:D→a8→Prop}{x0 x3 x5 x6 x58 x59 x60:D}{S:a8}(h:Z1 E w0 N1 N2 Q x0 x3 x5 x6 x58 x59 x60 S):
  d6 Try.prog E w0 P9 (f0 79 [0,3,5,6,58,59,60] [x0,x3,x5,x6,x58,x59,x60]) S (H9 (fun T S=>N2 (T.getD 0 b6) (T.getD 3 b6) (T.getD 5 b6) (T.getD 6 b6) (T.getD 58 b6) (T.getD 59 b6) (T.getD 60 b6) S) (Q4 E w0 N1 Q)):=d8 F6 F4 F5 mixed (by kernel_rfl) h
theorem a5R{E:c9}{w0:g9}{N1:D→D→D→D→a8→Prop}{Q:D→a8→Prop}(I:Nat→D→D→D→D→D→D→D→a8→Prop)
  (step:∀n x0 x3 x5 x6 x58 x59 x60 S,I n x0 x3 x5 x6 x58 x59 x60 S→Z1 E w0 N1 (fun x0 x3 x5 x6 x58 x59 x60 S=>∃m,m<n∧I m x0 x3 x5 x6 x58 x59 x60 S) Q x0 x3 x5 x6 x58 x59 x60 S)
  {n:Nat} {x0 x3 x5 x6 x58 x59 x60:D} {S:a8} (h:I n x0 x3 x5 x6 x58 x59 x60 S):d6 Try.prog E w0 (.loop P9) (f0 79 [0,3,5,6,58,59,60] [x0,x3,x5,x6,x58,x59,x60]) S (Q4 E w0 N1 Q):=
 u7 (k:=79) (n:=n) (I:=fun n T S=>I n (T.getD 0 b6) (T.getD 3 b6) (T.getD 5 b6) (T.getD 6 b6) (T.getD 58 b6) (T.getD 59 b6) (T.getD 60 b6) S) (fun n T S hl hI=>w9 [0,3,5,6,58,59,60] hl (d6.mono (a5S (step n _ _ _ _ _ _ _ S hI)) fun ex T' S' _ hq=>by cases ex<;>exact hq)) (j5 ..) (Eq.mp (by kernel_rfl) h)
noncomputable def Q3:Code:=(i5 [1,1,1,1,1,1,0,0,0] (Try.f18.body.getD .skip))
def P2(E:c9)(w0:g9)(Q:D→a8→Prop):j0→List D→a8→Prop:=
 (z8 2 (b6K Try.prog E w0 79 [5] G3 (J2 Try.prog Try.f18 Q)))
def Y8(E:c9)(w0:g9)(N1:D→D→D→D→a8→Prop)(Q:D→a8→Prop)(x0 x3 x5 x6:D)(S:a8):Prop:=
 b4 (n9 x6) fun v17=>
 b4 (d5 .gtr v17 (.int .i64 0)) fun v18=>
 g8 v18
 (b4 (n9 x6) fun v19=>
 b4 (d5 .sub v19 (.int .i64 1)) fun v20=>
 b4 (o3 1 x6 v20) fun v21=>
 b4 (c8 S v21) fun v22=>
 b4 (o3 3 x0 v22) fun v23=>
 b4 (s4 S 3 v23) fun v24=>
 o9 S [(.int .i64 0),(.int .i64 0), .nilSlc] fun v25 S26=>
 j1 S26 3 v25 v24 fun v27 S28=>
 b4 (n9 x6) fun v29=>
 b4 (d5 .sub v29 (.int .i64 1)) fun v30=>
 b4 (a2e 1 x6 none (some v30) none) fun v31=>
 b4 (y9 0 v25) fun v32=>
 b4 (c8 S28 v32) fun v33=>
 b4 (a4P S28 0 (.int .i64 0) false x5 v33) fun v34=>
 b4 (d5 .gtr v34 (.int .i64 0)) fun v35=>
 g8 v35
 (N1 x0 x3 x5 v31 S28)
 (b4 (y9 0 v25) fun v36=>
 b4 (c8 S28 v36) fun v37=>
 b0u S28 0 x5 v37 (.int .i64 1) fun v38 S39=>
 b4 (y9 2 v25) fun v40=>
 b4 (c8 S39 v40) fun v41=>
 b4 (n9 v41) fun v42=>
 d6 Try.prog E w0 (.loop P9) (f0 79 [0,3,5,6,58,59,60] [x0,x3,x5,v31,v41,v42,(.int .i64 0)]) S39 (Q4 E w0 N1 Q)))
 (M8 E w0 Q x5 S)
theorem a5X{E:c9}{w0:g9}{N1:D→D→D→D→a8→Prop}{Q:D→a8→Prop}{x0 x3 x5 x6:D}{S:a8}(h:Y8 E w0 N1 Q x0 x3 x5 x6 S):
  d6 Try.prog E w0 Q3 (f0 79 [0,3,5,6] [x0,x3,x5,x6]) S (H9 (fun T S=>N1 (T.getD 0 b6) (T.getD 3 b6) (T.getD 5 b6) (T.getD 6 b6) S) (P2 E w0 Q)):=d8 F6 F4 F5 mixed (by kernel_rfl) h
theorem a5T{E:c9}{w0:g9}{Q:D→a8→Prop}(I:Nat→D→D→D→D→a8→Prop)
  (step:∀n x0 x3 x5 x6 S,I n x0 x3 x5 x6 S→Y8 E w0 (fun x0 x3 x5 x6 S=>∃m,m<n∧I m x0 x3 x5 x6 S) Q x0 x3 x5 x6 S)
  {n:Nat} {x0 x3 x5 x6:D} {S:a8} (h:I n x0 x3 x5 x6 S):d6 Try.prog E w0 (.loop Q3) (f0 79 [0,3,5,6] [x0,x3,x5,x6]) S (P2 E w0 Q):=
 u7 (k:=79) (n:=n) (I:=fun n T S=>I n (T.getD 0 b6) (T.getD 3 b6) (T.getD 5 b6) (T.getD 6 b6) S) (fun n T S hl hI=>w9 [0,3,5,6] hl (d6.mono (a5X (step n _ _ _ _ S hI)) fun ex T' S' _ hq=>by cases ex<;>exact hq)) (j5 ..) (Eq.mp (by kernel_rfl) h)
noncomputable def a7r:Code:=(i5 [1,1,1,1,1,1] (Try.f18.body.getD .skip))
def a6E(E:c9)(w0:g9)(Q:D→a8→Prop):j0→List D→a8→Prop:=
 (J2 Try.prog Try.f18 Q)
def a1T(E:c9)(w0:g9)(Q:D→a8→Prop)(x0 x3 x5 x6:D)(S:a8):Prop:=
 d6 Try.prog E w0 (.loop Q3) (f0 79 [0,3,5,6] [x0,x3,x5,x6]) S (P2 E w0 Q)
def C9(E:c9)(w0:g9)(Q:D→a8→Prop)(x0 x3 x5 x6:D)(S:a8):Prop:=d6 Try.prog E w0 a7r (f0 79 [0,3,5,6] [x0,x3,x5,x6]) S (a6E E w0 Q)
theorem a4t{E:c9}{w0:g9}{Q:D→a8→Prop}{x0 x3 x5 x6:D}{S:a8}(h:a1T E w0 Q x0 x3 x5 x6 S):C9 E w0 Q x0 x3 x5 x6 S:=d8 F6 F4 F5 mixed (by kernel_rfl) h
noncomputable def P1:Code:=(i5 [1,1,0,1,0,0] (Try.f18.body.getD .skip))
def Q1(E:c9)(w0:g9)(Q:D→a8→Prop):j0→List D→a8→Prop:=
 (z8 0 (a2D Try.prog E w0 F6 F4 F5 (i5 [1,1,1] (Try.f18.body.getD .skip)) (J2 Try.prog Try.f18 Q)))
def Z4(E:c9)(w0:g9)(N0:D→D→D→a8→Prop)(Q:D→a8→Prop)(x0 x3 x4:D)(S:a8):Prop:=
 b4 (d5 .geq x4 (.int .i64 0)) fun v4=>
 g8 v4
 (b4 (o3 3 x0 x4) fun v5=>
 b4 (y9 0 v5) fun v6=>
 b4 (c8 S v6) fun v7=>
 b0u S 0 x3 v7 x4 fun v8 S9=>
 b4 (d5 .sub x4 (.int .i64 1)) fun v10=>
 N0 x0 x3 v10 S9)
 (b1h S fun v11 S12=>
 b4 (n9 x0) fun v55=>
 b4 (d5 .gtr v55 (.int .i64 0)) fun v56=>
 g8 v56
 (B3 S12 1 (l9 1 (List.replicate 1 [(.int .i64 0)]) [(0,(.int .i64 0))]) 1 fun v57 S58=>
 C9 E w0 Q x0 x3 v11 v57 S58)
 (C9 E w0 Q x0 x3 v11 .nilSlc S12))
theorem a6c{E:c9}{w0:g9}{N0:D→D→D→a8→Prop}{Q:D→a8→Prop}{x0 x3 x4:D}{S:a8}(h:Z4 E w0 N0 Q x0 x3 x4 S):
  d6 Try.prog E w0 P1 (f0 79 [0,3,4] [x0,x3,x4]) S (H9 (fun T S=>N0 (T.getD 0 b6) (T.getD 3 b6) (T.getD 4 b6) S) (Q1 E w0 Q)):=d8 F6 F4 F5 mixed (by kernel_rfl) h
theorem a5Y{E:c9}{w0:g9}{Q:D→a8→Prop}(I:Nat→D→D→D→a8→Prop)
  (step:∀n x0 x3 x4 S,I n x0 x3 x4 S→Z4 E w0 (fun x0 x3 x4 S=>∃m,m<n∧I m x0 x3 x4 S) Q x0 x3 x4 S)
  {n:Nat} {x0 x3 x4:D} {S:a8} (h:I n x0 x3 x4 S):d6 Try.prog E w0 (.loop P1) (f0 79 [0,3,4] [x0,x3,x4]) S (Q1 E w0 Q):=
 u7 (k:=79) (n:=n) (I:=fun n T S=>I n (T.getD 0 b6) (T.getD 3 b6) (T.getD 4 b6) S) (fun n T S hl hI=>w9 [0,3,4] hl (d6.mono (a6c (step n _ _ _ S hI)) fun ex T' S' _ hq=>by cases ex<;>exact hq)) (j5 ..) (Eq.mp (by kernel_rfl) h)
def a5i(E:c9)(w0:g9)(Q:D→a8→Prop)(a0:D)(S:a8):Prop:=
 b1h S fun v0 S1=>
 b4 (n9 a0) fun v2=>
 b4 (d5 .sub v2 (.int .i64 1)) fun v3=>
 d6 Try.prog E w0 (.loop P1) (f0 79 [0,3,4] [a0,v0,v3]) S1 (Q1 E w0 Q)
theorem a8a{E:c9}{w0:g9}{Q:D→a8→Prop}{a0:D}{S:a8}(h:a5i E w0 (b9 E Q) a0 S):r8 Try.prog E w0 E2 [a0] S Q:=
 q9 F6 F4 F5 (fn:=Try.f18) (c:=Try.f18.body.getD .skip) mixed Try.func18 (by kernel_rfl) (by kernel_rfl) h
def a3I:List (Nat×List Nat):=[]
def a3D:List (Nat×List Nat):=[]
def a3x:List (Nat×Arr):=[]
def X7(E:c9)(w0:g9)(Q:D→a8→Prop)(a0 a1:D)(S:a8):Prop:=
 r8 Try.prog E w0 U9 [a0,a1] S fun v0 S1=>
 b4 (d5 .geq v0 (.int .i64 0)) fun v2=>
 Q v2 S1
theorem a2A{E:c9}{w0:g9}{Q:D→a8→Prop}{a0 a1:D}{S:a8}(h:X7 E w0 (b9 E Q) a0 a1 S):r8 Try.prog E w0 L4 [a0,a1] S Q:=
 q9 a3I a3D a3x (fn:=Try.f40) (c:=Try.f40.body.getD .skip) mixed Try.func40 (by kernel_rfl) (by kernel_rfl) h
def Q7:List (Nat×List Nat):=[(4,[0,1,7,8])]
def Q9:List (Nat×List Nat):=[]
def R4:List (Nat×Arr):=[]
noncomputable def N7:Code:=(i5 [1,0,1,0,0] (Try.f57.body.getD .skip))
def O6(E:c9)(w0:g9)(Q:D→a8→Prop):j0→List D→a8→Prop:=
 (z8 0 (a2D Try.prog E w0 Q7 Q9 R4 (i5 [1,1] (Try.f57.body.getD .skip)) (J2 Try.prog Try.f57 Q)))
def O2(E:c9)(w0:g9)(N0:D→D→D→D→a8→Prop)(Q:D→a8→Prop)(x0 x1 x7 x8:D)(S:a8):Prop:=
 b4 (d5 .lss x8 x7) fun v1=>
 g8 v1
 (b4 (o3 1 x0 x8) fun v2=>
 b4 (c8 S v2) fun v3=>
 b4 (d5 .eql x1 v3) fun v4=>
 g8 v4
 (Q x8 S)
 (b4 (d5 .add x8 (.int .i64 1)) fun v5=>
 N0 x0 x1 x7 v5 S))
 (Q (.int .i64 (-1)) S)
theorem a3e{E:c9}{w0:g9}{N0:D→D→D→D→a8→Prop}{Q:D→a8→Prop}{x0 x1 x7 x8:D}{S:a8}(h:O2 E w0 N0 Q x0 x1 x7 x8 S):
  d6 Try.prog E w0 N7 (f0 19 [0,1,7,8] [x0,x1,x7,x8]) S (H9 (fun T S=>N0 (T.getD 0 b6) (T.getD 1 b6) (T.getD 7 b6) (T.getD 8 b6) S) (O6 E w0 Q)):=d8 Q7 Q9 R4 mixed (by kernel_rfl) h
theorem a2S{E:c9}{w0:g9}{Q:D→a8→Prop}(I:Nat→D→D→D→D→a8→Prop)
  (step:∀n x0 x1 x7 x8 S,I n x0 x1 x7 x8 S→O2 E w0 (fun x0 x1 x7 x8 S=>∃m,m<n∧I m x0 x1 x7 x8 S) Q x0 x1 x7 x8 S)
  {n:Nat} {x0 x1 x7 x8:D} {S:a8} (h:I n x0 x1 x7 x8 S):d6 Try.prog E w0 (.loop N7) (f0 19 [0,1,7,8] [x0,x1,x7,x8]) S (O6 E w0 Q):=
 u7 (k:=19) (n:=n) (I:=fun n T S=>I n (T.getD 0 b6) (T.getD 1 b6) (T.getD 7 b6) (T.getD 8 b6) S) (fun n T S hl hI=>w9 [0,1,7,8] hl (d6.mono (a3e (step n _ _ _ _ S hI)) fun ex T' S' _ hq=>by cases ex<;>exact hq)) (j5 ..) (Eq.mp (by kernel_rfl) h)
def a1u(E:c9)(w0:g9)(Q:D→a8→Prop)(a0 a1:D)(S:a8):Prop:=
 b4 (n9 a0) fun v0=>
 d6 Try.prog E w0 (.loop N7) (f0 19 [0,1,7,8] [a0,a1,v0,(.int .i64 0)]) S (O6 E w0 Q)
theorem a4h{E:c9}{w0:g9}{Q:D→a8→Prop}{a0 a1:D}{S:a8}(h:a1u E w0 (b9 E Q) a0 a1 S):r8 Try.prog E w0 U9 [a0,a1] S Q:=
 q9 Q7 Q9 R4 (fn:=Try.f57) (c:=Try.f57.body.getD .skip) mixed Try.func57 (by kernel_rfl) (by kernel_rfl) h
end Go.Proofs.Ytdkidgkiplcggaa.d
end
section
open Go.Proofs Go Go.Am Go.Op
namespace Go.Proofs.Ytdkidgkiplcggaa.d
set_option linter.unusedSectionVars false
def a1m(y:In):Bool:=decide (46≤y.op∧y.op≤49∨y.op=51∨y.op=52)
section
variable{E:c9}{w0:g9}
theorem Own.compactT{S0 S:a8}{d:D}{l:List Int}(h:Own S0 d l S)(h0:l≠[])(hl:l.length<2^60){Q:D→a8→Prop}{lp lq:List D}(hQ:b9 E Q (.tup (lp++iD (Lib.compact l)::lq)) S0):r8 Try.prog E w0 F9 [d] S fun v S'=>b9 E Q (.tup (lp++v::lq)) S':=by
 rcases h with ⟨_,e,_⟩|⟨k,acs,ex,hk,rfl,rfl⟩
 ·exact absurd e h0
 ·refine a6q.fnD (zs:=l) (a8.set_same _ _ _) rfl (by rw[i4];omega) (by rw[List.drop_zero,List.take_of_length_le (by rw[i4];exact Nat.le_refl _),W8]) (by omega) fun acs'=> ?_
  have hle:=Y4 l
  refine b9.freezeT (a8.set_same _ _ _) rfl (by simp[D6]<;>omega) hle ?_
  rw[a8.set_set,a8.erase_set _ _ _ hk]
  have:D.lst (((List.take 0 (iC l)++(D6 (Lib.compact l++List.replicate (l.length - (Lib.compact l).length) 0)++List.drop (0+l.length) (iC l))).drop 0).take (Lib.compact l).length) 1=iD (Lib.compact l):=by
   rw[List.take_zero,List.nil_append,List.drop_zero,W8,Z2,List.append_assoc,List.take_append_of_le_length (by rw[i4];exact Nat.le_refl _),List.take_of_length_le (by rw[i4];exact Nat.le_refl _)]
   rfl
  rw[this]
  exact hQ
theorem a4b{y:In}(hal:y.arms.length≤65535){next:Int}:a1p Try.prog E w0 I0 [inD y, .int .i64 next] (.tup [iD (B7 y next), .bool (a1m y)]):=fun S=>by
 refine a8q ?_
 unfold a4L
 refine c4Q fun k a n=> ?_
 have hk:H7 (S.set k ⟨4,[inC y],a⟩) k 4 (inC y):=H7.new
 have l1:S.le (S.set k ⟨4,[inC y],a⟩):=a8.le_new n
 generalize (S.set k ⟨4,[inC y],a⟩)=B at hk l1
 obtain⟨i0,i1,i2,i3⟩:=c4b y
 have hk0:=hk
 have g0:∀ {T:a8},H7 T k 4 (inC y)→c8 T (.ptr k 0)=some (.int .u8 y.op):=fun h=>h.ld 0
 have g1:∀ {T:a8},H7 T k 4 (inC y)→c8 T (.ptr k 1)=some (.int .i64 y.a):=fun h=>h.ld 1
 have g2:∀ {T:a8},H7 T k 4 (inC y)→c8 T (.ptr k 2)=some (.int .i64 y.b):=fun h=>h.ld 2
 have g3:∀ {T:a8},H7 T k 4 (inC y)→c8 T (.ptr k 3)=some (b1t y.arms):=fun h=>h.ld 3
 let Q:D→a8→Prop:=fun d' S'=>d'= .tup [iD (B7 y next), .bool (a1m y)]∧S'=S
 have fin:∀ {B' T:a8} {d:D} {l:List Int},S.le B'→Own B' d l T→l≠[]→l.length<2^60→a1m y=true→B7 y next=a0u l→M5 E w0 (b9 E Q) d T:=by
  intro B' T d l hle ho h0 hl hen he
  refine a5j ?_
  unfold a1X
  refine ho.sort h0 hl fun v S' ho'=> ?_
  refine Own.compactT (lp:=[]) (lq:=[.bool true]) ho' (fun e=>h0 (List.length_eq_zero_iff.1 (by rw[←a3C,e];rfl))) (by rw[a3C];exact hl) ?_
  exact b9.less hle (b9.here ⟨by rw[he,hen];rfl,rfl⟩)
 have sw:∀ {T:a8} {d:D},Own B d [y.b] T→y.op=49→b4 (c8 T (.ptr k 3)) fun v23=>b4 (n9 v23) fun v24=>d6 Try.prog E w0 (.loop Q2) (f0 49 [4,33,34,35] [d,v23,v24,(.int .i64 0)]) T (P4 E w0 (b9 E Q)):=by
  intro T d ho' h49
  have hk:=(hk0.le ho'.le)
  rw[g3 hk,oD]
  rw[c1K,oD]
  refine a5V (I:=fun n x5 x36 x37 x38 T=>x36=b1t y.arms∧x37= .int .i64 (y.arms.length:Int)∧∃(i:Nat) (B':a8),x38= .int .i64 (i:Int)∧i+n=y.arms.length∧B.le B'∧Own B' x5 (y.b::(y.arms.take i).map (·.2)) T) ?_ (n:=y.arms.length)
   ⟨rfl,rfl,0,B,rfl,by omega,a8.le_refl _,ho'⟩
  rintro n x5 _ _ _ T ⟨rfl,rfl,i,B',rfl,hi,hB,ho⟩
  unfold Z0
  rw[a4g,oD,cdI]
  refine⟨fun hlt=> ?_,fun hge=> ?_⟩
  ·have hlt:i<y.arms.length:=by omega
   have ha:y.arms[i]? =some y.arms[i]:=List.getElem?_eq_getElem hlt
   rw[c2v ha,oD,laE,if_pos ⟨by decide,by simp[Y5]⟩,oD]
   intro k3 a3 n3
   refine(H7.new (sz:=2) (c:=[.int .i64 0, .int .i64 0])).st (ds:=Y5 y.arms[i]) (clA _) ⟨rfl,by decide,by simp⟩ fun a4=> ?_
   rw[a8.set_set,show n8 [D.int .i64 0, .int .i64 0] 0 (Y5 y.arms[i])=Y5 y.arms[i]from rfl]
   have hb:=ho.under (o:=⟨2,[Y5 y.arms[i]],a4⟩) n3
   simp only[ofP,Nat.zero_add,oD]
   rw[(H7.new).ld 1,show(Y5 y.arms[i])[1]? =some (.int .i64 y.arms[i].2) from rfl,oD,show l9 1 (List.replicate 1 [D.int .i64 0]) [(0, .int .i64 y.arms[i].2)]=some (iC [y.arms[i].2]) from rfl]
   refine P6 rfl ?_
   refine hb.push (news:=[y.arms[i].2]) (by simp[rowsS,E9]) (by simp) (by simp;omega) fun d' T' ho'=> ?_
   rw[U3,oD,l8 (by omega) (by omega)]
   refine⟨n - 1,by omega,by trivial,by trivial,i+1,B'.set k3 ⟨2,[Y5 y.arms[i]],a4⟩,by trivial,by omega,a8.le_set hB (a8.none_of hB (a8.none_of ho.le n3)), ?_⟩
   have e:y.b::(y.arms.take (i+1)).map (·.2)=(y.b::(y.arms.take i).map (·.2))++[y.arms[i].2]:=by rw[List.take_add_one,ha,List.map_append];rfl
   rw[e]
   exact ho'
  ·rw[List.take_of_length_le (by omega)]at ho
   exact fin (a8.le_trans l1 hB) ho (by simp) (by simp;omega) (by unfold a1m;simp[h49]) (by unfold B7;rw[if_neg (by omega),if_neg (by omega),if_neg (by omega),if_pos h49])
 have c41:∀ {b:Bool},y.op≠51∧y.op≠52∧y.op≠46→b=decide (y.op=47∨y.op=48)→M3 E w0 (b9 E Q) (.int .i64 next) (.ptr k 0) (.int .u8 y.op) (.bool b) B:=by
  intro b hne hb
  subst hb
  refine a4p ?_
  unfold a1O
  rw[cdI]
  refine⟨fun h=> ?_,fun h=> ?_⟩
  ·simp only[ofP,Nat.zero_add,oD,g1 hk]
   refine b9m (l:=[y.a,next]) fun d T hT=> ?_
   refine fin l1 hT (by simp) (by simp) (by unfold a1m;rcases h with h|h<;>simp[h]) ?_
   unfold B7
   rw[if_neg (by omega),if_neg (by omega),if_pos h]
   exact a3g (J9 _).1 (J9 _).1 fun n=>by rw[(J9 _).2,(J9 _).2];simp[or_comm]
  ·rw[a7W,oD,cdI]
   refine⟨fun h49=> ?_,fun h49=> ?_⟩
   ·simp only[ofP,Nat.zero_add,oD,g2 hk]
    exact b0F fun d T hT=>sw hT h49
   ·refine b0F fun d T hT=> ?_
    refine hT.finT (lp:=[]) (lq:=[.bool false]) (b9.less l1 (b9.here ⟨?_,rfl⟩))
    have e1:B7 y next=[next]:=by unfold B7;rw[if_neg (by omega),if_neg (by omega),if_neg h,if_neg h49];exact c1m _
    have e2:a1m y=false:=by unfold a1m;simp;omega
    rw[e1,e2];rfl
 have c21:∀ {b:Bool},b=decide (y.op=51∨y.op=52)→M7 E w0 (b9 E Q) (.int .i64 next) (.ptr k 0) (.int .u8 y.op) (.bool b) B:=by
  intro b hb
  subst hb
  refine a4H ?_
  unfold a1R
  rw[cdI]
  refine⟨fun h=> ?_,fun h=> ?_⟩
  ·refine b9.less l1 (b9.weak (d':= .tup [iD [], .bool true]) (Wk.tup ⟨Wk.nil 1,Wk.refl _,trivial⟩) (b9.here ⟨?_,rfl⟩))
   have e1:B7 y next=[]:=by unfold B7;rw[if_pos h]
   have e2:a1m y=true:=by unfold a1m;rcases h with h|h<;>simp[h]
   rw[e1,e2]
  ·rw[a7W,oD,cdI]
   refine⟨fun h46=> ?_,fun h46=> ?_⟩
   ·simp only[ofP,Nat.zero_add,oD,g1 hk]
    refine b0F fun d T hT=> ?_
    refine hT.finT (lp:=[]) (lq:=[.bool true]) (b9.less l1 (b9.here ⟨?_,rfl⟩))
    have e1:B7 y next=[y.a]:=by unfold B7;rw[if_neg h,if_pos h46]
    have e2:a1m y=true:=by unfold a1m;simp[h46]
    rw[e1,e2];rfl
   ·rw[a7W,oD,cdI]
    refine⟨fun h47=>c41 (by omega) (by rw[decide_eq_true h47,decide_eq_true (.inl h47)]),fun h47=> ?_⟩
    rw[a7W,oD]
    exact c41 (by omega) (by by_cases h48:y.op=48<;>simp[h47,h48])
 simp only[ofP,Nat.zero_add,oD,g0 hk,a7W]
 rw[cdI]
 refine⟨fun h51=>c21 (by rw[decide_eq_true h51,decide_eq_true (.inl h51)]),fun h51=>c21 (by by_cases h52:y.op=52<;>simp[h51,h52])⟩
end
end Go.Proofs.Ytdkidgkiplcggaa.d
end
section
namespace Go.Am
section
section
variable{P:Program}{E:c9}{w0:g9}
theorem b7b(k:Nat)(o:s7):∀(ds:List D) (i:Nat) (v:D),W1 k o (ds.set i v)=(W1 k o ds).set i (frz k o v)
 | [],i,v=>by simp[W1]
 |d::ds,0,v=>by simp[W1]
 |d::ds,i+1,v=>by simp only[List.set_cons_succ,W1,b7b k o ds i v]
theorem b6k(k:Nat)(o:s7):∀n:Nat,W1 k o (List.replicate n .any)=List.replicate n .any
 |0=>rfl
 |n+1=>by simp only[List.replicate_succ,W1,b6k k o n];simp[frz]
theorem a9Y(k:Nat)(o:s7):∀(T:List D) (L:List Nat) (vs:List D),W1 k o (U8 T L vs)=U8 (W1 k o T) L (W1 k o vs)
 |T,i::L,v::vs=>by simp only[U8,W1];rw[a9Y k o _ L vs,b7b]
 |T,[],[]=>by simp[U8,W1]
 |T,[],_::_=>by simp[U8,W1]
 |T,_::_,[]=>by simp[U8,W1]
theorem b4N{c:Code}{n:Nat}{L:List Nat}{vs:List D}{S:a8}{Q:j0→List D→a8→Prop}{k:Nat}{o:s7}(hk:S k=some o)(hc:b7y o)(h:d6 P E w0 c (f0 n L (W1 k o vs)) (S.erase k) Q):d6 P E w0 c (f0 n L vs) S Q:=fun R H avs F hC hT=>by
 obtain⟨h1,h2⟩:=hC.freeze hk hc
 have e:W1 k o (f0 n L vs)=f0 n L (W1 k o vs):=by unfold f0;rw[a9Y,b6k]
 have hT':=a5q hC hk h2 (fun _=>if_pos rfl) hT
 rw[e]at hT'
 have:=(C0.at_le h2 (h _ H avs F h1 hT')).mono fun ex T' H' hq=>a1w.le h2 hq
 rw[j5]at this
 show C0 P E (w0.at E R) c avs H (c1j E R (f0 n L vs).length Q)
 rw[j5]
 exact this
end
end
section
def b0q(t:Int×Int×Nat):List D:=[.int .i64 t.1, .int .i64 t.2.1, .int .i64 (t.2.2:Int)]
structure H8 (S:a8) (k:Nat) (ts:List (Int×Int×Nat)):Prop where
 has:∃acs,S k=some (b0h (ts.map b0q) acs)
 keys:(ts.map (·.1)).Nodup
 stamps:(ts.map (·.2.2)).Nodup
theorem a5J(rows:List (List D))(acs:List AV):a4c (b0h rows acs)=some rows:=by
 unfold a4c b0h
 rw[if_pos rfl]
theorem a1r(q:Int):∀(ts:List (Int×Int×Nat)) (i:Nat),(q ∉ ts.map (·.1)∧a6h (.int .i64 q) (ts.map b0q) i=some none)∨
  ∃j t,ts[j]? =some t∧t.1=q∧a6h (.int .i64 q) (ts.map b0q) i=some (some (i+j, .int .i64 t.2.1, .int .i64 (t.2.2:Int)))
 | [],i=> .inl ⟨by simp,rfl⟩
 |t::ts,i=>by
  simp only[List.map_cons,b0q,a6h,b5E,if_true]
  by_cases h:q=t.1
  ·refine .inr ⟨0,t,rfl,h.symm, ?_⟩
   rw[show(q==t.1)=true by simpa using h]
   rfl
  ·rw[show(q==t.1)=false by simpa using h]
   rcases a1r q ts (i+1) with ⟨h1,h2⟩|⟨j,t',h1,h2,h3⟩
   ·exact .inl ⟨by simpa [h]using h1,h2⟩
   ·exact .inr ⟨j+1,t',h1,h2,by rw[h3,Nat.add_assoc,Nat.add_comm 1 j]⟩
theorem H8.of{S S':a8}{k:Nat}{ts:List (Int×Int×Nat)}(h:H8 S k ts)(e:S' k=S k):H8 S' k ts:=⟨by rw[e];exact h.has,h.keys,h.stamps⟩
theorem H8.there{S:a8}{k:Nat}{ts:List (Int×Int×Nat)}(h:H8 S k ts):S k≠none:=by obtain⟨a,e⟩:=h.has;rw[e];simp
theorem H8.put{S:a8}{k:Nat}{ts:List (Int×Int×Nat)}(h:H8 S k ts){q v:Int}{K:D→a8→Prop}
  (hK:∀ts' S',(∀n,n∈ts'.map (·.1)↔n=q∨n∈ts.map (·.1))→H8 S' k ts'→(∀j,j≠k→S' j=S j)→K b6 S'):b0u S 0 (.mp k) (.int .i64 q) (.int .i64 v) K:=by
 obtain⟨acs,hS⟩:=h.has
 simp only[b0u,a7G,hS,a5J,beq_self_eq_true,if_true]
 rcases a1r q ts 0 with ⟨h1,h2⟩|⟨j,t,h1,h2,h3⟩
 ·rw[h2]
  intro n acs' hn
  refine hK (ts++[(q,v,n)]) _ (fun m=>by simp[or_comm]) ⟨⟨acs',by rw[a8.set_same,List.map_append];rfl⟩, ?_, ?_⟩ fun j hj=>a8.set_ne _ _ _ hj
  ·rw[List.map_append,List.nodup_append]
   exact⟨h.keys,by simp,fun a ha b hb=>by simp at hb;subst hb;exact fun e=>h1 (by rw[←e];exact ha)⟩
  ·rw[List.map_append,List.nodup_append]
   refine⟨h.stamps,by simp,fun a ha b hb=> ?_⟩
   simp at hb
   subst hb
   rintro rfl
   obtain⟨t,ht,e⟩:=List.mem_map.1 ha
   exact hn (b0q t) (List.mem_map.2 ⟨t,ht,rfl⟩) (by simp[b0q,e])
 ·rw[h3]
  intro acs'
  have hj:j<ts.length:=(List.getElem?_eq_some_iff.1 h1).1
  have e0:∀ {α:Type} (f:Int×Int×Nat→α),f (q,v,t.2.2)=f t→(ts.set j (q,v,t.2.2)).map f=ts.map f:=fun f hf=>by
   rw[List.map_set,hf]
   apply List.ext_getElem?
   intro i
   rw[List.getElem?_set]
   split
   ·rename_i e
    subst e
    rw[List.length_map,if_pos hj,List.getElem?_map,h1];rfl
   ·rfl
  have k1:=e0 (·.1) h2.symm
  have k2:=e0 (·.2.2) rfl
  refine hK (ts.set j (q,v,t.2.2)) _ (fun n=> ?_) ⟨⟨acs', ?_⟩,by rw[k1];exact h.keys,by rw[k2];exact h.stamps⟩ fun j hj=>a8.set_ne _ _ _ hj
  ·rw[k1]
   constructor
   ·exact .inr
   ·rintro(rfl|h)
    ·exact List.mem_map.2 ⟨t,List.mem_of_getElem? h1,h2⟩
    ·exact h
  ·rw[a8.set_same,List.map_set,Nat.zero_add];rfl
theorem H8.look{S:a8}{k:Nat}{ts:List (Int×Int×Nat)}(h:H8 S k ts)(q:Int):∃v:Int,a4P S 0 (.int .i64 0) false (.mp k) (.int .i64 q)=some (.int .i64 v):=by
 obtain⟨acs,hS⟩:=h.has
 simp only[a4P,a7G,b8g,hS,a5J,beq_self_eq_true,if_true]
 rcases a1r q ts 0 with ⟨h1,h2⟩|⟨j,t,h1,h2,h3⟩
 ·rw[h2];exact⟨0,rfl⟩
 ·rw[h3];exact⟨t.2.1,rfl⟩
theorem H8.new{S:a8}{K:D→a8→Prop}(h:∀k S',S k=none→H8 S' k []→(∀j,j≠k→S' j=S j)→K (.mp k) S'):b1h S K:=fun k acs hk=>h k _ hk ⟨⟨acs,a8.set_same _ _ _⟩,by simp,by simp⟩ fun j hj=>a8.set_ne _ _ _ hj
theorem a5B{α β:Type}{f:α→β}:∀ {l:List α},(l.map f).Nodup→∀ {a b:α},a∈l→b∈l→f a=f b→a=b
 | [],_,a,b,ha,_,_=>by cases ha
 |x::l,h,a,b,ha,hb,e=>by
  simp only[List.map_cons,List.nodup_cons]at h
  rcases List.mem_cons.1 ha with h1|h1<;>rcases List.mem_cons.1 hb with h2|h2
  ·rw[h1,h2]
  ·exact(h.1 (List.mem_map.2 ⟨b,h2,by rw[←e,h1]⟩)).elim
  ·exact(h.1 (List.mem_map.2 ⟨a,h1,by rw[e,h2]⟩)).elim
  ·exact a5B h.2 h1 h2 e
def a2X(S:a8)(j m:Nat)(dn ts:List (Int×Int×Nat)):Prop:=∃acs,S j=some ⟨b0k,[.mp m]::dn.map (fun t=> .int .i64 (t.2.2:Int))::ts.map b0q,acs⟩
theorem H8.range{S:a8}{k:Nat}{ts:List (Int×Int×Nat)}(h:H8 S k ts){K:D→a8→Prop}(hK:∀j S',S j=none→a2X S' j k [] ts→(∀i,i≠j→i≠k→S' i=S i)→K (.ptr j 0) S'):a6X S (.mp k) K:=by
 obtain⟨acs,hS⟩:=h.has
 simp only[a6X,hS,a5J]
 exact fun j acs' hj=>hK j _ hj ⟨acs',a8.set_same _ _ _⟩ fun i h1 h2=>by rw[a8.set_ne _ _ _ h1,a8.erase_ne _ _ h2]
theorem b9w(m:Nat)(sr:List D)(rows:List (List D))(acs:List AV):b3B ⟨b0k,[.mp m]::sr::rows,acs⟩=some (m,sr,rows):=by
 unfold b3B
 rw[if_pos rfl]
theorem a2X.next{S:a8}{j m:Nat}{dn ts:List (Int×Int×Nat)}(h:a2X S j m dn ts)(hst:(ts.map (·.2.2)).Nodup)(hsub:∀t∈dn,t∈ts){K:D→a8→Prop}
  (h1:∀t∈ts,t ∉ dn→∀S',a2X S' j m (dn++[t]) ts→(∀i,i≠j→S' i=S i)→K (.tup [.bool true, .int .i64 t.1, .int .i64 t.2.1]) S') (h2:(∀t∈ts,t∈dn)→K (.tup [.bool false]) S):b3w S (.ptr j 0) K:=by
 obtain⟨acs,hS⟩:=h
 simp only[b3w,hS,b9w]
 have uniq:∀a∈ts,∀b∈ts,a.2.2=b.2.2→a=b:=fun a ha b hb e=>a5B hst ha hb e
 refine⟨fun key x n hrow hn acs'=> ?_,fun hall=>h2 fun t ht=> ?_⟩
 ·obtain⟨t,ht,e⟩:=List.mem_map.1 hrow
  simp only[b0q,List.cons.injEq,and_true]at e
  obtain⟨rfl,rfl,rfl⟩:=e
  refine h1 t ht (fun hd=>hn (List.mem_map.2 ⟨t,hd,rfl⟩)) _ ⟨acs', ?_⟩ fun i hi=>a8.set_ne _ _ _ hi
  rw[a8.set_same,List.map_append];rfl
 ·have:=hall _ _ _ (List.mem_map.2 ⟨t,ht,rfl⟩)
  obtain⟨t',ht',e⟩:=List.mem_map.1 this
  simp only[D.int.injEq,true_and,Int.natCast_inj]at e
  rw[uniq t ht t' (hsub t' ht') e.symm]
  exact ht'
theorem a2X.entry{S:a8}{j m:Nat}{dn ts:List (Int×Int×Nat)}{t:Int×Int×Nat}(h:a2X S j m (dn++[t]) ts)(ht:t∈ts){K:D→a8→Prop}(hK:K (.tup [.int .i64 t.1, .int .i64 t.2.1]) S):a8U S (.ptr j 0) K:=by
 obtain⟨acs,hS⟩:=h
 simp only[a8U,hS,b9w]
 exact⟨_,_,_,List.mem_map.2 ⟨t,ht,rfl⟩,by simp,hK⟩
theorem a2X.of{S S':a8}{j m:Nat}{dn ts:List (Int×Int×Nat)}(h:a2X S j m dn ts)(e:S' j=S j):a2X S' j m dn ts:=by
 obtain⟨acs,hS⟩:=h
 exact⟨acs,by rw[e];exact hS⟩
theorem a2X.there{S:a8}{j m:Nat}{dn ts:List (Int×Int×Nat)}(h:a2X S j m dn ts):S j≠none:=by obtain⟨a,e⟩:=h;rw[e];simp
end
end Go.Am
end
