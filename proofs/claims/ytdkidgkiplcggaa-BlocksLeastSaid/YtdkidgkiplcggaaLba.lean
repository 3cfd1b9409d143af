/-
  BlocksLeastSaid: part Lba of its proof.
-/
import Derived.Test.YtdkidgkiplcggaaRows
import Derived.Test.YtdkidgkiplcggaaLar
import Derived.KernelRfl
import Derived.Test.YtdkidgkiplcggaaLaz
set_option linter.unusedVariables false
set_option linter.unusedSimpArgs false
set_option maxRecDepth 100000
section
open Go.Proofs Go Go.Am
namespace Go.Proofs.Ytdkidgkiplcggaa.d
def g9:List (Nat×List Nat):=[(8,[0,3]),(24,[0,4,5]),(38,[0,4,6]),(44,[0,4,6,7]),(54,[0,4,8]),(62,[0,4,8,9,10])]
def g8:List (Nat×List Nat):=[]
def i4:List (Nat×Arr):=[]
noncomputable def L8:Code:=(i6 [1,1,1,1,1,1,1,0,1,0,0,1,0,0,1,0,0] (Try.f7.body.getD .skip))
def M1(E:d6)(w0:i9)(N2:D→D→D→b4→Prop)(Q:D→b4→Prop):j5→List D→b4→Prop:=
 (q9 6 (q9 5 (W1 Try.prog E w0 g9 g8 i4 (i6 [1,1,1,1,1,1,1,0,1,0,0,1,1] (Try.f7.body.getD .skip)) (B5 (fun T S=>N2 (T.getD 0 b6) (T.getD 4 b6) (T.getD 6 b6) S) (q9 4 (W1 Try.prog E w0 g9 g8 i4 (i6 [1,1,1,1,1,1,1,1] (Try.f7.body.getD .skip)) (K3 Try.prog Try.f7 Q)))))))
def L0(E:d6)(w0:i9)(N2:D→D→D→b4→Prop)(N3:D→D→D→D→b4→Prop)(Q:D→b4→Prop)(x0 x4 x6 x7:D)(S:b4):Prop:=
 a8 (l7 3 x0 x6) fun v55=>
 a8 (u7 2 v55) fun v56=>
 a8 (c8 S v56) fun v57=>
 a8 (m8 v57) fun v58=>
 a8 (d4 .lss x7 v58) fun v59=>
 f0 v59
 (a8 (l7 3 x0 x6) fun v60=>
 a8 (u7 0 v60) fun v61=>
 a8 (c8 S v61) fun v62=>
 s5 Try.prog E w0 y8 [x4,v62] S fun v63 S64=>
 a8 (d5 (b7 v63 true) (some x0)) fun v65=>
 a8 (d5 (b7 v63 true) (some x0)) fun v66=>
 a8 (d5 (b7 v63 true) (some x6)) fun v67=>
 a8 (d5 (b7 v63 true) (l7 3 v66 v67)) fun v68=>
 a8 (d5 (b7 v63 true) (u7 2 v68)) fun v69=>
 a8 (d5 (b7 v63 true) (c8 S64 v69)) fun v70=>
 a8 (d5 (b7 v63 true) (some x7)) fun v71=>
 a8 (d5 (b7 v63 true) (l7 1 v70 v71)) fun v72=>
 a8 (d5 (b7 v63 true) (c8 S64 v72)) fun v73=>
 V9 (b7 v63 true) (fun K=>s5 Try.prog E w0 W7 [v65,v73] S64 K) S64 fun v74 S75=>
 a8 (H9 v63 v74 (.bool false)) fun v76=>
 a8 (d5 (b7 v76 true) (some x4)) fun v77=>
 a8 (d5 (b7 v76 true) (some x0)) fun v78=>
 a8 (d5 (b7 v76 true) (some x6)) fun v79=>
 a8 (d5 (b7 v76 true) (l7 3 v78 v79)) fun v80=>
 a8 (d5 (b7 v76 true) (u7 2 v80)) fun v81=>
 a8 (d5 (b7 v76 true) (c8 S75 v81)) fun v82=>
 a8 (d5 (b7 v76 true) (some x7)) fun v83=>
 a8 (d5 (b7 v76 true) (l7 1 v82 v83)) fun v84=>
 a8 (d5 (b7 v76 true) (c8 S75 v84)) fun v85=>
 V9 (b7 v76 true) (fun K=>s5 Try.prog E w0 y8 [v77,v85] S75 K) S75 fun v86 S87=>
 a8 (d5 (b7 v76 true) (unD .not v86)) fun v88=>
 a8 (H9 v76 v88 (.bool false)) fun v89=>
 f0 v89
 (Q (.bool false) S87)
 (a8 (d4 .add x7 (.int .i64 1)) fun v90=>
 N3 x0 x4 x6 v90 S87))
 (a8 (d4 .add x6 (.int .i64 1)) fun v91=>
 N2 x0 x4 v91 S)
theorem a2Q{E:d6}{w0:i9}{N2:D→D→D→b4→Prop}{N3:D→D→D→D→b4→Prop}{Q:D→b4→Prop}{x0 x4 x6 x7:D}{S:b4}(h:L0 E w0 N2 N3 Q x0 x4 x6 x7 S):
  c9 Try.prog E w0 L8 (d8 172 [0,4,6,7] [x0,x4,x6,x7]) S (B5 (fun T S=>N3 (T.getD 0 b6) (T.getD 4 b6) (T.getD 6 b6) (T.getD 7 b6) S) (M1 E w0 N2 Q)):=d9 g9 g8 i4 mixed (by kernel_rfl) h
theorem a2y{E:d6}{w0:i9}{N2:D→D→D→b4→Prop}{Q:D→b4→Prop}(I:Nat→D→D→D→D→b4→Prop)
  (step:∀n x0 x4 x6 x7 S,I n x0 x4 x6 x7 S→L0 E w0 N2 (fun x0 x4 x6 x7 S=>∃m,m<n∧I m x0 x4 x6 x7 S) Q x0 x4 x6 x7 S)
  {n:Nat} {x0 x4 x6 x7:D} {S:b4} (h:I n x0 x4 x6 x7 S):c9 Try.prog E w0 (.loop L8) (d8 172 [0,4,6,7] [x0,x4,x6,x7]) S (M1 E w0 N2 Q):=
 o4 (k:=172) (n:=n) (I:=fun n T S=>I n (T.getD 0 b6) (T.getD 4 b6) (T.getD 6 b6) (T.getD 7 b6) S) (fun n T S hl hI=>p6 [0,4,6,7] hl (c9.mono (a2Q (step n _ _ _ _ S hI)) fun ex T' S' _ hq=>by cases ex<;>exact hq)) (i5 ..) (Eq.mp (by kernel_rfl) h)
noncomputable def M6:Code:=(i6 [1,1,1,1,1,1,1,1,0,1,0,0,1,0,0,1,0,1,0,0] (Try.f7.body.getD .skip))
def L7(E:d6)(w0:i9)(N4:D→D→D→b4→Prop)(Q:D→b4→Prop):j5→List D→b4→Prop:=
 (q9 10 (W1 Try.prog E w0 g9 g8 i4 (i6 [1,1,1,1,1,1,1,1,0,1,0,0,1,0,0,1,1] (Try.f7.body.getD .skip)) (q9 9 (W1 Try.prog E w0 g9 g8 i4 (i6 [1,1,1,1,1,1,1,1,0,1,0,0,1,1] (Try.f7.body.getD .skip)) (B5 (fun T S=>N4 (T.getD 0 b6) (T.getD 4 b6) (T.getD 8 b6) S) (q9 8 (W1 Try.prog E w0 g9 g8 i4 (i6 [1,1,1,1,1,1,1,1,1] (Try.f7.body.getD .skip)) (K3 Try.prog Try.f7 Q))))))))
def L5(E:d6)(w0:i9)(N4:D→D→D→b4→Prop)(N5:D→D→D→D→D→b4→Prop)(Q:D→b4→Prop)(x0 x4 x8 x9 x10:D)(S:b4):Prop:=
 a8 (m8 x0) fun v100=>
 a8 (d4 .lss x10 v100) fun v101=>
 f0 v101
 (a8 (d5 (b7 x9 false) (some x4)) fun v102=>
 a8 (d5 (b7 x9 false) (some x0)) fun v103=>
 a8 (d5 (b7 x9 false) (some x10)) fun v104=>
 a8 (d5 (b7 x9 false) (l7 3 v103 v104)) fun v105=>
 a8 (d5 (b7 x9 false) (u7 0 v105)) fun v106=>
 a8 (d5 (b7 x9 false) (c8 S v106)) fun v107=>
 V9 (b7 x9 false) (fun K=>s5 Try.prog E w0 y8 [v102,v107] S K) S fun v108 S109=>
 a8 (d5 (b7 x9 false) (some v108)) fun v110=>
 a8 (d5 (b7 v110 true) (some x0)) fun v111=>
 a8 (d5 (b7 v110 true) (some x10)) fun v112=>
 a8 (d5 (b7 v110 true) (l7 3 v111 v112)) fun v113=>
 a8 (d5 (b7 v110 true) (u7 2 v113)) fun v114=>
 a8 (d5 (b7 v110 true) (c8 S109 v114)) fun v115=>
 a8 (d5 (b7 v110 true) (some x4)) fun v116=>
 a8 (d5 (b7 v110 true) (some x8)) fun v117=>
 a8 (d5 (b7 v110 true) (l7 1 v116 v117)) fun v118=>
 a8 (d5 (b7 v110 true) (c8 S109 v118)) fun v119=>
 V9 (b7 v110 true) (fun K=>s5 Try.prog E w0 y8 [v115,v119] S109 K) S109 fun v120 S121=>
 a8 (d5 (b7 x9 false) (H9 v110 v120 (.bool false))) fun v122=>
 a8 (H9 x9 (.bool true) v122) fun v123=>
 a8 (d4 .add x10 (.int .i64 1)) fun v124=>
 N5 x0 x4 x8 v123 v124 S121)
 (a8 (unD .not x9) fun v125=>
 f0 v125
 (Q (.bool false) S)
 (a8 (d4 .add x8 (.int .i64 1)) fun v126=>
 N4 x0 x4 v126 S))
theorem a2u{E:d6}{w0:i9}{N4:D→D→D→b4→Prop}{N5:D→D→D→D→D→b4→Prop}{Q:D→b4→Prop}{x0 x4 x8 x9 x10:D}{S:b4}(h:L5 E w0 N4 N5 Q x0 x4 x8 x9 x10 S):
  c9 Try.prog E w0 M6 (d8 172 [0,4,8,9,10] [x0,x4,x8,x9,x10]) S (B5 (fun T S=>N5 (T.getD 0 b6) (T.getD 4 b6) (T.getD 8 b6) (T.getD 9 b6) (T.getD 10 b6) S) (L7 E w0 N4 Q)):=d9 g9 g8 i4 mixed (by kernel_rfl) h
theorem a2S{E:d6}{w0:i9}{N4:D→D→D→b4→Prop}{Q:D→b4→Prop}(I:Nat→D→D→D→D→D→b4→Prop)
  (step:∀n x0 x4 x8 x9 x10 S,I n x0 x4 x8 x9 x10 S→L5 E w0 N4 (fun x0 x4 x8 x9 x10 S=>∃m,m<n∧I m x0 x4 x8 x9 x10 S) Q x0 x4 x8 x9 x10 S)
  {n:Nat} {x0 x4 x8 x9 x10:D} {S:b4} (h:I n x0 x4 x8 x9 x10 S):c9 Try.prog E w0 (.loop M6) (d8 172 [0,4,8,9,10] [x0,x4,x8,x9,x10]) S (L7 E w0 N4 Q):=
 o4 (k:=172) (n:=n) (I:=fun n T S=>I n (T.getD 0 b6) (T.getD 4 b6) (T.getD 8 b6) (T.getD 9 b6) (T.getD 10 b6) S) (fun n T S hl hI=>p6 [0,4,8,9,10] hl (c9.mono (a2u (step n _ _ _ _ _ S hI)) fun ex T' S' _ hq=>by cases ex<;>exact hq)) (i5 ..) (Eq.mp (by kernel_rfl) h)
noncomputable def E5:Code:=(i6 [1,1,1,1,1,1,1,1,0,1,0,0] (Try.f7.body.getD .skip))
def E8(E:d6)(w0:i9)(Q:D→b4→Prop):j5→List D→b4→Prop:=
 (q9 8 (W1 Try.prog E w0 g9 g8 i4 (i6 [1,1,1,1,1,1,1,1,1] (Try.f7.body.getD .skip)) (K3 Try.prog Try.f7 Q)))
def L6(E:d6)(w0:i9)(N4:D→D→D→b4→Prop)(Q:D→b4→Prop)(x0 x4 x8:D)(S:b4):Prop:=
 a8 (m8 x4) fun v92=>
 a8 (d4 .lss x8 v92) fun v93=>
 f0 v93
 (a8 (l7 1 x4 x8) fun v94=>
 a8 (c8 S v94) fun v95=>
 a8 (l7 3 x0 (.int .i64 0)) fun v96=>
 a8 (u7 0 v96) fun v97=>
 a8 (c8 S v97) fun v98=>
 a8 (d4 .eql v95 v98) fun v99=>
 c9 Try.prog E w0 (.loop M6) (d8 172 [0,4,8,9,10] [x0,x4,x8,v99,(.int .i64 0)]) S (L7 E w0 N4 Q))
 (s5 Try.prog E w0 H4 [] S fun v127 S128=>
 Q v127 S128)
theorem a2P{E:d6}{w0:i9}{N4:D→D→D→b4→Prop}{Q:D→b4→Prop}{x0 x4 x8:D}{S:b4}(h:L6 E w0 N4 Q x0 x4 x8 S):
  c9 Try.prog E w0 E5 (d8 172 [0,4,8] [x0,x4,x8]) S (B5 (fun T S=>N4 (T.getD 0 b6) (T.getD 4 b6) (T.getD 8 b6) S) (E8 E w0 Q)):=d9 g9 g8 i4 mixed (by kernel_rfl) h
theorem a2r{E:d6}{w0:i9}{Q:D→b4→Prop}(I:Nat→D→D→D→b4→Prop)
  (step:∀n x0 x4 x8 S,I n x0 x4 x8 S→L6 E w0 (fun x0 x4 x8 S=>∃m,m<n∧I m x0 x4 x8 S) Q x0 x4 x8 S)
  {n:Nat} {x0 x4 x8:D} {S:b4} (h:I n x0 x4 x8 S):c9 Try.prog E w0 (.loop E5) (d8 172 [0,4,8] [x0,x4,x8]) S (E8 E w0 Q):=
 o4 (k:=172) (n:=n) (I:=fun n T S=>I n (T.getD 0 b6) (T.getD 4 b6) (T.getD 8 b6) S) (fun n T S hl hI=>p6 [0,4,8] hl (c9.mono (a2P (step n _ _ _ S hI)) fun ex T' S' _ hq=>by cases ex<;>exact hq)) (i5 ..) (Eq.mp (by kernel_rfl) h)
noncomputable def E4:Code:=(i6 [1,1,1,1,1,1,1,0,1,0,0] (Try.f7.body.getD .skip))
def E7(E:d6)(w0:i9)(Q:D→b4→Prop):j5→List D→b4→Prop:=
 (q9 4 (W1 Try.prog E w0 g9 g8 i4 (i6 [1,1,1,1,1,1,1,1] (Try.f7.body.getD .skip)) (K3 Try.prog Try.f7 Q)))
def L1(E:d6)(w0:i9)(N2:D→D→D→b4→Prop)(Q:D→b4→Prop)(x0 x4 x6:D)(S:b4):Prop:=
 a8 (m8 x0) fun v53=>
 a8 (d4 .lss x6 v53) fun v54=>
 f0 v54
 (c9 Try.prog E w0 (.loop L8) (d8 172 [0,4,6,7] [x0,x4,x6,(.int .i64 0)]) S (M1 E w0 N2 Q))
 (c9 Try.prog E w0 (.loop E5) (d8 172 [0,4,8] [x0,x4,(.int .i64 0)]) S (E8 E w0 Q))
theorem a2v{E:d6}{w0:i9}{N2:D→D→D→b4→Prop}{Q:D→b4→Prop}{x0 x4 x6:D}{S:b4}(h:L1 E w0 N2 Q x0 x4 x6 S):
  c9 Try.prog E w0 E4 (d8 172 [0,4,6] [x0,x4,x6]) S (B5 (fun T S=>N2 (T.getD 0 b6) (T.getD 4 b6) (T.getD 6 b6) S) (E7 E w0 Q)):=d9 g9 g8 i4 mixed (by kernel_rfl) h
theorem a2M{E:d6}{w0:i9}{Q:D→b4→Prop}(I:Nat→D→D→D→b4→Prop)
  (step:∀n x0 x4 x6 S,I n x0 x4 x6 S→L1 E w0 (fun x0 x4 x6 S=>∃m,m<n∧I m x0 x4 x6 S) Q x0 x4 x6 S)
  {n:Nat} {x0 x4 x6:D} {S:b4} (h:I n x0 x4 x6 S):c9 Try.prog E w0 (.loop E4) (d8 172 [0,4,6] [x0,x4,x6]) S (E7 E w0 Q):=
 o4 (k:=172) (n:=n) (I:=fun n T S=>I n (T.getD 0 b6) (T.getD 4 b6) (T.getD 6 b6) S) (fun n T S hl hI=>p6 [0,4,6] hl (c9.mono (a2v (step n _ _ _ S hI)) fun ex T' S' _ hq=>by cases ex<;>exact hq)) (i5 ..) (Eq.mp (by kernel_rfl) h)
noncomputable def E9:Code:=(i6 [1,1,1,1,1,0,1,0,0] (Try.f7.body.getD .skip))
def E6(E:d6)(w0:i9)(Q:D→b4→Prop):j5→List D→b4→Prop:=
 (q9 2 (W1 Try.prog E w0 g9 g8 i4 (i6 [1,1,1,1,1,1] (Try.f7.body.getD .skip)) (K3 Try.prog Try.f7 Q)))
def M8(E:d6)(w0:i9)(N1:D→D→D→b4→Prop)(Q:D→b4→Prop)(x0 x4 x5:D)(S:b4):Prop:=
 a8 (m8 x4) fun v38=>
 a8 (d4 .lss x5 v38) fun v39=>
 f0 v39
 (a8 (l7 1 x4 x5) fun v40=>
 a8 (c8 S v40) fun v41=>
 a8 (d4 .sub x5 (.int .i64 1)) fun v42=>
 a8 (l7 1 x4 v42) fun v43=>
 a8 (c8 S v43) fun v44=>
 a8 (d4 .leq v41 v44) fun v45=>
 f0 v45
 (Q (.bool false) S)
 (a8 (d4 .add x5 (.int .i64 1)) fun v46=>
 N1 x0 x4 v46 S))
 (a8 (l7 3 x0 (.int .i64 0)) fun v47=>
 a8 (u7 0 v47) fun v48=>
 a8 (c8 S v48) fun v49=>
 s5 Try.prog E w0 y8 [x4,v49] S fun v50 S51=>
 a8 (unD .not v50) fun v52=>
 f0 v52
 (Q (.bool false) S51)
 (c9 Try.prog E w0 (.loop E4) (d8 172 [0,4,6] [x0,x4,(.int .i64 0)]) S51 (E7 E w0 Q)))
theorem a2t{E:d6}{w0:i9}{N1:D→D→D→b4→Prop}{Q:D→b4→Prop}{x0 x4 x5:D}{S:b4}(h:M8 E w0 N1 Q x0 x4 x5 S):
  c9 Try.prog E w0 E9 (d8 172 [0,4,5] [x0,x4,x5]) S (B5 (fun T S=>N1 (T.getD 0 b6) (T.getD 4 b6) (T.getD 5 b6) S) (E6 E w0 Q)):=d9 g9 g8 i4 mixed (by kernel_rfl) h
theorem a2C{E:d6}{w0:i9}{Q:D→b4→Prop}(I:Nat→D→D→D→b4→Prop)
  (step:∀n x0 x4 x5 S,I n x0 x4 x5 S→M8 E w0 (fun x0 x4 x5 S=>∃m,m<n∧I m x0 x4 x5 S) Q x0 x4 x5 S)
  {n:Nat} {x0 x4 x5:D} {S:b4} (h:I n x0 x4 x5 S):c9 Try.prog E w0 (.loop E9) (d8 172 [0,4,5] [x0,x4,x5]) S (E6 E w0 Q):=
 o4 (k:=172) (n:=n) (I:=fun n T S=>I n (T.getD 0 b6) (T.getD 4 b6) (T.getD 5 b6) S) (fun n T S hl hI=>p6 [0,4,5] hl (c9.mono (a2t (step n _ _ _ S hI)) fun ex T' S' _ hq=>by cases ex<;>exact hq)) (i5 ..) (Eq.mp (by kernel_rfl) h)
noncomputable def M2:Code:=(i6 [1,1,0,1,0,0] (Try.f7.body.getD .skip))
def M4(E:d6)(w0:i9)(Q:D→b4→Prop):j5→List D→b4→Prop:=
 (q9 0 (W1 Try.prog E w0 g9 g8 i4 (i6 [1,1,1] (Try.f7.body.getD .skip)) (K3 Try.prog Try.f7 Q)))
def M3(E:d6)(w0:i9)(N0:D→D→b4→Prop)(Q:D→b4→Prop)(x0 x3:D)(S:b4):Prop:=
 a8 (m8 x0) fun v4=>
 a8 (d4 .lss x3 v4) fun v5=>
 f0 v5
 (a8 (l7 3 x0 x3) fun v6=>
 a8 (u7 2 v6) fun v7=>
 a8 (c8 S v7) fun v8=>
 a8 (m8 v8) fun v9=>
 a8 (d4 .gtr v9 (.int .i64 60)) fun v10=>
 a8 (d5 (b7 v10 false) (some x3)) fun v11=>
 a8 (d5 (b7 v10 false) (d4 .gtr v11 (.int .i64 0))) fun v12=>
 a8 (d5 (b7 v10 false) (some v12)) fun v13=>
 a8 (d5 (b7 v13 true) (some x0)) fun v14=>
 a8 (d5 (b7 v13 true) (some x3)) fun v15=>
 a8 (d5 (b7 v13 true) (V6 3 v14 none (some v15) none)) fun v16=>
 a8 (d5 (b7 v13 true) (some x0)) fun v17=>
 a8 (d5 (b7 v13 true) (some x3)) fun v18=>
 a8 (d5 (b7 v13 true) (l7 3 v17 v18)) fun v19=>
 a8 (d5 (b7 v13 true) (u7 0 v19)) fun v20=>
 a8 (d5 (b7 v13 true) (c8 S v20)) fun v21=>
 V9 (b7 v13 true) (fun K=>s5 Try.prog E w0 W7 [v16,v21] S K) S fun v22 S23=>
 a8 (d5 (b7 v10 false) (H9 v13 v22 (.bool false))) fun v24=>
 a8 (H9 v10 (.bool true) v24) fun v25=>
 f0 v25
 (s5 Try.prog E w0 H4 [] S23 fun v26 S27=>
 Q v26 S27)
 (a8 (d4 .add x3 (.int .i64 1)) fun v28=>
 N0 x0 v28 S23))
 (s5 Try.prog E w0 I1 [x0] S fun v29 S30=>
 a8 (m8 x0) fun v31=>
 a8 (d4 .eql v31 (.int .i64 0)) fun v32=>
 f0 v32
 (a8 (m8 v29) fun v33=>
 a8 (d4 .eql v33 (.int .i64 0)) fun v34=>
 V9 (b7 v34 true) (fun K=>s5 Try.prog E w0 H4 [] S30 K) S30 fun v35 S36=>
 a8 (H9 v34 v35 (.bool false)) fun v37=>
 Q v37 S36)
 (c9 Try.prog E w0 (.loop E9) (d8 172 [0,4,5] [x0,v29,(.int .i64 1)]) S30 (E6 E w0 Q)))
theorem a2A{E:d6}{w0:i9}{N0:D→D→b4→Prop}{Q:D→b4→Prop}{x0 x3:D}{S:b4}(h:M3 E w0 N0 Q x0 x3 S):
  c9 Try.prog E w0 M2 (d8 172 [0,3] [x0,x3]) S (B5 (fun T S=>N0 (T.getD 0 b6) (T.getD 3 b6) S) (M4 E w0 Q)):=d9 g9 g8 i4 mixed (by kernel_rfl) h
theorem a2B{E:d6}{w0:i9}{Q:D→b4→Prop}(I:Nat→D→D→b4→Prop)
  (step:∀n x0 x3 S,I n x0 x3 S→M3 E w0 (fun x0 x3 S=>∃m,m<n∧I m x0 x3 S) Q x0 x3 S)
  {n:Nat} {x0 x3:D} {S:b4} (h:I n x0 x3 S):c9 Try.prog E w0 (.loop M2) (d8 172 [0,3] [x0,x3]) S (M4 E w0 Q):=
 o4 (k:=172) (n:=n) (I:=fun n T S=>I n (T.getD 0 b6) (T.getD 3 b6) S) (fun n T S hl hI=>p6 [0,3] hl (c9.mono (a2A (step n _ _ S hI)) fun ex T' S' _ hq=>by cases ex<;>exact hq)) (i5 ..) (Eq.mp (by kernel_rfl) h)
def a0N(E:d6)(w0:i9)(Q:D→b4→Prop)(a0:D)(S:b4):Prop:=
 a8 (m8 a0) fun v0=>
 a8 (d4 .gtr v0 (.int .i64 60)) fun v1=>
 f0 v1
 (s5 Try.prog E w0 H4 [] S fun v2 S3=>
 Q v2 S3)
 (c9 Try.prog E w0 (.loop M2) (d8 172 [0,3] [a0,(.int .i64 0)]) S (M4 E w0 Q))
theorem a3I{E:d6}{w0:i9}{Q:D→b4→Prop}{a0:D}{S:b4}(h:a0N E w0 (b9 E Q) a0 S):s5 Try.prog E w0 a0M [a0] S Q:=
 q8 g9 g8 i4 (fn:=Try.f7) (c:=Try.f7.body.getD .skip) mixed Try.func7 (by kernel_rfl) (by kernel_rfl) h
def b1p:List (Nat×List Nat):=[]
def b0U:List (Nat×List Nat):=[]
def b1i:List (Nat×Arr):=[]
def a6v(E:d6)(w0:i9)(Q:D→b4→Prop)(S:b4):Prop:=
 L2 S 1 (y9 1 (List.replicate 3 [(.int .u8 0)]) [(0,(.int .u8 52)),(1,(.int .u8 1)),(2,(.int .u8 51))]) 3 fun v0 S1=>
 s5 Try.prog E w0 a2l [v0] S1 fun v2 S3=>
 a8 (s6 v2 0) fun v4=>
 a8 (s6 v2 1) fun v5=>
 a8 (d4 .eql v5 (.int .i64 0)) fun v6=>
 a8 (d5 (b7 v6 true) (some v4)) fun v7=>
 a8 (d5 (b7 v6 true) (m8 v7)) fun v8=>
 a8 (d5 (b7 v6 true) (d4 .eql v8 (.int .i64 2))) fun v9=>
 a8 (H9 v6 v9 (.bool false)) fun v10=>
 a8 (d5 (b7 v10 true) (some v4)) fun v11=>
 a8 (d5 (b7 v10 true) (l7 3 v11 (.int .i64 0))) fun v12=>
 a8 (d5 (b7 v10 true) (u7 0 v12)) fun v13=>
 a8 (d5 (b7 v10 true) (c8 S3 v13)) fun v14=>
 a8 (d5 (b7 v10 true) (d4 .eql v14 (.int .i64 0))) fun v15=>
 a8 (H9 v10 v15 (.bool false)) fun v16=>
 a8 (d5 (b7 v16 true) (some v4)) fun v17=>
 a8 (d5 (b7 v16 true) (l7 3 v17 (.int .i64 0))) fun v18=>
 a8 (d5 (b7 v16 true) (u7 1 v18)) fun v19=>
 a8 (d5 (b7 v16 true) (c8 S3 v19)) fun v20=>
 a8 (d5 (b7 v16 true) (d4 .eql v20 (.int .i64 2))) fun v21=>
 a8 (H9 v16 v21 (.bool false)) fun v22=>
 a8 (d5 (b7 v22 true) (some v4)) fun v23=>
 a8 (d5 (b7 v22 true) (l7 3 v23 (.int .i64 1))) fun v24=>
 a8 (d5 (b7 v22 true) (u7 0 v24)) fun v25=>
 a8 (d5 (b7 v22 true) (c8 S3 v25)) fun v26=>
 a8 (d5 (b7 v22 true) (d4 .eql v26 (.int .i64 2))) fun v27=>
 a8 (H9 v22 v27 (.bool false)) fun v28=>
 a8 (d5 (b7 v28 true) (some v4)) fun v29=>
 a8 (d5 (b7 v28 true) (l7 3 v29 (.int .i64 1))) fun v30=>
 a8 (d5 (b7 v28 true) (u7 1 v30)) fun v31=>
 a8 (d5 (b7 v28 true) (c8 S3 v31)) fun v32=>
 a8 (d5 (b7 v28 true) (d4 .eql v32 (.int .i64 3))) fun v33=>
 a8 (H9 v28 v33 (.bool false)) fun v34=>
 a8 (d5 (b7 v34 true) (some v4)) fun v35=>
 a8 (d5 (b7 v34 true) (l7 3 v35 (.int .i64 0))) fun v36=>
 a8 (d5 (b7 v34 true) (u7 2 v36)) fun v37=>
 a8 (d5 (b7 v34 true) (c8 S3 v37)) fun v38=>
 a8 (d5 (b7 v34 true) (m8 v38)) fun v39=>
 a8 (d5 (b7 v34 true) (d4 .eql v39 (.int .i64 0))) fun v40=>
 a8 (H9 v34 v40 (.bool false)) fun v41=>
 a8 (d5 (b7 v41 true) (some v4)) fun v42=>
 V9 (b7 v41 true) (fun K=>s5 Try.prog E w0 I1 [v42] S3 K) S3 fun v43 S44=>
 V9 (b7 v41 true) (fun K=>L2 S44 1 (y9 1 (List.replicate 1 [(.int .i64 0)]) [(0,(.int .i64 0))]) 1 K) S44 fun v45 S46=>
 V9 (b7 v41 true) (fun K=>s5 Try.prog E w0 X6 [v43,v45] S46 K) S46 fun v47 S48=>
 a8 (H9 v41 v47 (.bool false)) fun v49=>
 Q v49 S48
theorem a9A{E:d6}{w0:i9}{Q:D→b4→Prop}{S:b4}(h:a6v E w0 (b9 E Q) S):s5 Try.prog E w0 H4 [] S Q:=
 q8 b1p b0U b1i (fn:=Try.f11) (c:=Try.f11.body.getD .skip) mixed Try.func11 (by kernel_rfl) (by kernel_rfl) h
def a3A:List (Nat×List Nat):=[(4,[0,1,5])]
def a3R:List (Nat×List Nat):=[]
def a3B:List (Nat×Arr):=[]
noncomputable def a2H:Code:=(i6 [1,0,1,0,0] (Try.f24.body.getD .skip))
def a2N(E:d6)(w0:i9)(Q:D→b4→Prop):j5→List D→b4→Prop:=
 (q9 0 (W1 Try.prog E w0 a3A a3R a3B (i6 [1,1] (Try.f24.body.getD .skip)) (K3 Try.prog Try.f24 Q)))
def a2L(E:d6)(w0:i9)(N0:D→D→D→b4→Prop)(Q:D→b4→Prop)(x0 x1 x5:D)(S:b4):Prop:=
 a8 (m8 x0) fun v0=>
 a8 (d4 .lss x5 v0) fun v1=>
 f0 v1
 (a8 (l7 3 x0 x5) fun v2=>
 a8 (u7 0 v2) fun v3=>
 a8 (c8 S v3) fun v4=>
 a8 (d4 .eql v4 x1) fun v5=>
 f0 v5
 (Q (.bool true) S)
 (a8 (d4 .add x5 (.int .i64 1)) fun v6=>
 N0 x0 x1 v6 S))
 (Q (.bool false) S)
theorem a8A{E:d6}{w0:i9}{N0:D→D→D→b4→Prop}{Q:D→b4→Prop}{x0 x1 x5:D}{S:b4}(h:a2L E w0 N0 Q x0 x1 x5 S):
  c9 Try.prog E w0 a2H (d8 19 [0,1,5] [x0,x1,x5]) S (B5 (fun T S=>N0 (T.getD 0 b6) (T.getD 1 b6) (T.getD 5 b6) S) (a2N E w0 Q)):=d9 a3A a3R a3B mixed (by kernel_rfl) h
theorem a9b{E:d6}{w0:i9}{Q:D→b4→Prop}(I:Nat→D→D→D→b4→Prop)
  (step:∀n x0 x1 x5 S,I n x0 x1 x5 S→a2L E w0 (fun x0 x1 x5 S=>∃m,m<n∧I m x0 x1 x5 S) Q x0 x1 x5 S)
  {n:Nat} {x0 x1 x5:D} {S:b4} (h:I n x0 x1 x5 S):c9 Try.prog E w0 (.loop a2H) (d8 19 [0,1,5] [x0,x1,x5]) S (a2N E w0 Q):=
 o4 (k:=19) (n:=n) (I:=fun n T S=>I n (T.getD 0 b6) (T.getD 1 b6) (T.getD 5 b6) S) (fun n T S hl hI=>p6 [0,1,5] hl (c9.mono (a8A (step n _ _ _ S hI)) fun ex T' S' _ hq=>by cases ex<;>exact hq)) (i5 ..) (Eq.mp (by kernel_rfl) h)
def a9Y(E:d6)(w0:i9)(Q:D→b4→Prop)(a0 a1:D)(S:b4):Prop:=
 c9 Try.prog E w0 (.loop a2H) (d8 19 [0,1,5] [a0,a1,(.int .i64 0)]) S (a2N E w0 Q)
theorem b0Q{E:d6}{w0:i9}{Q:D→b4→Prop}{a0 a1:D}{S:b4}(h:a9Y E w0 (b9 E Q) a0 a1 S):s5 Try.prog E w0 W7 [a0,a1] S Q:=
 q8 a3A a3R a3B (fn:=Try.f24) (c:=Try.f24.body.getD .skip) mixed Try.func24 (by kernel_rfl) (by kernel_rfl) h
def a1s:List (Nat×List Nat):=[(4,[0,1,5])]
def a1l:List (Nat×List Nat):=[]
def a1J:List (Nat×Arr):=[]
noncomputable def a0L:Code:=(i6 [1,0,1,0,0] (Try.f26.body.getD .skip))
def a0E(E:d6)(w0:i9)(Q:D→b4→Prop):j5→List D→b4→Prop:=
 (q9 0 (W1 Try.prog E w0 a1s a1l a1J (i6 [1,1] (Try.f26.body.getD .skip)) (K3 Try.prog Try.f26 Q)))
def a0G(E:d6)(w0:i9)(N0:D→D→D→b4→Prop)(Q:D→b4→Prop)(x0 x1 x5:D)(S:b4):Prop:=
 a8 (m8 x0) fun v0=>
 a8 (d4 .lss x5 v0) fun v1=>
 f0 v1
 (a8 (l7 1 x0 x5) fun v2=>
 a8 (c8 S v2) fun v3=>
 a8 (d4 .eql v3 x1) fun v4=>
 f0 v4
 (Q (.bool true) S)
 (a8 (d4 .add x5 (.int .i64 1)) fun v5=>
 N0 x0 x1 v5 S))
 (Q (.bool false) S)
theorem a6W{E:d6}{w0:i9}{N0:D→D→D→b4→Prop}{Q:D→b4→Prop}{x0 x1 x5:D}{S:b4}(h:a0G E w0 N0 Q x0 x1 x5 S):
  c9 Try.prog E w0 a0L (d8 18 [0,1,5] [x0,x1,x5]) S (B5 (fun T S=>N0 (T.getD 0 b6) (T.getD 1 b6) (T.getD 5 b6) S) (a0E E w0 Q)):=d9 a1s a1l a1J mixed (by kernel_rfl) h
theorem a7j{E:d6}{w0:i9}{Q:D→b4→Prop}(I:Nat→D→D→D→b4→Prop)
  (step:∀n x0 x1 x5 S,I n x0 x1 x5 S→a0G E w0 (fun x0 x1 x5 S=>∃m,m<n∧I m x0 x1 x5 S) Q x0 x1 x5 S)
  {n:Nat} {x0 x1 x5:D} {S:b4} (h:I n x0 x1 x5 S):c9 Try.prog E w0 (.loop a0L) (d8 18 [0,1,5] [x0,x1,x5]) S (a0E E w0 Q):=
 o4 (k:=18) (n:=n) (I:=fun n T S=>I n (T.getD 0 b6) (T.getD 1 b6) (T.getD 5 b6) S) (fun n T S hl hI=>p6 [0,1,5] hl (c9.mono (a6W (step n _ _ _ S hI)) fun ex T' S' _ hq=>by cases ex<;>exact hq)) (i5 ..) (Eq.mp (by kernel_rfl) h)
def a6i(E:d6)(w0:i9)(Q:D→b4→Prop)(a0 a1:D)(S:b4):Prop:=
 c9 Try.prog E w0 (.loop a0L) (d8 18 [0,1,5] [a0,a1,(.int .i64 0)]) S (a0E E w0 Q)
theorem a9B{E:d6}{w0:i9}{Q:D→b4→Prop}{a0 a1:D}{S:b4}(h:a6i E w0 (b9 E Q) a0 a1 S):s5 Try.prog E w0 y8 [a0,a1] S Q:=
 q8 a1s a1l a1J (fn:=Try.f26) (c:=Try.f26.body.getD .skip) mixed Try.func26 (by kernel_rfl) (by kernel_rfl) h
end Go.Proofs.Ytdkidgkiplcggaa.d
end
section
open Go.Proofs Go Go.Am Go.Op
namespace Go.Proofs.Ytdkidgkiplcggaa.d
section
set_option linter.unusedSectionVars false
def b8K(ys:List In)(ext:List Int)(i:Nat):List Int:=match ys[i]? with
 |some y=>if a1x y then b2x y (ext.getD (i+1) 0)++(if i+1<ys.length then[ext.getD (i+1) 0]else[]) else[]
 |none=>[]
theorem c3u(ys:List In)(ext:List Int)(i:Nat):b3q ys ext i=b8K ys ext i:=by
 unfold b3q b8K
 cases ys[i]? with
 |none=>rfl
 |some y=>simp only[b9a]
def c0X(ys:List In)(ext:List Int)(i:Nat)(st:List Int×List O2):List Int×List O2:=match ys[i]? with
 |some y=>if st.1.head? =some (ext.getD i 0) then(st.1.tail,st.2++[⟨ext.getD i 0,ext.getD (i+1) 0,b2x y (ext.getD (i+1) 0)⟩])
  else(st.1,a0V st.2 (ext.getD (i+1) 0) (b2x y (ext.getD (i+1) 0)))
 |none=>st
def b4W(ys:List In)(ext tops:List Int):Nat→List Int×List O2
 |0=>(tops,[])
 |n+1=>c0X ys ext n (b4W ys ext tops n)
theorem c3g(ys:List In)(ext:List Int)(i:Nat)(st:List Int×List O2):b6V ys ext i st=c0X ys ext i st:=by
 unfold b6V c0X
 cases ys[i]? with
 |none=>rfl
 |some y=>simp only[b9a]
theorem b9o(ys:List In)(ext tops:List Int):∀n,A7 ys ext tops n=b4W ys ext tops n
 |0=>rfl
 |n+1=>by rw[A7,b4W,c3g,b9o]
def b8C(code:List Int):List O2×Int:=match b3k code with
 | .error e=>([],e)
 | .ok L=>a4A code.length (b4W (F3 L) (J9 L++[(code.length:Int)]) (b3G (0::(List.range (F3 L).length).flatMap (b8K (F3 L) (J9 L++[(code.length:Int)])))) (F3 L).length)
theorem c0G(code:List Int):a3E code=b8C code:=by
 unfold a3E b8C
 cases b3k code with
 |error e=>rfl
 |ok L=>
  show a4A _ (A7 _ _ (a0K (B0 _ _ _)) _)=a4A _ _
  rw[b9o,c0Z]
  unfold B0
  rw[show b3q (F3 L) (J9 L++[(code.length:Int)])=b8K (F3 L) (J9 L++[(code.length:Int)]) from funext fun i=>c3u _ _ i]
theorem b7Y{l:List O2}{s:List Int}(h0:∀b,l[0]? =some b→b.at'∈s)(hc:∀a i b,a∈s→z8 l a=some i→l[i]? =some b→∀n∈b.next,(z8 l n).isSome=true→n∈s):∀ {n:Int},a6E l n→n∈s:=by
 intro n h
 induction h with
 |base hb=>exact h0 _ hb
 |step _ h1 h2 h3 h4 ih=>exact hc _ _ _ ih h1 h2 _ h3 h4
theorem c0U{a b:List Int}(ha:a.Pairwise (· < ·))(hb:b.Pairwise (· < ·))(h:∀n,n∈a↔n∈b):a=b:=a3n ha hb h
section
variable{E:d6}{w0:i9}
theorem eqI{a b:Int}:(a==b)=decide (a=b):=by by_cases h:a=b<;>simp[h]
theorem a8k{l:List O2}(hl:l.length<2^40){q:Int}:a1c Try.prog E w0 W7 [z6 l, .int .i64 q] (.bool (decide (q∈l.map (·.at')))):=fun S=>by
 refine b0Q ?_
 unfold a9Y
 refine a9b (I:=fun n x0 x1 x5 S'=>S'=S∧x0=z6 l∧x1= .int .i64 q∧∃i:Nat,x5= .int .i64 (i:Int)∧i+n=l.length∧q ∉ (l.take i).map (·.at')) ?_ (n:=l.length) ⟨rfl,rfl,rfl,0,rfl,by omega,by simp⟩
 rintro n _ _ _ _ ⟨rfl,rfl,rfl,i,rfl,hi,ht⟩
 unfold a2L
 rw[a0g,oD,a0U,oD,cdI]
 refine⟨fun hlt=> ?_,fun hge=> ?_⟩
 ·have hlt:i<l.length:=by omega
  have ea:l[i]? =some l[i]:=List.getElem?_eq_getElem hlt
  generalize l[i]=x at ea
  simp only[K4 ea,oD,ofE,Nat.zero_add,lsE,show(P3 x)[0]? =some (.int .i64 x.at') from rfl,a4l,eqI]
  rw[cdI]
  refine⟨fun he=> ?_,fun hne=> ?_⟩
  ·rw[decide_eq_true (List.mem_map.2 ⟨x,List.mem_of_getElem? ea,he⟩)]
   exact b9.pure
  ·rw[D7,oD,j1 (by omega) (by omega)]
   refine⟨n - 1,by omega,by trivial,by trivial,by trivial,i+1,rfl,by omega, ?_⟩
   rw[List.take_add_one,ea,List.map_append]
   simp only[Option.toList,List.map_cons,List.map_nil,List.mem_append,List.mem_singleton,not_or]
   exact⟨ht,fun e=>hne e.symm⟩
 ·rw[List.take_of_length_le (by omega)]at ht
  rw[decide_eq_false ht]
  exact b9.pure
theorem P6{l:List Int}(hl:l.length<2^40){q:Int}:a1c Try.prog E w0 y8 [iD l, .int .i64 q] (.bool (decide (q∈l))):=fun S=>by
 refine a9B ?_
 unfold a6i
 refine a7j (I:=fun n x0 x1 x5 S'=>S'=S∧x0=iD l∧x1= .int .i64 q∧∃i:Nat,x5= .int .i64 (i:Int)∧i+n=l.length∧q ∉ l.take i) ?_ (n:=l.length) ⟨rfl,rfl,rfl,0,rfl,by omega,by simp⟩
 rintro n _ _ _ _ ⟨rfl,rfl,rfl,i,rfl,hi,ht⟩
 unfold a0G
 rw[a0d,oD,a0U,oD,cdI]
 refine⟨fun hlt=> ?_,fun hge=> ?_⟩
 ·have hlt:i<l.length:=by omega
  have ea:l[i]? =some l[i]:=List.getElem?_eq_getElem hlt
  generalize l[i]=x at ea
  simp only[Z0 ea,oD,lsE,List.getElem?_cons_zero,a4l,eqI]
  rw[cdI]
  refine⟨fun he=> ?_,fun hne=> ?_⟩
  ·rw[decide_eq_true (by rw[←he];exact List.mem_of_getElem? ea)]
   exact b9.pure
  ·rw[D7,oD,j1 (by omega) (by omega)]
   refine⟨n - 1,by omega,by trivial,by trivial,by trivial,i+1,rfl,by omega, ?_⟩
   rw[List.take_add_one,ea]
   simp only[Option.toList,List.mem_append,List.mem_singleton,not_or]
   exact⟨ht,fun e=>hne e.symm⟩
 ·rw[List.take_of_length_le (by omega)]at ht
  rw[decide_eq_false ht]
  exact b9.pure
end
end
section
set_option linter.unusedSectionVars false
section
variable{E:d6}{w0:i9}
theorem c1g{l:List O2}{s:List Int}(hat:∀b∈l,I64 b.at')(hl:l.length<2^37)(hW:wgt (fun _=>true) l<2^37)(hnx:∀b∈l,b.next.length<2^37)(hs:s.Pairwise (· < ·))(h1:∀n∈s,a6E l n)(h2:∀n,a6E l n→n∈s):a1c Try.prog E w0 I1 [z6 l] (iD s):=fun S=>
 (a4d hat hl hW hnx).use fun d S' ⟨a,r,b,c,e⟩=>⟨by rw[b,c0U c hs fun n=>⟨fun h=>h2 n ((e n).1 h),fun h=>(e n).2 (h1 n h)⟩],a⟩
theorem b2L:a1c Try.prog E w0 H4 [] (.bool true):=fun S=>by
 refine a9A ?_
 unfold a6v
 rw[show y9 1 (List.replicate 3 [D.int .u8 0]) [(0, .int .u8 52),(1, .int .u8 1),(2, .int .u8 51)]=some (a1b ([52,1,51].map (D.int .u8))) from rfl]
 refine V7 rfl ?_
 refine(show s5 Try.prog E w0 a2l [bD [52,1,51]] S _ from(b4C (by simp[V5]) (by decide)).use ?_)
 rw[show a3E [52,1,51]=([⟨0,2,[]⟩,⟨2,3,[]⟩],0) from by rw[c0G];kernel_rfl]
 have hln:m8 (z6 [⟨0,2,[]⟩,⟨2,3,[]⟩])=some (.int .i64 2):=rfl
 have i0:l7 3 (z6 [⟨0,2,[]⟩,⟨2,3,[]⟩]) (.int .i64 0)=some (.elt (P3 ⟨0,2,[]⟩) 0):=rfl
 have i1:l7 3 (z6 [⟨0,2,[]⟩,⟨2,3,[]⟩]) (.int .i64 1)=some (.elt (P3 ⟨2,3,[]⟩) 0):=rfl
 have r0:∀b:O2,(P3 b)[0]? =some (.int .i64 b.at'):=fun _=>rfl
 have r1:∀b:O2,(P3 b)[1]? =some (.int .i64 b.end'):=fun _=>rfl
 have r2:∀b:O2,(P3 b)[2]? =some (iD b.next):=fun _=>rfl
 unfold ofD
 simp only[exD,List.getElem?_cons_zero,List.getElem?_cons_succ,oD,a4l,eqI,decide_true,wdB,t4,vdT,hln,pdB,if_true,i0,i1,ofE,Nat.zero_add,lsE,r0,r1,r2,a0d,List.length_nil,Int.ofNat_zero,gdT]
 refine(show s5 Try.prog E w0 I1 [z6 [⟨0,2,[]⟩,⟨2,3,[]⟩]] S _ from(c1g (s:=[0]) (by simp[I64]) (by decide) (by decide) (by simp) (by simp) (fun n hn=> ?_) (fun n hn=> ?_)).use ?_)
 ·rw[List.mem_singleton.1 hn];exact .base (b:=⟨0,2,[]⟩) rfl
 ·refine b7Y (fun b hb=> ?_) (fun a i b ha hi hb m hm _=> ?_) hn
  ·cases hb;simp
  ·rw[List.mem_singleton.1 ha]at hi
   cases hi
   cases hb
   cases hm
 rw[show y9 1 (List.replicate 1 [D.int .i64 0]) [(0, .int .i64 0)]=some (iC [0]) from rfl]
 refine V7 (rows:=iC [0]) (len:=1) rfl ?_
 refine(show s5 Try.prog E w0 X6 [iD [0],iD [0]] S _ from(b0F (by decide) (by decide)).use ?_)
 simp only[decide_true,pdB,if_true,oD]
 exact b9.pure
end
end
section
set_option linter.unusedSectionVars false
theorem c2d(rows more:List (List D))(sz:Nat):Wk (b4r rows more sz) (.lst rows sz):=by
 unfold b4r
 split
 ·exact Wk.refl _
 ·exact Wk.ext _ _ _
theorem bR0(b:O2):(P3 b)[0]? =some (.int .i64 b.at'):=rfl
theorem bR2(b:O2):(P3 b)[2]? =some (iD b.next):=rfl
theorem a7U{l:List O2}(hu:∀(i:Nat) b,l[i]? =some b→b.at' ∉ (l.take i).map (·.at')){i:Nat}{b:O2}(h:l[i]? =some b):z8 l b.at'=some i:=by
 cases e:z8 l b.at' with
 |none=>
  unfold z8 at e
  rw[List.findIdx?_eq_none_iff]at e
  have:=e b (List.mem_of_getElem? h)
  simp at this
 |some j=>
  obtain⟨c,hc,he⟩:=R5 e
  by_cases hij:j=i
  ·rw[hij]
  ·exfalso
   rcases Nat.lt_or_gt_of_ne hij with hlt|hgt
   ·refine hu i b h (List.mem_map.2 ⟨c, ?_,he⟩)
    refine List.mem_of_getElem? (i:=j) ?_
    rw[List.getElem?_take,if_pos hlt];exact hc
   ·refine hu j c hc (List.mem_map.2 ⟨b, ?_,he.symm⟩)
    refine List.mem_of_getElem? (i:=i) ?_
    rw[List.getElem?_take,if_pos hgt];exact h
theorem b3W{p:Int→Bool}:∀ {l:List O2},(∀b∈l,b.next.length≤60)→wgt p l≤l.length*61
 | [],_=>by simp[wgt]
 |b::l,h=>by
  have:=b3W (p:=p) (l:=l) fun c hc=>h c (List.mem_cons_of_mem _ hc)
  have hb:=h b List.mem_cons_self
  simp only[wgt,List.length_cons]
  split<;>omega
structure b4a (l:List O2) (r:List Int):Prop where
 len:l.length≤60
 nexts:∀b∈l,b.next.length≤60
 uniq:∀(i:Nat) b,l[i]? =some b→b.at' ∉ (l.take i).map (·.at')
 rises:r.Pairwise (· < ·)
 is:∀n,n∈r↔a6E l n
theorem b4a.rlen{l:List O2}{r:List Int}(h:b4a l r):r.length≤60:=by
 have:=a4x (h.rises.imp fun h e=>by omega) (l2:=l.map (·.at')) fun a ha=>a8q ((h.is a).1 ha)
 have:=h.len
 simp at*
 omega
section
variable{E:d6}{w0:i9}
def tF(E:d6):D→b4→Prop:=b9 E fun v _=>v= .bool true
theorem a5I{S:b4}:s5 Try.prog E w0 H4 [] S (tF E):=b2L.use (b9.here rfl)
theorem c3M{l:List O2}{r:List Int}(h:b4a l r){S:b4}:c9 Try.prog E w0 (.loop E5) (d8 172 [0,4,8] [z6 l,iD r,(.int .i64 0)]) S (E8 E w0 (tF E)):=by
 have hrl:=h.rlen
 have hl:=h.len
 refine a2r (I:=fun n x0 x4 x8 T=>x0=z6 l∧x4=iD r∧∃i:Nat,x8= .int .i64 (i:Int)∧i+n=r.length) ?_ (n:=r.length) ⟨rfl,rfl,0,rfl,by omega⟩
 rintro n _ _ _ T ⟨rfl,rfl,i,rfl,hi⟩
 unfold L6
 rw[a0d,oD,a0U,oD,cdI]
 refine⟨fun hlt=> ?_,fun _=>a5I⟩
 have hlt:i<r.length:=by omega
 have er:r[i]? =some r[i]:=List.getElem?_eq_getElem hlt
 have hR:=(h.is r[i]).1 (List.getElem_mem _)
 generalize r[i]=q at er hR
 obtain⟨b0,l',hb0⟩:∃b0 l',l=b0::l':=by
  cases l with
  |nil=>have:=a8q hR;simp at this
  |cons b l=>exact⟨b,l,rfl⟩
 have e0:l[0]? =some b0:=by rw[hb0];rfl
 rw[Z0 er,oD,lsE,List.getElem?_cons_zero,oD,show((0:Int))=((0:Nat):Int) from rfl,K4 e0,oD,ofE,oD,lsE,bR0,oD,a4I,oD]
 refine a2S (I:=fun n' x0 x4 x8 x9 x10 T=>x0=z6 l∧x4=iD r∧x8= .int .i64 (i:Int)∧∃(j:Nat) (led:Bool),x9= .bool led∧x10= .int .i64 (j:Int)∧j+n'=l.length∧(led=true↔q=b0.at'∨∃b∈l.take j,b.at'∈r∧q∈b.next)) ?_ (n:=l.length) ⟨rfl,rfl,rfl,0,_,rfl,rfl,by omega,by simp⟩
 rintro n' _ _ _ _ _ T ⟨rfl,rfl,rfl,j,led,rfl,rfl,hj,hled⟩
 unfold L5
 rw[a0g,oD,a0U,oD,cdI]
 refine⟨fun hlt2=> ?_,fun hge=> ?_⟩
 ·have hlt2:j<l.length:=by omega
  have eb:l[j]? =some l[j]:=List.getElem?_eq_getElem hlt2
  have hbn:=h.nexts l[j] (List.getElem_mem _)
  generalize l[j]=b at eb hbn
  have htk:l.take (j+1)=l.take j++[b]:=by rw[List.take_add_one,eb];rfl
  have hw:IntKind.i64.wrap ((j:Int)+1)=((j+1:Nat):Int):=by rw[j1 (by omega) (by omega)];simp
  have hnx:∀led':Bool,(led'=true↔q=b0.at'∨∃b∈l.take (j+1),b.at'∈r∧q∈b.next)→∃m,m<n'∧(z6 l=z6 l∧iD r=iD r∧D.int .i64 (i:Int)= .int .i64 (i:Int)∧∃(j':Nat) (led:Bool),D.bool led'= .bool led∧D.int .i64 (IntKind.i64.wrap ((j:Int)+1))= .int .i64 (j':Int)∧j'+m=l.length∧(led=true↔q=b0.at'∨∃b∈l.take j',b.at'∈r∧q∈b.next)):=
   fun led' hh=>⟨n' - 1,by omega,rfl,rfl,rfl,j+1,led',rfl,by rw[hw],by omega,hh⟩
  have hin:∀p:Prop,(p↔b.at'∈r∧q∈b.next)→((led=true∨p)↔q=b0.at'∨∃b∈l.take (j+1),b.at'∈r∧q∈b.next):=fun p hp=>by
   rw[hled,hp,htk]
   constructor
   ·rintro((h1|⟨c,h1,h2⟩)|h1)
    ·exact .inl h1
    ·exact .inr ⟨c,List.mem_append.2 (.inl h1),h2⟩
    ·exact .inr ⟨b,by simp,h1⟩
   ·rintro(h1|⟨c,h1,h2⟩)
    ·exact .inl (.inl h1)
    ·rcases List.mem_append.1 h1 with h1|h1
     ·exact .inl (.inr ⟨c,h1,h2⟩)
     ·rw[List.mem_singleton.1 h1]at h2;exact .inr h2
  cases led with
  |true=>
   simp only[wdB,t1,vdF,oD,gdF,pdB,if_true,D7]
   obtain⟨m,hm,_,_,_,j',led',q1,q2,q3,q4⟩:=hnx true ((hin (b.at'∈r∧q∈b.next) Iff.rfl).trans Iff.rfl |> fun h=>⟨fun _=>h.1 (.inl rfl),fun _=>rfl⟩)
   exact⟨m,hm,by trivial,by trivial,by trivial,j',led',q1,q2,q3,q4⟩
  |false=>
   simp only[wdB,t2,vdT,oD,K4 eb,ofE,Nat.zero_add,lsE,bR0,gdT]
   refine(show s5 Try.prog E w0 y8 [iD r, .int .i64 b.at'] _ _ from(P6 (by omega)).use ?_)
   by_cases c1:b.at'∈r
   ·simp only[decide_eq_true c1,wdB,t4,vdT,oD,K4 eb,ofE,Nat.zero_add,lsE,bR2,Z0 er,List.getElem?_cons_zero,gdT]
    refine(show s5 Try.prog E w0 y8 [iD b.next, .int .i64 q] _ _ from(P6 (by omega)).use ?_)
    simp only[pdB,if_true,Bool.false_eq_true,if_false,oD,vdT,D7]
    obtain⟨m,hm,_,_,_,j',led',q1,q2,q3,q4⟩:=hnx (decide (q∈b.next)) (by
     have:=hin (q∈b.next) (by simp[c1])
     rw[←this];simp)
    exact⟨m,hm,by trivial,by trivial,by trivial,j',led',q1,q2,q3,q4⟩
   ·simp only[decide_eq_false c1,wdB,t3,vdF,oD,gdF,pdB,vdT,Bool.false_eq_true,if_false,D7]
    obtain⟨m,hm,_,_,_,j',led',q1,q2,q3,q4⟩:=hnx false (by
     have:=hin False (by simp[c1])
     rw[←this];simp)
    exact⟨m,hm,by trivial,by trivial,by trivial,j',led',q1,q2,q3,q4⟩
 ·have hled:led=true:=by
   rw[hled,List.take_of_length_le (by omega)]
   cases hR with
   |base hb=>rw[e0]at hb;cases hb;exact .inl rfl
   |step h1 h2 h3 h4 _=>
    obtain⟨c,hc,he⟩:=R5 h2
    rw[h3]at hc
    cases hc
    exact .inr ⟨_,List.mem_of_getElem? h3,by rw[he];exact(h.is _).2 h1,h4⟩
  rw[hled,unN,oD,Bool.not_true,cdF,D7,oD,j1 (by omega) (by omega)]
  exact⟨n - 1,by omega,rfl,rfl,i+1,by simp,by omega⟩
theorem c3K{l:List O2}{r:List Int}(h:b4a l r){S:b4}:c9 Try.prog E w0 (.loop E4) (d8 172 [0,4,6] [z6 l,iD r,(.int .i64 0)]) S (E7 E w0 (tF E)):=by
 have hrl:=h.rlen
 have hl:=h.len
 refine a2M (I:=fun n x0 x4 x6 T=>x0=z6 l∧x4=iD r∧∃i:Nat,x6= .int .i64 (i:Int)∧i+n=l.length) ?_ (n:=l.length) ⟨rfl,rfl,0,rfl,by omega⟩
 rintro n _ _ _ T ⟨rfl,rfl,i,rfl,hi⟩
 unfold L1
 rw[a0g,oD,a0U,oD,cdI]
 refine⟨fun hlt=> ?_,fun _=>c3M h⟩
 have hlt:i<l.length:=by omega
 have eb:l[i]? =some l[i]:=List.getElem?_eq_getElem hlt
 have hbn:=h.nexts l[i] (List.getElem_mem _)
 generalize l[i]=b at eb hbn
 refine a2y (I:=fun n' x0 x4 x6 x7 T=>x0=z6 l∧x4=iD r∧x6= .int .i64 (i:Int)∧∃j:Nat,x7= .int .i64 (j:Int)∧j+n'=b.next.length) ?_ (n:=b.next.length) ⟨rfl,rfl,rfl,0,rfl,by omega⟩
 rintro n' _ _ _ _ T ⟨rfl,rfl,rfl,j,rfl,hj⟩
 unfold L0
 rw[K4 eb,oD,ofE,oD,lsE,bR2,oD,a0d,oD,a0U,oD,cdI]
 refine⟨fun hlt2=> ?_,fun _=> ?_⟩
 ·have hlt2:j<b.next.length:=by omega
  have en:b.next[j]? =some b.next[j]:=List.getElem?_eq_getElem hlt2
  have hmem:b.next[j]∈b.next:=List.getElem_mem _
  generalize b.next[j]=q at en hmem
  have hgo:∃m,m<n'∧(z6 l=z6 l∧iD r=iD r∧D.int .i64 (i:Int)= .int .i64 (i:Int)∧∃j':Nat,D.int .i64 (IntKind.i64.wrap ((j:Int)+1))= .int .i64 (j':Int)∧j'+m=b.next.length):=
   ⟨n' - 1,by omega,rfl,rfl,rfl,j+1,by rw[j1 (by omega) (by omega)];simp,by omega⟩
  rw[oD,ofE,oD,lsE,bR0,oD]
  refine(show s5 Try.prog E w0 y8 [iD r, .int .i64 b.at'] _ _ from(P6 (by omega)).use ?_)
  by_cases c1:b.at'∈r
  case neg=>
   simp only[decide_eq_false c1,wdB,t3,vdF,oD,gdF,pdB,Bool.false_eq_true,if_false,cdF,D7]
   obtain⟨m,hm,_,_,_,j',q1,q2⟩:=hgo
   exact⟨m,hm,by trivial,by trivial,by trivial,j',q1,q2⟩
  simp only[decide_eq_true c1,wdB,t4,vdT,oD,K4 eb,ofE,Nat.zero_add,lsE,bR2,Z0 en,List.getElem?_cons_zero,gdT]
  refine(show s5 Try.prog E w0 W7 [z6 l, .int .i64 q] _ _ from(a8k (by omega)).use ?_)
  by_cases c2:q∈l.map (·.at')
  case neg=>
   simp only[decide_eq_false c2,pdB,if_true,wdB,t3,vdF,oD,gdF,Bool.false_eq_true,if_false,cdF,D7]
   obtain⟨m,hm,_,_,_,j',q1,q2⟩:=hgo
   exact⟨m,hm,by trivial,by trivial,by trivial,j',q1,q2⟩
  have hq:q∈r:=by
   refine(h.is q).2 (.step (i:=i) (b:=b) ((h.is _).1 c1) (a7U h.uniq eb) eb hmem ?_)
   obtain⟨c,hc,hcq⟩:=List.mem_map.1 c2
   obtain⟨k,hk⟩:=List.getElem?_of_mem hc
   rw[←hcq,a7U h.uniq hk]
   rfl
  simp only[decide_eq_true c2,pdB,if_true,wdB,t4,vdT,oD,K4 eb,ofE,Nat.zero_add,lsE,bR2,Z0 en,List.getElem?_cons_zero,gdT]
  refine(show s5 Try.prog E w0 y8 [iD r, .int .i64 q] _ _ from(P6 (by omega)).use ?_)
  simp only[decide_eq_true hq,unN,Bool.not_true,vdT,oD,pdB,if_true,cdF,D7]
  obtain⟨m,hm,_,_,_,j',q1,q2⟩:=hgo
  exact⟨m,hm,by trivial,by trivial,by trivial,j',q1,q2⟩
 ·rw[D7,oD,j1 (by omega) (by omega)]
  exact⟨n - 1,by omega,rfl,rfl,i+1,by simp,by omega⟩
theorem c3c{l:List O2}{r:List Int}(h:b4a l r)(h0:l≠[]){S:b4}:c9 Try.prog E w0 (.loop E9) (d8 172 [0,4,5] [z6 l,iD r,(.int .i64 1)]) S (E6 E w0 (tF E)):=by
 have hrl:=h.rlen
 have hl:=h.len
 obtain⟨b0,l',hb0⟩:∃b0 l',l=b0::l':=by
  cases l with
  |nil=>exact absurd rfl h0
  |cons b l=>exact⟨b,l,rfl⟩
 have e0:l[0]? =some b0:=by rw[hb0];rfl
 have hr0:b0.at'∈r:=(h.is _).2 (.base e0)
 refine a2C (I:=fun n x0 x4 x5 T=>x0=z6 l∧x4=iD r∧∃i:Nat,x5= .int .i64 ((i+1:Nat):Int)∧i+1+n=r.length+1) ?_ (n:=r.length) ⟨rfl,rfl,0,rfl,by omega⟩
 rintro n _ _ _ T ⟨rfl,rfl,i,rfl,hi⟩
 unfold M8
 rw[a0d,oD,a0U,oD,cdI]
 refine⟨fun hlt=> ?_,fun _=> ?_⟩
 ·have hlt:i+1<r.length:=by omega
  have e1:r[i+1]? =some r[i+1]:=List.getElem?_eq_getElem hlt
  have e2:r[i]? =some r[i]:=List.getElem?_eq_getElem (by omega)
  have hp:r[i]<r[i+1]:=List.pairwise_iff_getElem.1 h.rises i (i+1) (by omega) hlt (by omega)
  generalize r[i]=p at e2 hp
  generalize r[i+1]=q at e1 hp
  rw[Z0 e1,oD,lsE,List.getElem?_cons_zero,oD,a6l,oD,j1 (by omega) (by omega),show((i+1:Nat):Int) - 1=(i:Int) by omega,Z0 e2,oD,lsE,List.getElem?_cons_zero,oD,c5m,oD,decide_eq_false (by omega),cdF,D7,oD,j1 (by omega) (by omega)]
  exact⟨n - 1,by omega,rfl,rfl,i+1,by simp,by omega⟩
 ·rw[show((0:Int))=((0:Nat):Int) from rfl,K4 e0,oD,ofE,oD,lsE,bR0,oD]
  refine(show s5 Try.prog E w0 y8 [iD r, .int .i64 b0.at'] _ _ from(P6 (by omega)).use ?_)
  rw[decide_eq_true hr0,unN,oD,Bool.not_true,cdF]
  exact c3K h
theorem a9n{l:List O2}(hat:∀b∈l,I64 b.at')(hl0:l.length<2^47)(hnx:∀b∈l,b.next.length<2^47){S:b4}:s5 Try.prog E w0 a0M [z6 l] S fun v _=>v= .bool true:=by
 refine a3I ?_
 unfold a0N
 rw[a0g,oD,a9u,oD,cdI]
 refine⟨fun _=>a5I,fun hl=> ?_⟩
 have hl:l.length≤60:=by omega
 refine a2B (I:=fun n x0 x3 T=>x0=z6 l∧∃i:Nat,x3= .int .i64 (i:Int)∧i+n=l.length∧(∀b∈l.take i,b.next.length≤60)∧∀(j:Nat) b,j<i→l[j]? =some b→b.at' ∉ (l.take j).map (·.at')) ?_ (n:=l.length) ⟨rfl,0,rfl,by omega,by simp,fun j b hj=>by omega⟩
 rintro n _ _ T ⟨rfl,i,rfl,hi,h1,h2⟩
 unfold M3
 rw[a0g,oD,a0U,oD,cdI]
 refine⟨fun hlt=> ?_,fun hge=> ?_⟩
 ·have hlt:i<l.length:=by omega
  have eb:l[i]? =some l[i]:=List.getElem?_eq_getElem hlt
  have hbm:l[i]∈l:=List.getElem_mem _
  generalize l[i]=b at eb hbm
  have hbl:=hnx b hbm
  rw[K4 eb,oD,ofE,oD,lsE,bR2,oD,a0d,oD,a9u,oD]
  by_cases c1:(b.next.length:Int)>60
  ·simp only[decide_eq_true c1,wdB,t1,vdF,oD,wdU,gdF,pdB,if_true,cdT]
   exact a5I
  have hgo:b.at' ∉ (l.take i).map (·.at')→∃m,m<n∧(z6 l=z6 l∧∃i':Nat,D.int .i64 (IntKind.i64.wrap ((i:Int)+1))= .int .i64 (i':Int)∧i'+m=l.length∧(∀b∈l.take i',b.next.length≤60)∧∀(j:Nat) b,j<i'→l[j]? =some b→b.at' ∉ (l.take j).map (·.at')):=fun hnew=>by
   refine⟨n - 1,by omega,rfl,i+1,by rw[j1 (by omega) (by omega)];simp,by omega,fun c hc=> ?_,fun j c hj hc=> ?_⟩
   ·rw[List.take_add_one,eb]at hc
    rcases List.mem_append.1 hc with hc|hc
    ·exact h1 c hc
    ·simp only[Option.toList,List.mem_singleton]at hc
     rw[hc];omega
   ·by_cases e:j=i
    ·subst e;rw[eb]at hc;cases hc;exact hnew
    ·exact h2 j c (by omega) hc
  by_cases c2:(i:Int)>0
  case neg=>
   simp only[decide_eq_false c1,wdB,t2,vdT,oD,a9u,decide_eq_false c2,t3,vdF,gdF,pdB,Bool.false_eq_true,if_false,cdF,D7]
   obtain⟨m,hm,_,j',q1,q2⟩:=hgo (by rw[show i=0 by omega];simp)
   exact⟨m,hm,by trivial,j',q1,q2⟩
  obtain⟨xs,hsl,hxs⟩:∃x,V6 3 (z6 l) none (some (.int .i64 (i:Int))) none=some x∧Wk x (z6 (l.take i)):=by
   refine⟨_,c5A (by rw[List.length_map];omega), ?_⟩
   unfold z6
   rw[List.map_take]
   exact c2d _ _ _
  simp only[decide_eq_false c1,wdB,t2,vdT,oD,a9u,decide_eq_true c2,t4,hsl,K4 eb,ofE,Nat.zero_add,lsE,bR0,gdT]
  refine DF.weak (es:=[z6 (l.take i), .int .i64 b.at']) ⟨hxs,Wk.refl _,trivial⟩ ?_
  refine(show s5 Try.prog E w0 W7 [z6 (l.take i), .int .i64 b.at'] _ _ from(a8k (by rw[List.length_take];omega)).use ?_)
  by_cases c3:b.at'∈(l.take i).map (·.at')
  ·simp only[decide_eq_true c3,pdB,if_true,vdT,oD,Bool.false_eq_true,if_false,cdT]
   exact a5I
  ·simp only[decide_eq_false c3,pdB,if_true,vdT,oD,Bool.false_eq_true,if_false,cdF,D7]
   obtain⟨m,hm,_,j',q1,q2⟩:=hgo c3
   exact⟨m,hm,by trivial,j',q1,q2⟩
 ·have hil:i=l.length:=by omega
  have h1:∀b∈l,b.next.length≤60:=by rw[List.take_of_length_le (by omega)]at h1;exact h1
  have hw:=b3W (p:=fun _=>true) h1
  refine(a4d hat (by omega) (by omega) fun b hb=>by have:=h1 b hb;omega).use ?_
  rintro d S' ⟨rfl,r,rfl,hr,hrr⟩
  have hL:b4a l r:=⟨hl,h1,fun j b hb=>h2 j b (by rw[hil];exact(List.getElem?_eq_some_iff.1 hb).1) hb,hr,hrr⟩
  rw[oD,a4I,oD,cdI]
  refine⟨fun h0=> ?_,fun h0=>c3c hL fun e=>h0 (by rw[e];rfl)⟩
  have h0:l=[]:=List.length_eq_zero_iff.1 (by omega)
  have hr0:r=[]:=List.eq_nil_iff_forall_not_mem.2 fun n hn=>by
   have:=a8q ((hrr n).1 hn)
   rw[h0]at this
   simp at this
  rw[hr0]
  rw[show m8 (iD [])=some (.int .i64 0) from rfl,oD,a4I,decide_eq_true rfl,oD,wdB,t4,gdT]
  refine b2L.use ?_
  rw[pdB,if_pos rfl,oD]
  exact b9.here rfl
end
end
end Go.Proofs.Ytdkidgkiplcggaa.d
end
