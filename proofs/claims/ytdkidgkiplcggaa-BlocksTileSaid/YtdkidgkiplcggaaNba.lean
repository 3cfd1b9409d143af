/-
  BlocksTileSaid: part Nba of its proof.
-/
import Derived.Test.YtdkidgkiplcggaaNay
import Derived.Test.YtdkidgkiplcggaaNaz
import Derived.Test.YtdkidgkiplcggaaRows
import Derived.Test.YtdkidgkiplcggaaNar
import Derived.KernelRfl
set_option linter.unusedVariables false
set_option linter.unusedSimpArgs false
set_option maxRecDepth 100000
section
open Go.Proofs Go Go.Am Go.Op
namespace Go.Proofs.Ytdkidgkiplcggaa.d
set_option linter.unusedSectionVars false
def b7s(a:Int):List Int→List Int
 | []=>[a]
 |b::l=>if a<b then a::b::l else if a=b then b::l else b::b7s a l
theorem b2a(a:Int):∀(l:List Int) (n:Int),n∈b7s a l↔n=a∨n∈l
 | [],n=>by simp[b7s]
 |b::l,n=>by
  unfold b7s
  by_cases h1:a<b
  ·rw[if_pos h1];simp
  rw[if_neg h1]
  by_cases h2:a=b
  ·rw[if_pos h2];subst h2;simp
  rw[if_neg h2,List.mem_cons,b2a a l n,List.mem_cons]
  constructor
  ·rintro(h|h|h)
   ·exact .inr (.inl h)
   ·exact .inl h
   ·exact .inr (.inr h)
  ·rintro(h|h|h)
   ·exact .inr (.inl h)
   ·exact .inl h
   ·exact .inr (.inr h)
theorem b2D(a:Int):∀(l:List Int),l.Pairwise (· < ·)→(b7s a l).Pairwise (· < ·)
 | [],_=>List.pairwise_singleton _ _
 |b::l,h=>by
  obtain⟨h0,h3⟩:=List.pairwise_cons.1 h
  unfold b7s
  by_cases h1:a<b
  ·rw[if_pos h1]
   refine List.pairwise_cons.2 ⟨fun n hn=> ?_,h⟩
   rcases List.mem_cons.1 hn with rfl|hn
   ·exact h1
   ·have:=h0 n hn;omega
  rw[if_neg h1]
  by_cases h2:a=b
  ·rw[if_pos h2];exact h
  rw[if_neg h2]
  refine List.pairwise_cons.2 ⟨fun n hn=> ?_,b2D a l h3⟩
  rcases(b2a a l n).1 hn with rfl|hn
  ·omega
  ·exact h0 n hn
def b4q(l:List Int):List Int:=l.foldr b7s []
theorem b1l:∀l:List Int,(b4q l).Pairwise (· < ·)∧∀n,n∈b4q l↔n∈l
 | []=>⟨List.Pairwise.nil,fun n=>Iff.rfl⟩
 |a::l=>by
  obtain⟨h1,h2⟩:=b1l l
  refine⟨b2D a _ h1,fun n=> ?_⟩
  show n∈b7s a (b4q l)↔_
  rw[b2a,h2,List.mem_cons]
theorem c2a(l:List Int):a0r l=b4q l:=Y6 (D1 l).1 (b1l l).1 fun n=>by rw[(D1 l).2,(b1l l).2]
def b1e(y:In)(next:Int):List Int:=
 if y.op=51∨y.op=52 then[]else if y.op=46 then[y.a]else b4q (if y.op=47∨y.op=48 then[next,y.a]else if y.op=49 then y.b::y.arms.map (·.2) else[next])
theorem b8T(y:In)(next:Int):t8 y next=b1e y next:=by unfold t8 b1e;rw[c2a]
section
variable{E:d6}{w0:i9}
end
end Go.Proofs.Ytdkidgkiplcggaa.d
end
section
open Go.Proofs Go Go.Am
namespace Go.Proofs.Ytdkidgkiplcggaa.d
def n9:List (Nat×List Nat):=[(20,[0,3,8]),(32,[0,3,8,9,10]),(48,[0,3,8,9,11,12,14])]
def o4:List (Nat×List Nat):=[]
def m8:List (Nat×Arr):=[]
noncomputable def G8:Code:=(i5 [1,1,1,1,1,0,1,0,0,1,0,0,1,1,1,1,1,0,1,0,0] (Try.f5.body.getD .skip))
def G5(E:d6)(w0:i9)(N0:D→D→D→b4→Prop)(Q:D→b4→Prop):j6→List D→b4→Prop:=
 (s7 4 (X9 Try.prog E w0 n9 o4 m8 (i5 [1,1,1,1,1,0,1,0,0,1,0,0,1,1,1,1,1,1] (Try.f5.body.getD .skip)) (s7 1 (X9 Try.prog E w0 n9 o4 m8 (i5 [1,1,1,1,1,0,1,0,0,1,1] (Try.f5.body.getD .skip)) (E4 (fun T S=>N0 (T.getD 0 b6) (T.getD 3 b6) (T.getD 8 b6) S) (s7 0 (X9 Try.prog E w0 n9 o4 m8 (i5 [1,1,1,1,1,1] (Try.f5.body.getD .skip)) (P2 Try.prog Try.f5 Q))))))))
def N8(E:d6)(w0:i9)(N0:D→D→D→b4→Prop)(N2:D→D→D→D→D→D→D→b4→Prop)(Q:D→b4→Prop)(x0 x3 x8 x9 x11 x12 x14:D)(S:b4):Prop:=
 a8 (j9 x11) fun v125=>
 a8 (d4 .sub v125 (.int .i64 1)) fun v126=>
 a8 (d4 .lss x14 v126) fun v127=>
 d9 v127
 (a8 (m9 4 x11 x14) fun v128=>
 a8 (s5 0 v128) fun v129=>
 a8 (c9 S v129) fun v130=>
 s4 Try.prog E w0 Q9 [v130] S fun v131 S132=>
 d9 v131
 (Q (.bool false) S132)
 (a8 (d4 .add x14 (.int .i64 1)) fun v133=>
 N2 x0 x3 x8 x9 x11 x12 v133 S132))
 (a8 (j9 x11) fun v134=>
 a8 (d4 .sub v134 (.int .i64 1)) fun v135=>
 a8 (m9 4 x11 v135) fun v136=>
 a8 (s5 0 v136) fun v137=>
 a8 (c9 S v137) fun v138=>
 s4 Try.prog E w0 Q9 [v138] S fun v139 S140=>
 a8 (unD .not v139) fun v141=>
 a8 (b8 (b7 v141 true) (s5 2 x9)) fun v142=>
 a8 (b8 (b7 v141 true) (c9 S140 v142)) fun v143=>
 a8 (b8 (b7 v141 true) (s5 1 x9)) fun v144=>
 a8 (b8 (b7 v141 true) (c9 S140 v144)) fun v145=>
 a0a (b7 v141 true) (fun K=>K5 S140 1 (z6 1 (List.replicate 1 [(.int .i64 0)]) [(0,v145)]) 1 K) S140 fun v146 S147=>
 a0a (b7 v141 true) (fun K=>s4 Try.prog E w0 I3 [v143,v146] S147 K) S147 fun v148 S149=>
 a8 (b8 (b7 v141 true) (unD .not v148)) fun v150=>
 a8 (B6 v141 v150 (.bool false)) fun v151=>
 a8 (b8 (b7 v151 false) (some x12)) fun v152=>
 a8 (b8 (b7 v151 false) (j9 v152)) fun v153=>
 a8 (b8 (b7 v151 false) (some x11)) fun v154=>
 a8 (b8 (b7 v151 false) (j9 v154)) fun v155=>
 a8 (b8 (b7 v151 false) (d4 .neq v153 v155)) fun v156=>
 a8 (B6 v151 (.bool true) v156) fun v157=>
 d9 v157
 (Q (.bool false) S149)
 (a8 (d4 .add x8 (.int .i64 1)) fun v158=>
 N0 x0 x3 v158 S149))
theorem a3e{E:d6}{w0:i9}{N0:D→D→D→b4→Prop}{N2:D→D→D→D→D→D→D→b4→Prop}{Q:D→b4→Prop}{x0 x3 x8 x9 x11 x12 x14:D}{S:b4}(h:N8 E w0 N0 N2 Q x0 x3 x8 x9 x11 x12 x14 S):
  d5 Try.prog E w0 G8 (f0 197 [0,3,8,9,11,12,14] [x0,x3,x8,x9,x11,x12,x14]) S (E4 (fun T S=>N2 (T.getD 0 b6) (T.getD 3 b6) (T.getD 8 b6) (T.getD 9 b6) (T.getD 11 b6) (T.getD 12 b6) (T.getD 14 b6) S) (G5 E w0 N0 Q)):=f9 n9 o4 m8 mixed (by kernel_rfl) h
theorem a2J{E:d6}{w0:i9}{N0:D→D→D→b4→Prop}{Q:D→b4→Prop}(I:Nat→D→D→D→D→D→D→D→b4→Prop)
  (step:∀n x0 x3 x8 x9 x11 x12 x14 S,I n x0 x3 x8 x9 x11 x12 x14 S→N8 E w0 N0 (fun x0 x3 x8 x9 x11 x12 x14 S=>∃m,m<n∧I m x0 x3 x8 x9 x11 x12 x14 S) Q x0 x3 x8 x9 x11 x12 x14 S)
  {n:Nat} {x0 x3 x8 x9 x11 x12 x14:D} {S:b4} (h:I n x0 x3 x8 x9 x11 x12 x14 S):d5 Try.prog E w0 (.loop G8) (f0 197 [0,3,8,9,11,12,14] [x0,x3,x8,x9,x11,x12,x14]) S (G5 E w0 N0 Q):=
 s6 (k:=197) (n:=n) (I:=fun n T S=>I n (T.getD 0 b6) (T.getD 3 b6) (T.getD 8 b6) (T.getD 9 b6) (T.getD 11 b6) (T.getD 12 b6) (T.getD 14 b6) S) (fun n T S hl hI=>t6 [0,3,8,9,11,12,14] hl (d5.mono (a3e (step n _ _ _ _ _ _ _ S hI)) fun ex T' S' _ hq=>by cases ex<;>exact hq)) (i6 ..) (Eq.mp (by kernel_rfl) h)
noncomputable def C5:Code:=(i5 [1,1,1,1,1,0,1,0,0,1,0,0,1,1,0,1,0,0] (Try.f5.body.getD .skip))
def C6(E:d6)(w0:i9)(N0:D→D→D→b4→Prop)(Q:D→b4→Prop):j6→List D→b4→Prop:=
 (s7 2 (X9 Try.prog E w0 n9 o4 m8 (i5 [1,1,1,1,1,0,1,0,0,1,0,0,1,1,1] (Try.f5.body.getD .skip)) (s7 1 (X9 Try.prog E w0 n9 o4 m8 (i5 [1,1,1,1,1,0,1,0,0,1,1] (Try.f5.body.getD .skip)) (E4 (fun T S=>N0 (T.getD 0 b6) (T.getD 3 b6) (T.getD 8 b6) S) (s7 0 (X9 Try.prog E w0 n9 o4 m8 (i5 [1,1,1,1,1,1] (Try.f5.body.getD .skip)) (P2 Try.prog Try.f5 Q))))))))
def M9(E:d6)(w0:i9)(N0:D→D→D→b4→Prop)(N1:D→D→D→D→D→b4→Prop)(Q:D→b4→Prop)(x0 x3 x8 x9 x10:D)(S:b4):Prop:=
 a8 (s5 2 x9) fun v81=>
 a8 (c9 S v81) fun v82=>
 a8 (j9 v82) fun v83=>
 a8 (d4 .lss x10 v83) fun v84=>
 d9 v84
 (a8 (s5 2 x9) fun v85=>
 a8 (c9 S v85) fun v86=>
 a8 (m9 1 v86 x10) fun v87=>
 a8 (c9 S v87) fun v88=>
 s4 Try.prog E w0 a2l [x3,v88] S fun v89 S90=>
 a8 (unD .not v89) fun v91=>
 a8 (b8 (b7 v91 false) (some x10)) fun v92=>
 a8 (b8 (b7 v91 false) (d4 .gtr v92 (.int .i64 0))) fun v93=>
 a8 (b8 (b7 v91 false) (some v93)) fun v94=>
 a8 (b8 (b7 v94 true) (s5 2 x9)) fun v95=>
 a8 (b8 (b7 v94 true) (c9 S90 v95)) fun v96=>
 a8 (b8 (b7 v94 true) (some x10)) fun v97=>
 a8 (b8 (b7 v94 true) (m9 1 v96 v97)) fun v98=>
 a8 (b8 (b7 v94 true) (c9 S90 v98)) fun v99=>
 a8 (b8 (b7 v94 true) (s5 2 x9)) fun v100=>
 a8 (b8 (b7 v94 true) (c9 S90 v100)) fun v101=>
 a8 (b8 (b7 v94 true) (some x10)) fun v102=>
 a8 (b8 (b7 v94 true) (d4 .sub v102 (.int .i64 1))) fun v103=>
 a8 (b8 (b7 v94 true) (m9 1 v101 v103)) fun v104=>
 a8 (b8 (b7 v94 true) (c9 S90 v104)) fun v105=>
 a8 (b8 (b7 v94 true) (d4 .leq v99 v105)) fun v106=>
 a8 (b8 (b7 v91 false) (B6 v94 v106 (.bool false))) fun v107=>
 a8 (B6 v91 (.bool true) v107) fun v108=>
 d9 v108
 (Q (.bool false) S90)
 (a8 (d4 .add x10 (.int .i64 1)) fun v109=>
 N1 x0 x3 x8 x9 v109 S90))
 (a8 (s5 0 x9) fun v110=>
 a8 (c9 S v110) fun v111=>
 a8 (s5 1 x9) fun v112=>
 a8 (c9 S v112) fun v113=>
 a8 (W9 1 x0 (some v111) (some v113) none) fun v114=>
 s4 Try.prog E w0 L2 [v114] S fun v115 S116=>
 a8 (o3 v115 0) fun v117=>
 a8 (o3 v115 1) fun v118=>
 a8 (o3 v115 2) fun v119=>
 a8 (d4 .neq v119 (.int .i64 0)) fun v120=>
 a8 (b8 (b7 v120 false) (some v117)) fun v121=>
 a8 (b8 (b7 v120 false) (j9 v121)) fun v122=>
 a8 (b8 (b7 v120 false) (d4 .eql v122 (.int .i64 0))) fun v123=>
 a8 (B6 v120 (.bool true) v123) fun v124=>
 d9 v124
 (Q (.bool false) S116)
 (d5 Try.prog E w0 (.loop G8) (f0 197 [0,3,8,9,11,12,14] [x0,x3,x8,x9,v117,v118,(.int .i64 0)]) S116 (G5 E w0 N0 Q)))
theorem a3m{E:d6}{w0:i9}{N0:D→D→D→b4→Prop}{N1:D→D→D→D→D→b4→Prop}{Q:D→b4→Prop}{x0 x3 x8 x9 x10:D}{S:b4}(h:M9 E w0 N0 N1 Q x0 x3 x8 x9 x10 S):
  d5 Try.prog E w0 C5 (f0 197 [0,3,8,9,10] [x0,x3,x8,x9,x10]) S (E4 (fun T S=>N1 (T.getD 0 b6) (T.getD 3 b6) (T.getD 8 b6) (T.getD 9 b6) (T.getD 10 b6) S) (C6 E w0 N0 Q)):=f9 n9 o4 m8 mixed (by kernel_rfl) h
theorem a2N{E:d6}{w0:i9}{N0:D→D→D→b4→Prop}{Q:D→b4→Prop}(I:Nat→D→D→D→D→D→b4→Prop)
  (step:∀n x0 x3 x8 x9 x10 S,I n x0 x3 x8 x9 x10 S→M9 E w0 N0 (fun x0 x3 x8 x9 x10 S=>∃m,m<n∧I m x0 x3 x8 x9 x10 S) Q x0 x3 x8 x9 x10 S)
  {n:Nat} {x0 x3 x8 x9 x10:D} {S:b4} (h:I n x0 x3 x8 x9 x10 S):d5 Try.prog E w0 (.loop C5) (f0 197 [0,3,8,9,10] [x0,x3,x8,x9,x10]) S (C6 E w0 N0 Q):=
 s6 (k:=197) (n:=n) (I:=fun n T S=>I n (T.getD 0 b6) (T.getD 3 b6) (T.getD 8 b6) (T.getD 9 b6) (T.getD 10 b6) S) (fun n T S hl hI=>t6 [0,3,8,9,10] hl (d5.mono (a3m (step n _ _ _ _ _ S hI)) fun ex T' S' _ hq=>by cases ex<;>exact hq)) (i6 ..) (Eq.mp (by kernel_rfl) h)
noncomputable def O7:Code:=(i5 [1,1,1,1,1,0,1,0,0] (Try.f5.body.getD .skip))
def O6(E:d6)(w0:i9)(Q:D→b4→Prop):j6→List D→b4→Prop:=
 (s7 0 (X9 Try.prog E w0 n9 o4 m8 (i5 [1,1,1,1,1,1] (Try.f5.body.getD .skip)) (P2 Try.prog Try.f5 Q)))
def O3(E:d6)(w0:i9)(N0:D→D→D→b4→Prop)(Q:D→b4→Prop)(x0 x3 x8:D)(S:b4):Prop:=
 a8 (j9 x3) fun v54=>
 a8 (d4 .lss x8 v54) fun v55=>
 d9 v55
 (a8 (m9 3 x3 x8) fun v56=>
 a8 (r9 S 3 v56) fun v57=>
 o9 S [(.int .i64 0),(.int .i64 0), .nilSlc] fun v58 S59=>
 j2 S59 3 v58 v57 fun v60 S61=>
 a8 (s5 1 v58) fun v62=>
 a8 (c9 S61 v62) fun v63=>
 a8 (s5 0 v58) fun v64=>
 a8 (c9 S61 v64) fun v65=>
 a8 (d4 .leq v63 v65) fun v66=>
 a8 (b8 (b7 v66 false) (some x8)) fun v67=>
 a8 (b8 (b7 v66 false) (d4 .gtr v67 (.int .i64 0))) fun v68=>
 a8 (b8 (b7 v66 false) (some v68)) fun v69=>
 a8 (b8 (b7 v69 true) (s5 0 v58)) fun v70=>
 a8 (b8 (b7 v69 true) (c9 S61 v70)) fun v71=>
 a8 (b8 (b7 v69 true) (some x3)) fun v72=>
 a8 (b8 (b7 v69 true) (some x8)) fun v73=>
 a8 (b8 (b7 v69 true) (d4 .sub v73 (.int .i64 1))) fun v74=>
 a8 (b8 (b7 v69 true) (m9 3 v72 v74)) fun v75=>
 a8 (b8 (b7 v69 true) (s5 1 v75)) fun v76=>
 a8 (b8 (b7 v69 true) (c9 S61 v76)) fun v77=>
 a8 (b8 (b7 v69 true) (d4 .neq v71 v77)) fun v78=>
 a8 (b8 (b7 v66 false) (B6 v69 v78 (.bool false))) fun v79=>
 a8 (B6 v66 (.bool true) v79) fun v80=>
 d9 v80
 (Q (.bool false) S61)
 (d5 Try.prog E w0 (.loop C5) (f0 197 [0,3,8,9,10] [x0,x3,x8,v58,(.int .i64 0)]) S61 (C6 E w0 N0 Q)))
 (s4 Try.prog E w0 I0 [] S fun v159 S160=>
 Q v159 S160)
theorem a2K{E:d6}{w0:i9}{N0:D→D→D→b4→Prop}{Q:D→b4→Prop}{x0 x3 x8:D}{S:b4}(h:O3 E w0 N0 Q x0 x3 x8 S):
  d5 Try.prog E w0 O7 (f0 197 [0,3,8] [x0,x3,x8]) S (E4 (fun T S=>N0 (T.getD 0 b6) (T.getD 3 b6) (T.getD 8 b6) S) (O6 E w0 Q)):=f9 n9 o4 m8 mixed (by kernel_rfl) h
theorem a2L{E:d6}{w0:i9}{Q:D→b4→Prop}(I:Nat→D→D→D→b4→Prop)
  (step:∀n x0 x3 x8 S,I n x0 x3 x8 S→O3 E w0 (fun x0 x3 x8 S=>∃m,m<n∧I m x0 x3 x8 S) Q x0 x3 x8 S)
  {n:Nat} {x0 x3 x8:D} {S:b4} (h:I n x0 x3 x8 S):d5 Try.prog E w0 (.loop O7) (f0 197 [0,3,8] [x0,x3,x8]) S (O6 E w0 Q):=
 s6 (k:=197) (n:=n) (I:=fun n T S=>I n (T.getD 0 b6) (T.getD 3 b6) (T.getD 8 b6) S) (fun n T S hl hI=>t6 [0,3,8] hl (d5.mono (a2K (step n _ _ _ S hI)) fun ex T' S' _ hq=>by cases ex<;>exact hq)) (i6 ..) (Eq.mp (by kernel_rfl) h)
def a1z(E:d6)(w0:i9)(Q:D→b4→Prop)(a0:D)(S:b4):Prop:=
 a8 (j9 a0) fun v0=>
 a8 (d4 .gtr v0 (.int .i64 6000)) fun v1=>
 d9 v1
 (s4 Try.prog E w0 I0 [] S fun v2 S3=>
 Q v2 S3)
 (s4 Try.prog E w0 W0 [a0] S fun v4 S5=>
 a8 (o3 v4 0) fun v6=>
 a8 (o3 v4 1) fun v7=>
 a8 (d4 .neq v7 (.int .i64 0)) fun v8=>
 d9 v8
 (s4 Try.prog E w0 L2 [a0] S5 fun v9 S10=>
 a8 (o3 v9 0) fun v11=>
 a8 (o3 v9 1) fun v12=>
 a8 (o3 v9 2) fun v13=>
 a8 (j9 v6) fun v14=>
 a8 (d4 .eql v14 (.int .i64 0)) fun v15=>
 a8 (b8 (b7 v15 true) (some v13)) fun v16=>
 a8 (b8 (b7 v15 true) (d4 .neq v16 (.int .i64 0))) fun v17=>
 a8 (b8 (b7 v15 true) (some v17)) fun v18=>
 a8 (b8 (b7 v18 true) (some v7)) fun v19=>
 a8 (b8 (b7 v18 true) (some v13)) fun v20=>
 a8 (b8 (b7 v18 true) (d4 .eql v19 v20)) fun v21=>
 a8 (b8 (b7 v15 true) (B6 v18 v21 (.bool false))) fun v22=>
 a8 (b8 (b7 v15 true) (some v22)) fun v23=>
 a8 (b8 (b7 v23 false) (some v13)) fun v24=>
 a8 (b8 (b7 v23 false) (d4 .eql v24 (.int .i64 0))) fun v25=>
 a8 (b8 (b7 v23 false) (some v25)) fun v26=>
 a8 (b8 (b7 v26 true) (some v7)) fun v27=>
 a8 (b8 (b7 v26 true) (d4 .eql v27 (.int .i64 190))) fun v28=>
 a8 (b8 (b7 v23 false) (B6 v26 v28 (.bool false))) fun v29=>
 a8 (b8 (b7 v15 true) (B6 v23 (.bool true) v29)) fun v30=>
 a8 (B6 v15 v30 (.bool false)) fun v31=>
 a0a (b7 v31 true) (fun K=>s4 Try.prog E w0 I0 [] S10 K) S10 fun v32 S33=>
 a8 (B6 v31 v32 (.bool false)) fun v34=>
 Q v34 S33)
 (a8 (j9 v6) fun v35=>
 a8 (d4 .eql v35 (.int .i64 0)) fun v36=>
 a8 (b8 (b7 v36 false) (some v6)) fun v37=>
 a8 (b8 (b7 v36 false) (m9 3 v37 (.int .i64 0))) fun v38=>
 a8 (b8 (b7 v36 false) (s5 0 v38)) fun v39=>
 a8 (b8 (b7 v36 false) (c9 S5 v39)) fun v40=>
 a8 (b8 (b7 v36 false) (d4 .neq v40 (.int .i64 0))) fun v41=>
 a8 (B6 v36 (.bool true) v41) fun v42=>
 a8 (b8 (b7 v42 false) (some v6)) fun v43=>
 a8 (b8 (b7 v42 false) (some v6)) fun v44=>
 a8 (b8 (b7 v42 false) (j9 v44)) fun v45=>
 a8 (b8 (b7 v42 false) (d4 .sub v45 (.int .i64 1))) fun v46=>
 a8 (b8 (b7 v42 false) (m9 3 v43 v46)) fun v47=>
 a8 (b8 (b7 v42 false) (s5 1 v47)) fun v48=>
 a8 (b8 (b7 v42 false) (c9 S5 v48)) fun v49=>
 a8 (b8 (b7 v42 false) (some a0)) fun v50=>
 a8 (b8 (b7 v42 false) (j9 v50)) fun v51=>
 a8 (b8 (b7 v42 false) (d4 .neq v49 v51)) fun v52=>
 a8 (B6 v42 (.bool true) v52) fun v53=>
 d9 v53
 (Q (.bool false) S5)
 (d5 Try.prog E w0 (.loop O7) (f0 197 [0,3,8] [a0,v6,(.int .i64 0)]) S5 (O6 E w0 Q))))
theorem a4k{E:d6}{w0:i9}{Q:D→b4→Prop}{a0:D}{S:b4}(h:a1z E w0 (b9 E Q) a0 S):s4 Try.prog E w0 a1w [a0] S Q:=
 q8 n9 o4 m8 (fn:=Try.f5) (c:=Try.f5.body.getD .skip) mixed Try.func5 (by kernel_rfl) (by kernel_rfl) h
def b1A:List (Nat×List Nat):=[]
def b2C:List (Nat×List Nat):=[]
def b1S:List (Nat×Arr):=[]
def a6h(E:d6)(w0:i9)(Q:D→b4→Prop)(S:b4):Prop:=
 K5 S 1 (z6 1 (List.replicate 3 [(.int .u8 0)]) [(0,(.int .u8 52)),(1,(.int .u8 1)),(2,(.int .u8 51))]) 3 fun v0 S1=>
 s4 Try.prog E w0 W0 [v0] S1 fun v2 S3=>
 a8 (o3 v2 0) fun v4=>
 a8 (o3 v2 1) fun v5=>
 a8 (d4 .eql v5 (.int .i64 0)) fun v6=>
 a8 (b8 (b7 v6 true) (some v4)) fun v7=>
 a8 (b8 (b7 v6 true) (j9 v7)) fun v8=>
 a8 (b8 (b7 v6 true) (d4 .eql v8 (.int .i64 2))) fun v9=>
 a8 (B6 v6 v9 (.bool false)) fun v10=>
 a8 (b8 (b7 v10 true) (some v4)) fun v11=>
 a8 (b8 (b7 v10 true) (m9 3 v11 (.int .i64 0))) fun v12=>
 a8 (b8 (b7 v10 true) (s5 0 v12)) fun v13=>
 a8 (b8 (b7 v10 true) (c9 S3 v13)) fun v14=>
 a8 (b8 (b7 v10 true) (d4 .eql v14 (.int .i64 0))) fun v15=>
 a8 (B6 v10 v15 (.bool false)) fun v16=>
 a8 (b8 (b7 v16 true) (some v4)) fun v17=>
 a8 (b8 (b7 v16 true) (m9 3 v17 (.int .i64 0))) fun v18=>
 a8 (b8 (b7 v16 true) (s5 1 v18)) fun v19=>
 a8 (b8 (b7 v16 true) (c9 S3 v19)) fun v20=>
 a8 (b8 (b7 v16 true) (d4 .eql v20 (.int .i64 2))) fun v21=>
 a8 (B6 v16 v21 (.bool false)) fun v22=>
 a8 (b8 (b7 v22 true) (some v4)) fun v23=>
 a8 (b8 (b7 v22 true) (m9 3 v23 (.int .i64 1))) fun v24=>
 a8 (b8 (b7 v22 true) (s5 0 v24)) fun v25=>
 a8 (b8 (b7 v22 true) (c9 S3 v25)) fun v26=>
 a8 (b8 (b7 v22 true) (d4 .eql v26 (.int .i64 2))) fun v27=>
 a8 (B6 v22 v27 (.bool false)) fun v28=>
 a8 (b8 (b7 v28 true) (some v4)) fun v29=>
 a8 (b8 (b7 v28 true) (m9 3 v29 (.int .i64 1))) fun v30=>
 a8 (b8 (b7 v28 true) (s5 1 v30)) fun v31=>
 a8 (b8 (b7 v28 true) (c9 S3 v31)) fun v32=>
 a8 (b8 (b7 v28 true) (d4 .eql v32 (.int .i64 3))) fun v33=>
 a8 (B6 v28 v33 (.bool false)) fun v34=>
 a8 (b8 (b7 v34 true) (some v4)) fun v35=>
 a8 (b8 (b7 v34 true) (m9 3 v35 (.int .i64 0))) fun v36=>
 a8 (b8 (b7 v34 true) (s5 2 v36)) fun v37=>
 a8 (b8 (b7 v34 true) (c9 S3 v37)) fun v38=>
 a8 (b8 (b7 v34 true) (j9 v38)) fun v39=>
 a8 (b8 (b7 v34 true) (d4 .eql v39 (.int .i64 0))) fun v40=>
 a8 (B6 v34 v40 (.bool false)) fun v41=>
 a8 (b8 (b7 v41 true) (some v4)) fun v42=>
 a0a (b7 v41 true) (fun K=>s4 Try.prog E w0 I7 [v42] S3 K) S3 fun v43 S44=>
 a0a (b7 v41 true) (fun K=>K5 S44 1 (z6 1 (List.replicate 1 [(.int .i64 0)]) [(0,(.int .i64 0))]) 1 K) S44 fun v45 S46=>
 a0a (b7 v41 true) (fun K=>s4 Try.prog E w0 I3 [v43,v45] S46 K) S46 fun v47 S48=>
 a8 (B6 v41 v47 (.bool false)) fun v49=>
 Q v49 S48
theorem a9t{E:d6}{w0:i9}{Q:D→b4→Prop}{S:b4}(h:a6h E w0 (b9 E Q) S):s4 Try.prog E w0 I0 [] S Q:=
 q8 b1A b2C b1S (fn:=Try.f11) (c:=Try.f11.body.getD .skip) mixed Try.func11 (by kernel_rfl) (by kernel_rfl) h
def a3E:List (Nat×List Nat):=[(4,[0,1,5])]
def a3u:List (Nat×List Nat):=[]
def a3t:List (Nat×Arr):=[]
noncomputable def a2r:Code:=(i5 [1,0,1,0,0] (Try.f24.body.getD .skip))
def a2t(E:d6)(w0:i9)(Q:D→b4→Prop):j6→List D→b4→Prop:=
 (s7 0 (X9 Try.prog E w0 a3E a3u a3t (i5 [1,1] (Try.f24.body.getD .skip)) (P2 Try.prog Try.f24 Q)))
def a2G(E:d6)(w0:i9)(N0:D→D→D→b4→Prop)(Q:D→b4→Prop)(x0 x1 x5:D)(S:b4):Prop:=
 a8 (j9 x0) fun v0=>
 a8 (d4 .lss x5 v0) fun v1=>
 d9 v1
 (a8 (m9 3 x0 x5) fun v2=>
 a8 (s5 0 v2) fun v3=>
 a8 (c9 S v3) fun v4=>
 a8 (d4 .eql v4 x1) fun v5=>
 d9 v5
 (Q (.bool true) S)
 (a8 (d4 .add x5 (.int .i64 1)) fun v6=>
 N0 x0 x1 v6 S))
 (Q (.bool false) S)
theorem a9w{E:d6}{w0:i9}{N0:D→D→D→b4→Prop}{Q:D→b4→Prop}{x0 x1 x5:D}{S:b4}(h:a2G E w0 N0 Q x0 x1 x5 S):
  d5 Try.prog E w0 a2r (f0 19 [0,1,5] [x0,x1,x5]) S (E4 (fun T S=>N0 (T.getD 0 b6) (T.getD 1 b6) (T.getD 5 b6) S) (a2t E w0 Q)):=f9 a3E a3u a3t mixed (by kernel_rfl) h
theorem a8O{E:d6}{w0:i9}{Q:D→b4→Prop}(I:Nat→D→D→D→b4→Prop)
  (step:∀n x0 x1 x5 S,I n x0 x1 x5 S→a2G E w0 (fun x0 x1 x5 S=>∃m,m<n∧I m x0 x1 x5 S) Q x0 x1 x5 S)
  {n:Nat} {x0 x1 x5:D} {S:b4} (h:I n x0 x1 x5 S):d5 Try.prog E w0 (.loop a2r) (f0 19 [0,1,5] [x0,x1,x5]) S (a2t E w0 Q):=
 s6 (k:=19) (n:=n) (I:=fun n T S=>I n (T.getD 0 b6) (T.getD 1 b6) (T.getD 5 b6) S) (fun n T S hl hI=>t6 [0,1,5] hl (d5.mono (a9w (step n _ _ _ S hI)) fun ex T' S' _ hq=>by cases ex<;>exact hq)) (i6 ..) (Eq.mp (by kernel_rfl) h)
def a9J(E:d6)(w0:i9)(Q:D→b4→Prop)(a0 a1:D)(S:b4):Prop:=
 d5 Try.prog E w0 (.loop a2r) (f0 19 [0,1,5] [a0,a1,(.int .i64 0)]) S (a2t E w0 Q)
theorem b1j{E:d6}{w0:i9}{Q:D→b4→Prop}{a0 a1:D}{S:b4}(h:a9J E w0 (b9 E Q) a0 a1 S):s4 Try.prog E w0 a2l [a0,a1] S Q:=
 q8 a3E a3u a3t (fn:=Try.f24) (c:=Try.f24.body.getD .skip) mixed Try.func24 (by kernel_rfl) (by kernel_rfl) h
def b3u:List (Nat×List Nat):=[]
def b3i:List (Nat×List Nat):=[]
def b3a:List (Nat×Arr):=[]
def a7G(E:d6)(w0:i9)(Q:D→b4→Prop)(a0:D)(S:b4):Prop:=
 a8 (d4 .geq a0 (.int .u8 46)) fun v0=>
 a8 (b8 (b7 v0 true) (some a0)) fun v1=>
 a8 (b8 (b7 v0 true) (d4 .leq v1 (.int .u8 49))) fun v2=>
 a8 (B6 v0 v2 (.bool false)) fun v3=>
 a8 (b8 (b7 v3 false) (some a0)) fun v4=>
 a8 (b8 (b7 v3 false) (d4 .eql v4 (.int .u8 51))) fun v5=>
 a8 (B6 v3 (.bool true) v5) fun v6=>
 a8 (b8 (b7 v6 false) (some a0)) fun v7=>
 a8 (b8 (b7 v6 false) (d4 .eql v7 (.int .u8 52))) fun v8=>
 a8 (B6 v6 (.bool true) v8) fun v9=>
 Q v9 S
theorem b0E{E:d6}{w0:i9}{Q:D→b4→Prop}{a0:D}{S:b4}(h:a7G E w0 (b9 E Q) a0 S):s4 Try.prog E w0 Q9 [a0] S Q:=
 q8 b3u b3i b3a (fn:=Try.f25) (c:=Try.f25.body.getD .skip) mixed Try.func25 (by kernel_rfl) (by kernel_rfl) h
end Go.Proofs.Ytdkidgkiplcggaa.d
end
section
open Go.Proofs Go Go.Am Go.Op
namespace Go.Proofs.Ytdkidgkiplcggaa.d
section
set_option linter.unusedSectionVars false
def b8I(ys:List In)(ext:List Int)(i:Nat):List Int:=match ys[i]? with
 |some y=>if J3 y then b1e y (ext.getD (i+1) 0)++(if i+1<ys.length then[ext.getD (i+1) 0]else[]) else[]
 |none=>[]
theorem c4m(ys:List In)(ext:List Int)(i:Nat):b0w ys ext i=b8I ys ext i:=by
 unfold b0w b8I
 cases ys[i]? with
 |none=>rfl
 |some y=>simp only[b8T]
def c1A(ys:List In)(ext:List Int)(i:Nat)(st:List Int×List P6):List Int×List P6:=match ys[i]? with
 |some y=>if st.1.head? =some (ext.getD i 0) then(st.1.tail,st.2++[⟨ext.getD i 0,ext.getD (i+1) 0,b1e y (ext.getD (i+1) 0)⟩])
  else(st.1,a0f st.2 (ext.getD (i+1) 0) (b1e y (ext.getD (i+1) 0)))
 |none=>st
def b5q(ys:List In)(ext tops:List Int):Nat→List Int×List P6
 |0=>(tops,[])
 |n+1=>c1A ys ext n (b5q ys ext tops n)
theorem c4a(ys:List In)(ext:List Int)(i:Nat)(st:List Int×List P6):b5F ys ext i st=c1A ys ext i st:=by
 unfold b5F c1A
 cases ys[i]? with
 |none=>rfl
 |some y=>simp only[b8T]
theorem b8L(ys:List In)(ext tops:List Int):∀n,A4 ys ext tops n=b5q ys ext tops n
 |0=>rfl
 |n+1=>by rw[A4,b5q,c4a,b8L]
def b9E(code:List Int):List P6×Int:=match a6a code with
 | .error e=>([],e)
 | .ok L=>a0I code.length (b5q (A1 L) (E5 L++[(code.length:Int)]) (b4q (0::(List.range (A1 L).length).flatMap (b8I (A1 L) (E5 L++[(code.length:Int)])))) (A1 L).length)
theorem c1v(code:List Int):M0 code=b9E code:=by
 unfold M0 b9E
 cases a6a code with
 |error e=>rfl
 |ok L=>
  show a0I _ (A4 _ _ (a0r (u4 _ _ _)) _)=a0I _ _
  rw[b8L,c2a]
  unfold u4
  rw[show b0w (A1 L) (E5 L++[(code.length:Int)])=b8I (A1 L) (E5 L++[(code.length:Int)]) from funext fun i=>c4m _ _ i]
theorem b8k{l:List P6}{s:List Int}(h0:∀b,l[0]? =some b→b.at'∈s)(hc:∀a i b,a∈s→B0 l a=some i→l[i]? =some b→∀n∈b.next,(B0 l n).isSome=true→n∈s):∀ {n:Int},a6L l n→n∈s:=by
 intro n h
 induction h with
 |base hb=>exact h0 _ hb
 |step _ h1 h2 h3 h4 ih=>exact hc _ _ _ ih h1 h2 _ h3 h4
theorem c1N{a b:List Int}(ha:a.Pairwise (· < ·))(hb:b.Pairwise (· < ·))(h:∀n,n∈a↔n∈b):a=b:=Y6 ha hb h
section
variable{E:d6}{w0:i9}
theorem eqI{a b:Int}:(a==b)=decide (a=b):=by by_cases h:a=b<;>simp[h]
theorem b5s{l:List P6}(hl:l.length<2^40){q:Int}:a0A Try.prog E w0 a2l [B5 l, .int .i64 q] (.bool (decide (q∈l.map (·.at')))):=fun S=>by
 refine b1j ?_
 unfold a9J
 refine a8O (I:=fun n x0 x1 x5 S'=>S'=S∧x0=B5 l∧x1= .int .i64 q∧∃i:Nat,x5= .int .i64 (i:Int)∧i+n=l.length∧q ∉ (l.take i).map (·.at')) ?_ (n:=l.length) ⟨rfl,rfl,rfl,0,rfl,by omega,by simp⟩
 rintro n _ _ _ _ ⟨rfl,rfl,rfl,i,rfl,hi,ht⟩
 unfold a2G
 rw[a0Z,oD,a2X,oD,cdI]
 refine⟨fun hlt=> ?_,fun hge=> ?_⟩
 ·have hlt:i<l.length:=by omega
  have ea:l[i]? =some l[i]:=List.getElem?_eq_getElem hlt
  generalize l[i]=x at ea
  simp only[a1E ea,oD,ofE,Nat.zero_add,lsE,show(D8 x)[0]? =some (.int .i64 x.at') from rfl,a2B,eqI]
  rw[cdI]
  refine⟨fun he=> ?_,fun hne=> ?_⟩
  ·rw[decide_eq_true (List.mem_map.2 ⟨x,List.mem_of_getElem? ea,he⟩)]
   exact b9.pure
  ·rw[K9,oD,g9 (by omega) (by omega)]
   refine⟨n - 1,by omega,by trivial,by trivial,by trivial,i+1,rfl,by omega, ?_⟩
   rw[List.take_add_one,ea,List.map_append]
   simp only[Option.toList,List.map_cons,List.map_nil,List.mem_append,List.mem_singleton,not_or]
   exact⟨ht,fun e=>hne e.symm⟩
 ·rw[List.take_of_length_le (by omega)]at ht
  rw[decide_eq_false ht]
  exact b9.pure
theorem a6p{y:In}:a0A Try.prog E w0 Q9 [.int .u8 y.op] (.bool (J3 y)):=fun S=>by
 refine b0E ?_
 unfold a7G J3
 generalize y.op=q
 simp only[c0f,oD,wdB]
 by_cases c0:q≥46
 ·by_cases c1:q≤49
  ·simp only[decide_eq_true c0,t4,vdT,oD,c2y,decide_eq_true c1,pdB,if_true,wdB,t1,vdF]
   rw[decide_eq_true (.inl ⟨c0,c1⟩)]
   exact b9.pure
  ·simp only[decide_eq_true c0,t4,vdT,oD,c2y,decide_eq_false c1,pdB,if_true,wdB,t2,a2B,eqI,Bool.false_eq_true,if_false]
   by_cases c2:q=51
   ·simp only[decide_eq_true c2,wdB,t1,vdF,oD,pdB,if_true]
    rw[decide_eq_true (.inr (.inl c2))]
    exact b9.pure
   ·simp only[decide_eq_false c2,wdB,t2,vdT,oD,a2B,eqI,pdB,Bool.false_eq_true,if_false]
    have:decide (46≤q∧q≤49∨q=51∨q=52)=decide (q=52):=by simp[c1,c2]
    rw[this]
    exact b9.pure
 ·simp only[decide_eq_false c0,t3,vdF,oD,pdB,Bool.false_eq_true,if_false,wdB,t2,vdT,a2B,eqI]
  have c2:¬(q=51):=by omega
  have c3:¬(q=52):=by omega
  simp only[decide_eq_false c2,decide_eq_false c3,wdB,t2,vdT,oD,a2B,eqI,pdB,Bool.false_eq_true,if_false]
  rw[decide_eq_false (by omega)]
  exact b9.pure
end
end
section
set_option linter.unusedSectionVars false
def A8(ys:List In):List Int:=ys.flatMap Y9
def a2x:Nat→List In→List Int
 |_,[]=>[]
 |p,y::ys=>(p:Int)::a2x (p+(Y9 y).length) ys
theorem Z0(y:In)(ys:List In):A8 (y::ys)=Y9 y++A8 ys:=rfl
theorem a0M(a b:List In):A8 (a++b)=A8 a++A8 b:=List.flatMap_append
theorem a3j:∀ys:List In,ys.length≤(A8 ys).length
 | []=>Nat.le_refl _
 |y::ys=>by
  rw[Z0,List.length_append,List.length_cons]
  have:=a3j ys
  have:=b0L y
  omega
theorem c0V:∀(ys:List In),(∀y∈ys,isS y=true)→∀(pre:List Int) (n:Nat),ys.length≤n→∃L,a1y (pre++A8 ys) n pre.length= .ok L∧A1 L=ys∧E5 L=a2x pre.length ys
 | [],_,pre,n,_=>by
  refine⟨[], ?_,rfl,rfl⟩
  cases n with
  |zero=>rfl
  |succ n=>rw[a1y,if_pos (by simp[A8])]
 |y::ys,hs,pre,n,hn=>by
  obtain⟨n,rfl⟩:∃m,n=m+1:=⟨n - 1,by simp at hn;omega⟩
  have hpos:=b0L y
  have hdec:y9 (pre++A8 (y::ys)) (pre.length:Nat)=(y.dat,(pre.length+(Y9 y).length,0)):=by
   unfold y9
   rw[if_neg (by rw[Z0,List.length_append,List.length_append];omega),Int.toNat_natCast,Z0]
   exact c2C (hs y List.mem_cons_self) pre (A8 ys)
  obtain⟨L,h1,h2,h3⟩:=c0V ys (fun z hz=>hs z (List.mem_cons_of_mem _ hz)) (pre++Y9 y) n (by simp at hn;omega)
  refine⟨(y.dat,pre.length)::L, ?_, ?_, ?_⟩
  ·rw[a1a (by rw[Z0,List.length_append,List.length_append];omega),hdec]
   simp only
   rw[if_pos trivial]
   rw[List.append_assoc,List.length_append]at h1
   rw[Z0,h1]
  ·show a0N y.dat::A1 L=_
   rw[h2];rfl
  ·show(pre.length:Int)::E5 L=_
   rw[h3,List.length_append];rfl
theorem c0M{bs:List Int}(hb:∀b∈bs,I2 b):∀(n p:Nat) (L:List (Dat×Nat)),a1y bs n p= .ok L→p≤bs.length→bs.length≤p+n→bs.drop p=A8 (A1 L)∧E5 L=a2x p (A1 L)∧∀y∈A1 L,isS y=true
 |0,p,L,h,hp,hn=>by
  cases h
  exact⟨List.drop_of_length_le (by omega),rfl,by simp[A1]⟩
 |n+1,p,L,h,hp,hn=>by
  by_cases hlt:p<bs.length
  ·rw[a1a hlt]at h
   by_cases he:(y9 bs p).2.2=0
   ·rw[if_pos he]at h
    cases hr:a1y bs n (y9 bs p).2.1 with
    |error e=>rw[hr]at h;cases h
    |ok l=>
     rw[hr]at h
     cases h
     obtain⟨_,_,_,h4,h5,h6⟩:=b5y hb he (b2A _)
     rw[Int.toNat_natCast]at h5 h6
     obtain⟨h51,h52⟩:=h5
     have hpos:=b0L (a0N (y9 bs p).1)
     obtain⟨i1,i2,i3⟩:=c0M hb n _ l hr (by rw[h6];exact h51) (by omega)
     have hcat:bs.drop p=Y9 (a0N (y9 bs p).1)++bs.drop (p+(Y9 (a0N (y9 bs p).1)).length):=by
      conv=>lhs;rw[←List.take_append_drop (Y9 (a0N (y9 bs p).1)).length (bs.drop p)]
      rw[h52,List.drop_drop]
     refine⟨?_, ?_,fun y hy=> ?_⟩
     ·show _=Y9 (a0N (y9 bs p).1)++A8 (A1 l)
      rw[hcat, ←i1,h6]
     ·show(p:Int)::E5 l=(p:Int)::a2x (p+(Y9 (a0N (y9 bs p).1)).length) (A1 l)
      rw[i2,h6]
     ·rcases List.mem_cons.1 hy with rfl|hy
      ·exact h4
      ·exact i3 y hy
   ·rw[if_neg he]at h;cases h
  ·rw[a1y,if_pos (by omega)]at h
   cases h
   exact⟨List.drop_of_length_le (by omega),rfl,by simp[A1]⟩
def Z9(ys:List In)(i:Nat):Int:=((A8 (ys.take i)).length:Int)
theorem b0X:∀(ys:List In) (p i:Nat),i<ys.length→(a2x p ys)[i]? =some ((p:Int)+Z9 ys i)
 | [],p,i,h=>by simp at h
 |y::ys,p,0,h=>by simp[a2x,Z9,A8]
 |y::ys,p,i+1,h=>by
  simp only[a2x,List.getElem?_cons_succ]
  rw[b0X ys _ i (by simpa using h)]
  unfold Z9
  rw[List.take_succ_cons,Z0,List.length_append]
  congr 1
  omega
theorem a3b:∀(ys:List In) (p:Nat),(a2x p ys).length=ys.length
 | [],_=>rfl
 |y::ys,p=>by simp[a2x,a3b ys]
theorem b5M{ys:List In}{i:Nat}(h:i≤ys.length):(a2x 0 ys++[((A8 ys).length:Int)]).getD i 0=Z9 ys i:=by
 rw[List.getD_eq_getElem?_getD]
 by_cases e:i<ys.length
 ·rw[List.getElem?_append_left (by rw[a3b];exact e),b0X ys 0 i e,Option.getD_some];simp
 ·rw[List.getElem?_append_right (by rw[a3b];omega),a3b,show i - ys.length=0 by omega]
  unfold Z9
  rw[List.take_of_length_le (by omega)];rfl
theorem b2V{ys:List In}{i j:Nat}(h:i<j)(hj:j≤ys.length):Z9 ys i<Z9 ys j:=by
 unfold Z9
 have e:ys.take j=ys.take i++(ys.drop i).take (j - i):=by
  rw[←List.take_append_drop i (ys.take j),List.take_take,List.drop_take,Nat.min_eq_left (by omega)]
 rw[e,a0M,List.length_append]
 have:=a3j ((ys.drop i).take (j - i))
 rw[List.length_take,List.length_drop]at this
 omega
theorem c2u{ys:List In}{i j:Nat}(hi:i≤ys.length)(hj:j≤ys.length)(h:Z9 ys i=Z9 ys j):i=j:=by
 rcases Nat.lt_trichotomy i j with hl|hl|hl
 ·have:=b2V hl hj;omega
 ·exact hl
 ·have:=b2V hl hi;omega
def chn:Nat→List (Nat×Nat)→Nat→Prop
 |a,[],b=>a=b
 |a,(s,t)::l,b=>s=a∧s<t∧chn t l b
theorem a3n{s t:Nat}:∀ {l:List (Nat×Nat)} {a b:Nat},chn a (l++[(s,t)]) b↔chn a l s∧s<t∧t=b
 | [],a,b=>by simp only[List.nil_append,chn];constructor<;>(rintro⟨h1,h2,h3⟩;exact⟨h1.symm,h2,h3⟩)
 |(u,v)::l,a,b=>by
  simp only[List.cons_append,chn,a3n (l:=l)]
  constructor
  ·rintro⟨h1,h2,h3,h4⟩;exact⟨⟨h1,h2,h3⟩,h4⟩
  ·rintro⟨⟨h1,h2,h3⟩,h4⟩;exact⟨h1,h2,h3,h4⟩
theorem b2j:∀ {l:List (Nat×Nat)} {a b:Nat},chn a l b→a≤b∧∀c∈l,a≤c.1∧c.1<c.2∧c.2≤b
 | [],a,b,h=>⟨Nat.le_of_eq h,fun c hc=>by cases hc⟩
 |(s,t)::l,a,b,⟨h1,h2,h3⟩=>by
  obtain⟨i1,i2⟩:=b2j h3
  refine⟨by omega,fun c hc=> ?_⟩
  rcases List.mem_cons.1 hc with rfl|hc
  ·exact⟨by simp only;omega,h2,i1⟩
  ·have:=i2 c hc;omega
theorem b2G:∀ {l:List (Nat×Nat)} {a b:Nat},chn a l b→∀c∈l,∀d∈l,¬(c.1<d.1∧d.1<c.2)
 | [],a,b,h,c,hc,_,_=>by cases hc
 |(s,t)::l,a,b,⟨h1,h2,h3⟩,c,hc,d,hd=>by
  have i2:=(b2j h3).2
  rcases List.mem_cons.1 hc with rfl|hc
  ·rcases List.mem_cons.1 hd with rfl|hd
   ·simp only;omega
   ·have:=i2 d hd;simp only;omega
  ·rcases List.mem_cons.1 hd with rfl|hd
   ·have:=i2 c hc;simp only;omega
   ·exact b2G h3 c hc d hd
theorem b7z:∀ {l:List (Nat×Nat)} {a b:Nat},chn a l b→∀c∈l,c.2=b∨∃d∈l,d.1=c.2
 | [],_,_,_,c,hc=>by cases hc
 |(s,t)::l,a,b,⟨h1,h2,h3⟩,c,hc=>by
  rcases List.mem_cons.1 hc with rfl|hc
  ·cases l with
   |nil=>exact .inl h3
   |cons x l=>obtain⟨u,v⟩:=x;exact .inr ⟨(u,v),by simp,h3.1⟩
  ·rcases b7z h3 c hc with h|⟨d,hd,e⟩
   ·exact .inl h
   ·exact .inr ⟨d,List.mem_cons_of_mem _ hd,e⟩
def mkB(ys:List In)(c:Nat×Nat):P6:=⟨Z9 ys c.1,Z9 ys c.2,match ys[c.2 - 1]? with|some y=>t8 y (Z9 ys c.2)|none=>[]⟩
def a7a(ys:List In)(tops:List Int):Nat→List Int×List P6
 |0=>(tops,[])
 |n+1=>match ys[n]? with
  |some y=>if(a7a ys tops n).1.head? =some (Z9 ys n) then((a7a ys tops n).1.tail,(a7a ys tops n).2++[⟨Z9 ys n,Z9 ys (n+1),t8 y (Z9 ys (n+1))⟩])
   else((a7a ys tops n).1,a0f (a7a ys tops n).2 (Z9 ys (n+1)) (t8 y (Z9 ys (n+1))))
  |none=>a7a ys tops n
theorem b8M{ys:List In}{tops:List Int}:∀n,n≤ys.length→A4 ys (a2x 0 ys++[((A8 ys).length:Int)]) tops n=a7a ys tops n
 |0,_=>rfl
 |n+1,h=>by
  rw[A4,b8M n (by omega),a7a,b5F,b5M (show n≤ys.length by omega),b5M h]
  cases ys[n]? <;>rfl
theorem b8O{ys:List In}{tops:List Int}(h0:tops.head? =some (Z9 ys 0)):∀n,n≤ys.length→∃cuts,chn 0 cuts n∧(a7a ys tops n).2=cuts.map (mkB ys)∧tops=cuts.map (fun c=>Z9 ys c.1)++(a7a ys tops n).1
 |0,_=>⟨[],rfl,rfl,rfl⟩
 |n+1,h=>by
  obtain⟨cuts,c1,c2,c3⟩:=b8O h0 n (by omega)
  have ey:ys[n]? =some ys[n]:=List.getElem?_eq_getElem (by omega)
  simp only[a7a,ey]
  by_cases hh:(a7a ys tops n).1.head? =some (Z9 ys n)
  ·rw[if_pos hh]
   refine⟨cuts++[(n,n+1)],a3n.2 ⟨c1,by omega,rfl⟩, ?_, ?_⟩
   ·rw[c2,List.map_append]
    simp only[List.map_cons,List.map_nil,mkB,Nat.add_sub_cancel,ey]
   ·rw[List.map_append,List.append_assoc]
    conv=>lhs;rw[c3]
    congr 1
    cases hl:(a7a ys tops n).1 with
    |nil=>rw[hl]at hh;cases hh
    |cons a l=>rw[hl]at hh;cases hh;rfl
  ·rw[if_neg hh]
   have hne:cuts≠[]:=fun e=>by
    subst e
    have hn0:0=n:=c1
    subst hn0
    exact hh h0
   obtain⟨cs,⟨s,t⟩,rfl⟩:∃cs c,cuts=cs++[c]:=⟨_,_,(List.dropLast_concat_getLast hne).symm⟩
   obtain⟨d1,d2,rfl⟩:=a3n.1 c1
   refine⟨cs++[(s,t+1)],a3n.2 ⟨d1,by omega,rfl⟩, ?_, ?_⟩
   ·rw[c2,List.map_append,List.map_append]
    simp only[List.map_cons,List.map_nil]
    rw[a3Q]
    simp only[mkB,Nat.add_sub_cancel,ey]
   ·rw[List.map_append]at c3 ⊢
    exact c3
def b5i(ys:List In)(q:Int):Prop:=q=0∨∃i y,ys[i]? =some y∧J3 y=true∧(q∈t8 y (Z9 ys (i+1))∨(i+1<ys.length∧q=Z9 ys (i+1)))
theorem b6U{ys:List In}{q:Int}:q∈u4 ys (a2x 0 ys++[((A8 ys).length:Int)]) ys.length↔b5i ys q:=by
 unfold u4 b5i
 simp only[List.mem_cons,List.mem_flatMap,List.mem_range]
 constructor
 ·rintro(h|⟨i,hi,h⟩)
  ·exact .inl h
  ·have ey:ys[i]? =some ys[i]:=List.getElem?_eq_getElem hi
   refine .inr ⟨i,ys[i],ey, ?_⟩
   unfold b0w at h
   rw[ey]at h
   simp only at h
   rw[b5M (show i+1≤ys.length by omega)]at h
   split at h
   ·rename_i he
    refine⟨he, ?_⟩
    rcases List.mem_append.1 h with h|h
    ·exact .inl h
    ·split at h
     ·rename_i hl;exact .inr ⟨hl,List.mem_singleton.1 h⟩
     ·cases h
   ·cases h
 ·rintro(h|⟨i,y,ey,he,h⟩)
  ·exact .inl h
  ·have hi:=(List.getElem?_eq_some_iff.1 ey).1
   refine .inr ⟨i,hi, ?_⟩
   unfold b0w
   rw[ey]
   simp only
   rw[b5M (show i+1≤ys.length by omega),if_pos he]
   refine List.mem_append.2 (h.imp id fun⟨h1,h2⟩=> ?_)
   rw[if_pos h1,h2]
   exact List.mem_singleton.2 rfl
structure Cut (ys:List In) (cuts:List (Nat×Nat)):Prop where
 chain:chn 0 cuts ys.length
 pos:ys≠[]
 heads:∀q,q∈cuts.map (fun c=>Z9 ys c.1)↔b5i ys q
 last:∀y,ys.getLast? =some y→Z9 ys ys.length ∉ t8 y (Z9 ys ys.length)
theorem a5D(ys:List In):((A8 ys).length:Int)=Z9 ys ys.length:=by unfold Z9;rw[List.take_length]
theorem c1z(ys:List In):Z9 ys 0=0:=rfl
theorem a7d{ys:List In}:∀ {cuts:List (Nat×Nat)} {a:Nat},chn a cuts ys.length→(cuts.map fun c=>Z9 ys c.1).Pairwise (· < ·)
 | [],_,_=>List.Pairwise.nil
 |(s,t)::l,a,⟨h1,h2,h3⟩=>by
  refine List.pairwise_cons.2 ⟨fun q hq=> ?_,a7d h3⟩
  obtain⟨c,hc,rfl⟩:=List.mem_map.1 hq
  have:=(b2j h3).2 c hc
  exact b2V (by simp only;omega) (by omega)
theorem c2O{ys:List In}(hs:∀y∈ys,isS y=true):∃L,a6a (A8 ys)= .ok L∧A1 L=ys∧E5 L=a2x 0 ys:=by
 obtain⟨L,h1,h2,h3⟩:=c0V ys hs [] ((A8 ys).length+1) (by have:=a3j ys;omega)
 exact⟨L,h1,h2,h3⟩
theorem c2r{code:List Int}(hb:∀b∈code,I2 b){L:List (Dat×Nat)}(h:a6a code= .ok L):code=A8 (A1 L)∧E5 L=a2x 0 (A1 L)∧∀y∈A1 L,isS y=true:=by
 have:=c0M hb _ _ L h (Nat.zero_le _) (by omega)
 rwa [List.drop_zero]at this
theorem Cut.tops{ys:List In}{cuts:List (Nat×Nat)}(h:Cut ys cuts):a0r (u4 ys (a2x 0 ys++[((A8 ys).length:Int)]) ys.length)=cuts.map fun c=>Z9 ys c.1:=
 Y6 (D1 _).1 (a7d h.chain) fun q=>by rw[(D1 _).2,b6U,h.heads]
theorem Cut.ne{ys:List In}{cuts:List (Nat×Nat)}(h:Cut ys cuts):cuts≠[]:=fun e=>by
 have:=h.chain
 rw[e]at this
 exact h.pos (List.length_eq_zero_iff.1 (show 0=ys.length from this).symm)
theorem b3j{code:List Int}(hb:∀b∈code,I2 b){l:List P6}(h:M0 code=(l,0)):∃ys cuts,code=A8 ys∧(∀y∈ys,isS y=true)∧Cut ys cuts∧l=cuts.map (mkB ys):=by
 unfold M0 at h
 cases ha:a6a code with
 |error e=>
  rw[ha]at h
  simp only[Prod.mk.injEq]at h
  exact absurd h.2 (a7l _ _ _ ha)
 |ok L=>
  obtain⟨h1,h2,h3⟩:=c2r hb ha
  rw[ha]at h
  simp only at h
  rw[h2]at h
  generalize A1 L=ys at*
  subst h1
  rw[b8M _ (Nat.le_refl _)]at h
  by_cases hys:ys=[]
  ·subst hys
   simp[a7a,a0I]at h
  have h0:(a0r (u4 ys (a2x 0 ys++[((A8 ys).length:Int)]) ys.length)).head? =some (Z9 ys 0):=by
   rw[c1z]
   refine b3T (by simp[u4]) (a4t h3 (fun q hq=> ?_) _)
   rcases List.mem_append.1 hq with hq|hq
   ·obtain⟨i,hi⟩:=List.getElem?_of_mem hq
    have hil:=(List.getElem?_eq_some_iff.1 hi).1
    rw[a3b]at hil
    rw[b0X ys 0 i hil]at hi
    cases hi
    unfold Z9
    omega
   ·rw[List.mem_singleton.1 hq];omega
  obtain⟨cuts,c1,c2,c3⟩:=b8O h0 ys.length (Nat.le_refl _)
  generalize hbf:a7a ys (a0r (u4 ys (a2x 0 ys++[((A8 ys).length:Int)]) ys.length)) ys.length=st at*
  obtain⟨rest,bl⟩:=st
  simp only at c2 c3
  unfold a0I at h
  cases rest with
  |cons a r=>simp only[Prod.mk.injEq]at h;exact absurd h.2 (by decide)
  |nil=>
   cases hl:bl.getLast? with
   |none=>rw[hl]at h;simp only[Prod.mk.injEq]at h;exact absurd h.2 (by decide)
   |some b=>
    rw[hl]at h
    simp only at h
    split at h
    ·simp only[Prod.mk.injEq]at h;exact absurd h.2 (by decide)
    ·rename_i hlast
     cases h
     rw[List.append_nil]at c3
     refine⟨ys,cuts,rfl,h3,⟨c1,hys,fun q=>by rw[←c3,(D1 _).2,b6U],fun y hy=> ?_⟩,c2⟩
     rw[c2]at hl
     obtain⟨cs,⟨s,t⟩,e⟩:∃cs c,cuts=cs++[c]:=⟨_,_,(List.dropLast_concat_getLast (fun e=>by rw[e]at hl;cases hl)).symm⟩
     rw[e]at c1 hl
     obtain⟨_,hst,htn⟩:=a3n.1 c1
     rw[List.map_append,List.map_cons,List.map_nil,List.getLast?_concat]at hl
     cases hl
     subst htn
     rw[List.getLast?_eq_getElem?]at hy
     simp only[mkB,hy]at hlast
     rw[←a5D]
     rw[a5D]at hlast ⊢
     exact hlast
end
section
set_option linter.unusedSectionVars false
section
variable{E:d6}{w0:i9}
theorem c1o{l:List P6}{s:List Int}(hat:∀b∈l,I64 b.at')(hl:l.length<2^37)(hW:wgt (fun _=>true) l<2^37)(hnx:∀b∈l,b.next.length<2^37)(hs:s.Pairwise (· < ·))(h1:∀n∈s,a6L l n)(h2:∀n,a6L l n→n∈s):a0A Try.prog E w0 I7 [B5 l] (iD s):=fun S=>
 (b0r hat hl hW hnx).use fun d S' ⟨a,r,b,c,e⟩=>⟨by rw[b,c1N c hs fun n=>⟨fun h=>h2 n ((e n).1 h),fun h=>(e n).2 (h1 n h)⟩],a⟩
theorem b0Z:a0A Try.prog E w0 I0 [] (.bool true):=fun S=>by
 refine a9t ?_
 unfold a6h
 rw[show z6 1 (List.replicate 3 [D.int .u8 0]) [(0, .int .u8 52),(1, .int .u8 1),(2, .int .u8 51)]=some (W6 ([52,1,51].map (D.int .u8))) from rfl]
 refine P7 rfl ?_
 refine(show s4 Try.prog E w0 W0 [bD [52,1,51]] S _ from(a7s (by simp[I2]) (by decide)).use ?_)
 rw[show M0 [52,1,51]=([⟨0,2,[]⟩,⟨2,3,[]⟩],0) from by rw[c1v];kernel_rfl]
 have hln:j9 (B5 [⟨0,2,[]⟩,⟨2,3,[]⟩])=some (.int .i64 2):=rfl
 have i0:m9 3 (B5 [⟨0,2,[]⟩,⟨2,3,[]⟩]) (.int .i64 0)=some (.elt (D8 ⟨0,2,[]⟩) 0):=rfl
 have i1:m9 3 (B5 [⟨0,2,[]⟩,⟨2,3,[]⟩]) (.int .i64 1)=some (.elt (D8 ⟨2,3,[]⟩) 0):=rfl
 have r0:∀b:P6,(D8 b)[0]? =some (.int .i64 b.at'):=fun _=>rfl
 have r1:∀b:P6,(D8 b)[1]? =some (.int .i64 b.end'):=fun _=>rfl
 have r2:∀b:P6,(D8 b)[2]? =some (iD b.next):=fun _=>rfl
 unfold ofD
 simp only[exD,List.getElem?_cons_zero,List.getElem?_cons_succ,oD,a2B,eqI,decide_true,wdB,t4,vdT,hln,pdB,if_true,i0,i1,ofE,Nat.zero_add,lsE,r0,r1,r2,a1q,List.length_nil,Int.ofNat_zero,gdT]
 refine(show s4 Try.prog E w0 I7 [B5 [⟨0,2,[]⟩,⟨2,3,[]⟩]] S _ from(c1o (s:=[0]) (by simp[I64]) (by decide) (by decide) (by simp) (by simp) (fun n hn=> ?_) (fun n hn=> ?_)).use ?_)
 ·rw[List.mem_singleton.1 hn];exact .base (b:=⟨0,2,[]⟩) rfl
 ·refine b8k (fun b hb=> ?_) (fun a i b ha hi hb m hm _=> ?_) hn
  ·cases hb;simp
  ·rw[List.mem_singleton.1 ha]at hi
   cases hi
   cases hb
   cases hm
 rw[show z6 1 (List.replicate 1 [D.int .i64 0]) [(0, .int .i64 0)]=some (iC [0]) from rfl]
 refine P7 (rows:=iC [0]) (len:=1) rfl ?_
 refine(show s4 Try.prog E w0 I3 [iD [0],iD [0]] S _ from(a3W (by decide) (by decide)).use ?_)
 simp only[decide_true,pdB,if_true,oD]
 exact b9.pure
end
end
section
set_option linter.unusedSectionVars false
theorem c2H(rows more:List (List D))(sz:Nat):Wk (b5k rows more sz) (.lst rows sz):=by
 unfold b5k
 split
 ·exact Wk.refl _
 ·exact Wk.ext _ _ _
theorem bR0(b:P6):(D8 b)[0]? =some (.int .i64 b.at'):=rfl
theorem bR1(b:P6):(D8 b)[1]? =some (.int .i64 b.end'):=rfl
theorem bR2(b:P6):(D8 b)[2]? =some (iD b.next):=rfl
section
variable{E:d6}{w0:i9}
def tF(E:d6):D→b4→Prop:=b9 E fun v _=>v= .bool true
theorem b3J{S:b4}:s4 Try.prog E w0 I0 [] S (tF E):=b0Z.use (b9.here rfl)
end
end
end Go.Proofs.Ytdkidgkiplcggaa.d
end
