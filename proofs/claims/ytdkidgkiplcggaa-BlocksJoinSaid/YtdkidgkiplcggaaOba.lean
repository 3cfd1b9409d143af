/-
  BlocksJoinSaid: part Oba of its proof.
-/
import Derived.Test.YtdkidgkiplcggaaOay
import Derived.Test.YtdkidgkiplcggaaOaz
import Derived.Test.YtdkidgkiplcggaaRows
import Derived.Test.YtdkidgkiplcggaaOar
import Derived.KernelRfl
set_option linter.unusedVariables false
set_option linter.unusedSimpArgs false
set_option maxRecDepth 100000
section
open Go.Proofs Go Go.Am Go.Op
namespace Go.Proofs.Ytdkidgkiplcggaa.d
set_option linter.unusedSectionVars false
def b7A(a:Int):List Int→List Int
 | []=>[a]
 |b::l=>if a<b then a::b::l else if a=b then b::l else b::b7A a l
theorem b2h(a:Int):∀(l:List Int) (n:Int),n∈b7A a l↔n=a∨n∈l
 | [],n=>by simp[b7A]
 |b::l,n=>by
  unfold b7A
  by_cases h1:a<b
  ·rw[if_pos h1];simp
  rw[if_neg h1]
  by_cases h2:a=b
  ·rw[if_pos h2];subst h2;simp
  rw[if_neg h2,List.mem_cons,b2h a l n,List.mem_cons]
  constructor
  ·rintro(h|h|h)
   ·exact .inr (.inl h)
   ·exact .inl h
   ·exact .inr (.inr h)
  ·rintro(h|h|h)
   ·exact .inr (.inl h)
   ·exact .inl h
   ·exact .inr (.inr h)
theorem b1n(a:Int):∀(l:List Int),l.Pairwise (· < ·)→(b7A a l).Pairwise (· < ·)
 | [],_=>List.pairwise_singleton _ _
 |b::l,h=>by
  obtain⟨h0,h3⟩:=List.pairwise_cons.1 h
  unfold b7A
  by_cases h1:a<b
  ·rw[if_pos h1]
   refine List.pairwise_cons.2 ⟨fun n hn=> ?_,h⟩
   rcases List.mem_cons.1 hn with rfl|hn
   ·exact h1
   ·have:=h0 n hn;omega
  rw[if_neg h1]
  by_cases h2:a=b
  ·rw[if_pos h2];exact h
  rw[if_neg h2]
  refine List.pairwise_cons.2 ⟨fun n hn=> ?_,b1n a l h3⟩
  rcases(b2h a l n).1 hn with rfl|hn
  ·omega
  ·exact h0 n hn
def b4g(l:List Int):List Int:=l.foldr b7A []
theorem b3d:∀l:List Int,(b4g l).Pairwise (· < ·)∧∀n,n∈b4g l↔n∈l
 | []=>⟨List.Pairwise.nil,fun n=>Iff.rfl⟩
 |a::l=>by
  obtain⟨h1,h2⟩:=b3d l
  refine⟨b1n a _ h1,fun n=> ?_⟩
  show n∈b7A a (b4g l)↔_
  rw[b2h,h2,List.mem_cons]
theorem c1I(l:List Int):a0t l=b4g l:=Z0 (C9 l).1 (b3d l).1 fun n=>by rw[(C9 l).2,(b3d l).2]
def b2n(y:In)(next:Int):List Int:=
 if y.op=51∨y.op=52 then[]else if y.op=46 then[y.a]else b4g (if y.op=47∨y.op=48 then[next,y.a]else if y.op=49 then y.b::y.arms.map (·.2) else[next])
theorem b9P(y:In)(next:Int):p9 y next=b2n y next:=by unfold p9 b2n;rw[c1I]
section
variable{E:d6}{w0:i7}
end
end Go.Proofs.Ytdkidgkiplcggaa.d
end
section
open Go.Proofs Go Go.Am
namespace Go.Proofs.Ytdkidgkiplcggaa.d
def D7:List (Nat×List Nat):=[(14,[0,1,5,6,7,8,9,12]),(40,[0,5,7,14,16])]
def E0:List (Nat×List Nat):=[]
def D6:List (Nat×Arr):=[]
noncomputable def G6:Code:=(j4 [1,1,1,1,1,1,1,1,1,1,1,1,0,1,0,0] (Try.f6.body.getD .skip))
def H6(E:d6)(w0:i7)(Q:D→b5→Prop):j7→List D→b5→Prop:=
 (A4 2 (a1O Try.prog E w0 D7 E0 D6 (j4 [1,1,1,1,1,1,1,1,1,1,1,1,1] (Try.f6.body.getD .skip)) (R5 Try.prog Try.f6 Q)))
def P3(E:d6)(w0:i7)(N1:D→D→D→D→D→b5→Prop)(Q:D→b5→Prop)(x0 x5 x7 x14 x16:D)(S:b5):Prop:=
 a8 (j8 x7) fun v70=>
 a8 (d4 .lss x16 v70) fun v71=>
 d9 v71
 (a8 (j8 x5) fun v72=>
 a8 (d4 .add v72 x16) fun v73=>
 a8 (m9 3 x14 v73) fun v74=>
 a8 (s0 S 3 v74) fun v75=>
 o8 S [(.int .i64 0),(.int .i64 0), .nilSlc] fun v76 S77=>
 j1 S77 3 v76 v75 fun v78 S79=>
 a8 (t6 0 v76) fun v80=>
 a8 (c9 S79 v80) fun v81=>
 a8 (m9 3 x7 x16) fun v82=>
 a8 (t6 0 v82) fun v83=>
 a8 (c9 S79 v83) fun v84=>
 a8 (j8 x0) fun v85=>
 a8 (d4 .add v84 v85) fun v86=>
 a8 (d4 .neq v81 v86) fun v87=>
 a8 (c8 (b7 v87 false) (t6 1 v76)) fun v88=>
 a8 (c8 (b7 v87 false) (c9 S79 v88)) fun v89=>
 a8 (c8 (b7 v87 false) (some x7)) fun v90=>
 a8 (c8 (b7 v87 false) (some x16)) fun v91=>
 a8 (c8 (b7 v87 false) (m9 3 v90 v91)) fun v92=>
 a8 (c8 (b7 v87 false) (t6 1 v92)) fun v93=>
 a8 (c8 (b7 v87 false) (c9 S79 v93)) fun v94=>
 a8 (c8 (b7 v87 false) (some x0)) fun v95=>
 a8 (c8 (b7 v87 false) (j8 v95)) fun v96=>
 a8 (c8 (b7 v87 false) (d4 .add v94 v96)) fun v97=>
 a8 (c8 (b7 v87 false) (d4 .neq v89 v97)) fun v98=>
 a8 (F5 v87 (.bool true) v98) fun v99=>
 a8 (c8 (b7 v99 false) (t6 2 v76)) fun v100=>
 a8 (c8 (b7 v99 false) (c9 S79 v100)) fun v101=>
 a8 (c8 (b7 v99 false) (j8 v101)) fun v102=>
 a8 (c8 (b7 v99 false) (some x7)) fun v103=>
 a8 (c8 (b7 v99 false) (some x16)) fun v104=>
 a8 (c8 (b7 v99 false) (m9 3 v103 v104)) fun v105=>
 a8 (c8 (b7 v99 false) (t6 2 v105)) fun v106=>
 a8 (c8 (b7 v99 false) (c9 S79 v106)) fun v107=>
 a8 (c8 (b7 v99 false) (j8 v107)) fun v108=>
 a8 (c8 (b7 v99 false) (d4 .neq v102 v108)) fun v109=>
 a8 (F5 v99 (.bool true) v109) fun v110=>
 d9 v110
 (Q (.bool false) S79)
 (a8 (d4 .add x16 (.int .i64 1)) fun v111=>
 N1 x0 x5 x7 x14 v111 S79))
 (r7 Try.prog E w0 B5 [x14] S fun v112 S113=>
 r7 Try.prog E w0 B5 [x5] S113 fun v114 S115=>
 r7 Try.prog E w0 C4 [v112,v114] S115 fun v116 S117=>
 a0J (b7 v116 true) (fun K=>r7 Try.prog E w0 I1 [] S117 K) S117 fun v118 S119=>
 a8 (F5 v116 v118 (.bool false)) fun v120=>
 Q v120 S119)
theorem a3h{E:d6}{w0:i7}{N1:D→D→D→D→D→b5→Prop}{Q:D→b5→Prop}{x0 x5 x7 x14 x16:D}{S:b5}(h:P3 E w0 N1 Q x0 x5 x7 x14 x16 S):
  d5 Try.prog E w0 G6 (g8 160 [0,5,7,14,16] [x0,x5,x7,x14,x16]) S (I4 (fun T S=>N1 (T.getD 0 b6) (T.getD 5 b6) (T.getD 7 b6) (T.getD 14 b6) (T.getD 16 b6) S) (H6 E w0 Q)):=f9 D7 E0 D6 mixed (by kernel_rfl) h
theorem a2Y{E:d6}{w0:i7}{Q:D→b5→Prop}(I:Nat→D→D→D→D→D→b5→Prop)
  (step:∀n x0 x5 x7 x14 x16 S,I n x0 x5 x7 x14 x16 S→P3 E w0 (fun x0 x5 x7 x14 x16 S=>∃m,m<n∧I m x0 x5 x7 x14 x16 S) Q x0 x5 x7 x14 x16 S)
  {n:Nat} {x0 x5 x7 x14 x16:D} {S:b5} (h:I n x0 x5 x7 x14 x16 S):d5 Try.prog E w0 (.loop G6) (g8 160 [0,5,7,14,16] [x0,x5,x7,x14,x16]) S (H6 E w0 Q):=
 t8 (k:=160) (n:=n) (I:=fun n T S=>I n (T.getD 0 b6) (T.getD 5 b6) (T.getD 7 b6) (T.getD 14 b6) (T.getD 16 b6) S) (fun n T S hl hI=>z7 [0,5,7,14,16] hl (d5.mono (a3h (step n _ _ _ _ _ S hI)) fun ex T' S' _ hq=>by cases ex<;>exact hq)) (j0 ..) (Eq.mp (by kernel_rfl) h)
noncomputable def O2:Code:=(j4 [1,1,1,1,1,0,1,0,0] (Try.f6.body.getD .skip))
def O3(E:d6)(w0:i7)(Q:D→b5→Prop):j7→List D→b5→Prop:=
 (A4 0 (a1O Try.prog E w0 D7 E0 D6 (j4 [1,1,1,1,1,1] (Try.f6.body.getD .skip)) (R5 Try.prog Try.f6 Q)))
def O0(E:d6)(w0:i7)(N0:D→D→D→D→D→D→D→D→b5→Prop)(Q:D→b5→Prop)(x0 x1 x5 x6 x7 x8 x9 x12:D)(S:b5):Prop:=
 a8 (j8 x9) fun v21=>
 a8 (d4 .lss x12 v21) fun v22=>
 d9 v22
 (a8 (m9 4 x9 x12) fun v23=>
 a8 (t6 0 v23) fun v24=>
 a8 (c9 S v24) fun v25=>
 a8 (d4 .geq v25 (.int .u8 46)) fun v26=>
 a8 (c8 (b7 v26 true) (some x9)) fun v27=>
 a8 (c8 (b7 v26 true) (some x12)) fun v28=>
 a8 (c8 (b7 v26 true) (m9 4 v27 v28)) fun v29=>
 a8 (c8 (b7 v26 true) (t6 0 v29)) fun v30=>
 a8 (c8 (b7 v26 true) (c9 S v30)) fun v31=>
 a8 (c8 (b7 v26 true) (d4 .leq v31 (.int .u8 49))) fun v32=>
 a8 (F5 v26 v32 (.bool false)) fun v33=>
 d9 v33
 (r7 Try.prog E w0 I1 [] S fun v34 S35=>
 Q v34 S35)
 (a8 (d4 .add x12 (.int .i64 1)) fun v36=>
 N0 x0 x1 x5 x6 x7 x8 x9 v36 S))
 (a8 (d4 .neq x6 (.int .i64 0)) fun v37=>
 a8 (c8 (b7 v37 false) (some x8)) fun v38=>
 a8 (c8 (b7 v37 false) (d4 .neq v38 (.int .i64 0))) fun v39=>
 a8 (F5 v37 (.bool true) v39) fun v40=>
 d9 v40
 (r7 Try.prog E w0 I1 [] S fun v41 S42=>
 Q v41 S42)
 (s9 S 1 1 .nilSlc x0 fun v43 S44=>
 s9 S44 1 1 v43 x1 fun v45 S46=>
 r7 Try.prog E w0 E8 [v45] S46 fun v47 S48=>
 a8 (m6 v47 0) fun v49=>
 a8 (m6 v47 1) fun v50=>
 a8 (d4 .neq v50 (.int .i64 0)) fun v51=>
 a8 (c8 (b7 v51 false) (some v49)) fun v52=>
 a8 (c8 (b7 v51 false) (j8 v52)) fun v53=>
 a8 (c8 (b7 v51 false) (some x5)) fun v54=>
 a8 (c8 (b7 v51 false) (j8 v54)) fun v55=>
 a8 (c8 (b7 v51 false) (some x7)) fun v56=>
 a8 (c8 (b7 v51 false) (j8 v56)) fun v57=>
 a8 (c8 (b7 v51 false) (d4 .add v55 v57)) fun v58=>
 a8 (c8 (b7 v51 false) (d4 .neq v53 v58)) fun v59=>
 a8 (F5 v51 (.bool true) v59) fun v60=>
 a8 (c8 (b7 v60 false) (some v49)) fun v61=>
 a8 (c8 (b7 v60 false) (some x5)) fun v62=>
 a8 (c8 (b7 v60 false) (j8 v62)) fun v63=>
 a8 (c8 (b7 v60 false) (V3 3 v61 none (some v63) none)) fun v64=>
 a8 (c8 (b7 v60 false) (some x5)) fun v65=>
 a0J (b7 v60 false) (fun K=>r7 Try.prog E w0 a0O [v64,v65] S48 K) S48 fun v66 S67=>
 a8 (c8 (b7 v60 false) (unD .not v66)) fun v68=>
 a8 (F5 v60 (.bool true) v68) fun v69=>
 d9 v69
 (Q (.bool false) S67)
 (d5 Try.prog E w0 (.loop G6) (g8 160 [0,5,7,14,16] [x0,x5,x7,v49,(.int .i64 0)]) S67 (H6 E w0 Q))))
theorem a3a{E:d6}{w0:i7}{N0:D→D→D→D→D→D→D→D→b5→Prop}{Q:D→b5→Prop}{x0 x1 x5 x6 x7 x8 x9 x12:D}{S:b5}(h:O0 E w0 N0 Q x0 x1 x5 x6 x7 x8 x9 x12 S):
  d5 Try.prog E w0 O2 (g8 160 [0,1,5,6,7,8,9,12] [x0,x1,x5,x6,x7,x8,x9,x12]) S (I4 (fun T S=>N0 (T.getD 0 b6) (T.getD 1 b6) (T.getD 5 b6) (T.getD 6 b6) (T.getD 7 b6) (T.getD 8 b6) (T.getD 9 b6) (T.getD 12 b6) S) (O3 E w0 Q)):=f9 D7 E0 D6 mixed (by kernel_rfl) h
theorem a2T{E:d6}{w0:i7}{Q:D→b5→Prop}(I:Nat→D→D→D→D→D→D→D→D→b5→Prop)
  (step:∀n x0 x1 x5 x6 x7 x8 x9 x12 S,I n x0 x1 x5 x6 x7 x8 x9 x12 S→O0 E w0 (fun x0 x1 x5 x6 x7 x8 x9 x12 S=>∃m,m<n∧I m x0 x1 x5 x6 x7 x8 x9 x12 S) Q x0 x1 x5 x6 x7 x8 x9 x12 S)
  {n:Nat} {x0 x1 x5 x6 x7 x8 x9 x12:D} {S:b5} (h:I n x0 x1 x5 x6 x7 x8 x9 x12 S):d5 Try.prog E w0 (.loop O2) (g8 160 [0,1,5,6,7,8,9,12] [x0,x1,x5,x6,x7,x8,x9,x12]) S (O3 E w0 Q):=
 t8 (k:=160) (n:=n) (I:=fun n T S=>I n (T.getD 0 b6) (T.getD 1 b6) (T.getD 5 b6) (T.getD 6 b6) (T.getD 7 b6) (T.getD 8 b6) (T.getD 9 b6) (T.getD 12 b6) S) (fun n T S hl hI=>z7 [0,1,5,6,7,8,9,12] hl (d5.mono (a3a (step n _ _ _ _ _ _ _ _ S hI)) fun ex T' S' _ hq=>by cases ex<;>exact hq)) (j0 ..) (Eq.mp (by kernel_rfl) h)
def a1z(E:d6)(w0:i7)(Q:D→b5→Prop)(a0 a1:D)(S:b5):Prop:=
 a8 (j8 a0) fun v0=>
 a8 (d4 .gtr v0 (.int .i64 2000)) fun v1=>
 a8 (c8 (b7 v1 false) (some a1)) fun v2=>
 a8 (c8 (b7 v1 false) (j8 v2)) fun v3=>
 a8 (c8 (b7 v1 false) (d4 .gtr v3 (.int .i64 2000))) fun v4=>
 a8 (F5 v1 (.bool true) v4) fun v5=>
 d9 v5
 (r7 Try.prog E w0 I1 [] S fun v6 S7=>
 Q v6 S7)
 (r7 Try.prog E w0 E8 [a0] S fun v8 S9=>
 a8 (m6 v8 0) fun v10=>
 a8 (m6 v8 1) fun v11=>
 r7 Try.prog E w0 E8 [a1] S9 fun v12 S13=>
 a8 (m6 v12 0) fun v14=>
 a8 (m6 v12 1) fun v15=>
 r7 Try.prog E w0 Y7 [a1] S13 fun v16 S17=>
 a8 (m6 v16 0) fun v18=>
 a8 (m6 v16 1) fun v19=>
 a8 (m6 v16 2) fun v20=>
 d5 Try.prog E w0 (.loop O2) (g8 160 [0,1,5,6,7,8,9,12] [a0,a1,v10,v11,v14,v15,v18,(.int .i64 0)]) S17 (O3 E w0 Q))
theorem a4n{E:d6}{w0:i7}{Q:D→b5→Prop}{a0 a1:D}{S:b5}(h:a1z E w0 (b8 E Q) a0 a1 S):r7 Try.prog E w0 a1C [a0,a1] S Q:=
 q9 D7 E0 D6 (fn:=Try.f6) (c:=Try.f6.body.getD .skip) mixed Try.func6 (by kernel_rfl) (by kernel_rfl) h
def b2F:List (Nat×List Nat):=[]
def b1w:List (Nat×List Nat):=[]
def b1J:List (Nat×Arr):=[]
def a6w(E:d6)(w0:i7)(Q:D→b5→Prop)(S:b5):Prop:=
 M2 S 1 (A1 1 (List.replicate 3 [(.int .u8 0)]) [(0,(.int .u8 52)),(1,(.int .u8 1)),(2,(.int .u8 51))]) 3 fun v0 S1=>
 r7 Try.prog E w0 E8 [v0] S1 fun v2 S3=>
 a8 (m6 v2 0) fun v4=>
 a8 (m6 v2 1) fun v5=>
 a8 (d4 .eql v5 (.int .i64 0)) fun v6=>
 a8 (c8 (b7 v6 true) (some v4)) fun v7=>
 a8 (c8 (b7 v6 true) (j8 v7)) fun v8=>
 a8 (c8 (b7 v6 true) (d4 .eql v8 (.int .i64 2))) fun v9=>
 a8 (F5 v6 v9 (.bool false)) fun v10=>
 a8 (c8 (b7 v10 true) (some v4)) fun v11=>
 a8 (c8 (b7 v10 true) (m9 3 v11 (.int .i64 0))) fun v12=>
 a8 (c8 (b7 v10 true) (t6 0 v12)) fun v13=>
 a8 (c8 (b7 v10 true) (c9 S3 v13)) fun v14=>
 a8 (c8 (b7 v10 true) (d4 .eql v14 (.int .i64 0))) fun v15=>
 a8 (F5 v10 v15 (.bool false)) fun v16=>
 a8 (c8 (b7 v16 true) (some v4)) fun v17=>
 a8 (c8 (b7 v16 true) (m9 3 v17 (.int .i64 0))) fun v18=>
 a8 (c8 (b7 v16 true) (t6 1 v18)) fun v19=>
 a8 (c8 (b7 v16 true) (c9 S3 v19)) fun v20=>
 a8 (c8 (b7 v16 true) (d4 .eql v20 (.int .i64 2))) fun v21=>
 a8 (F5 v16 v21 (.bool false)) fun v22=>
 a8 (c8 (b7 v22 true) (some v4)) fun v23=>
 a8 (c8 (b7 v22 true) (m9 3 v23 (.int .i64 1))) fun v24=>
 a8 (c8 (b7 v22 true) (t6 0 v24)) fun v25=>
 a8 (c8 (b7 v22 true) (c9 S3 v25)) fun v26=>
 a8 (c8 (b7 v22 true) (d4 .eql v26 (.int .i64 2))) fun v27=>
 a8 (F5 v22 v27 (.bool false)) fun v28=>
 a8 (c8 (b7 v28 true) (some v4)) fun v29=>
 a8 (c8 (b7 v28 true) (m9 3 v29 (.int .i64 1))) fun v30=>
 a8 (c8 (b7 v28 true) (t6 1 v30)) fun v31=>
 a8 (c8 (b7 v28 true) (c9 S3 v31)) fun v32=>
 a8 (c8 (b7 v28 true) (d4 .eql v32 (.int .i64 3))) fun v33=>
 a8 (F5 v28 v33 (.bool false)) fun v34=>
 a8 (c8 (b7 v34 true) (some v4)) fun v35=>
 a8 (c8 (b7 v34 true) (m9 3 v35 (.int .i64 0))) fun v36=>
 a8 (c8 (b7 v34 true) (t6 2 v36)) fun v37=>
 a8 (c8 (b7 v34 true) (c9 S3 v37)) fun v38=>
 a8 (c8 (b7 v34 true) (j8 v38)) fun v39=>
 a8 (c8 (b7 v34 true) (d4 .eql v39 (.int .i64 0))) fun v40=>
 a8 (F5 v34 v40 (.bool false)) fun v41=>
 a8 (c8 (b7 v41 true) (some v4)) fun v42=>
 a0J (b7 v41 true) (fun K=>r7 Try.prog E w0 B5 [v42] S3 K) S3 fun v43 S44=>
 a0J (b7 v41 true) (fun K=>M2 S44 1 (A1 1 (List.replicate 1 [(.int .i64 0)]) [(0,(.int .i64 0))]) 1 K) S44 fun v45 S46=>
 a0J (b7 v41 true) (fun K=>r7 Try.prog E w0 C4 [v43,v45] S46 K) S46 fun v47 S48=>
 a8 (F5 v41 v47 (.bool false)) fun v49=>
 Q v49 S48
theorem a9u{E:d6}{w0:i7}{Q:D→b5→Prop}{S:b5}(h:a6w E w0 (b8 E Q) S):r7 Try.prog E w0 I1 [] S Q:=
 q9 b2F b1w b1J (fn:=Try.f11) (c:=Try.f11.body.getD .skip) mixed Try.func11 (by kernel_rfl) (by kernel_rfl) h
def a2C:List (Nat×List Nat):=[(8,[0,1,5])]
def a2J:List (Nat×List Nat):=[]
def a2S:List (Nat×Arr):=[]
noncomputable def a1o:Code:=(j4 [1,1,0,1,0,0] (Try.f15.body.getD .skip))
def a1F(E:d6)(w0:i7)(Q:D→b5→Prop):j7→List D→b5→Prop:=
 (A4 0 (a1O Try.prog E w0 a2C a2J a2S (j4 [1,1,1] (Try.f15.body.getD .skip)) (R5 Try.prog Try.f15 Q)))
def a1s(E:d6)(w0:i7)(N0:D→D→D→b5→Prop)(Q:D→b5→Prop)(x0 x1 x5:D)(S:b5):Prop:=
 a8 (j8 x0) fun v3=>
 a8 (d4 .lss x5 v3) fun v4=>
 d9 v4
 (a8 (m9 3 x0 x5) fun v5=>
 a8 (t6 0 v5) fun v6=>
 a8 (c9 S v6) fun v7=>
 a8 (m9 3 x1 x5) fun v8=>
 a8 (t6 0 v8) fun v9=>
 a8 (c9 S v9) fun v10=>
 a8 (d4 .neq v7 v10) fun v11=>
 a8 (c8 (b7 v11 false) (some x0)) fun v12=>
 a8 (c8 (b7 v11 false) (some x5)) fun v13=>
 a8 (c8 (b7 v11 false) (m9 3 v12 v13)) fun v14=>
 a8 (c8 (b7 v11 false) (t6 1 v14)) fun v15=>
 a8 (c8 (b7 v11 false) (c9 S v15)) fun v16=>
 a8 (c8 (b7 v11 false) (some x1)) fun v17=>
 a8 (c8 (b7 v11 false) (some x5)) fun v18=>
 a8 (c8 (b7 v11 false) (m9 3 v17 v18)) fun v19=>
 a8 (c8 (b7 v11 false) (t6 1 v19)) fun v20=>
 a8 (c8 (b7 v11 false) (c9 S v20)) fun v21=>
 a8 (c8 (b7 v11 false) (d4 .neq v16 v21)) fun v22=>
 a8 (F5 v11 (.bool true) v22) fun v23=>
 a8 (c8 (b7 v23 false) (some x0)) fun v24=>
 a8 (c8 (b7 v23 false) (some x5)) fun v25=>
 a8 (c8 (b7 v23 false) (m9 3 v24 v25)) fun v26=>
 a8 (c8 (b7 v23 false) (t6 2 v26)) fun v27=>
 a8 (c8 (b7 v23 false) (c9 S v27)) fun v28=>
 a8 (c8 (b7 v23 false) (some x1)) fun v29=>
 a8 (c8 (b7 v23 false) (some x5)) fun v30=>
 a8 (c8 (b7 v23 false) (m9 3 v29 v30)) fun v31=>
 a8 (c8 (b7 v23 false) (t6 2 v31)) fun v32=>
 a8 (c8 (b7 v23 false) (c9 S v32)) fun v33=>
 a0J (b7 v23 false) (fun K=>r7 Try.prog E w0 C4 [v28,v33] S K) S fun v34 S35=>
 a8 (c8 (b7 v23 false) (unD .not v34)) fun v36=>
 a8 (F5 v23 (.bool true) v36) fun v37=>
 d9 v37
 (Q (.bool false) S35)
 (a8 (d4 .add x5 (.int .i64 1)) fun v38=>
 N0 x0 x1 v38 S35))
 (Q (.bool true) S)
theorem a7s{E:d6}{w0:i7}{N0:D→D→D→b5→Prop}{Q:D→b5→Prop}{x0 x1 x5:D}{S:b5}(h:a1s E w0 N0 Q x0 x1 x5 S):
  d5 Try.prog E w0 a1o (g8 55 [0,1,5] [x0,x1,x5]) S (I4 (fun T S=>N0 (T.getD 0 b6) (T.getD 1 b6) (T.getD 5 b6) S) (a1F E w0 Q)):=f9 a2C a2J a2S mixed (by kernel_rfl) h
theorem a8r{E:d6}{w0:i7}{Q:D→b5→Prop}(I:Nat→D→D→D→b5→Prop)
  (step:∀n x0 x1 x5 S,I n x0 x1 x5 S→a1s E w0 (fun x0 x1 x5 S=>∃m,m<n∧I m x0 x1 x5 S) Q x0 x1 x5 S)
  {n:Nat} {x0 x1 x5:D} {S:b5} (h:I n x0 x1 x5 S):d5 Try.prog E w0 (.loop a1o) (g8 55 [0,1,5] [x0,x1,x5]) S (a1F E w0 Q):=
 t8 (k:=55) (n:=n) (I:=fun n T S=>I n (T.getD 0 b6) (T.getD 1 b6) (T.getD 5 b6) S) (fun n T S hl hI=>z7 [0,1,5] hl (d5.mono (a7s (step n _ _ _ S hI)) fun ex T' S' _ hq=>by cases ex<;>exact hq)) (j0 ..) (Eq.mp (by kernel_rfl) h)
def a8y(E:d6)(w0:i7)(Q:D→b5→Prop)(a0 a1:D)(S:b5):Prop:=
 a8 (j8 a0) fun v0=>
 a8 (j8 a1) fun v1=>
 a8 (d4 .neq v0 v1) fun v2=>
 d9 v2
 (Q (.bool false) S)
 (d5 Try.prog E w0 (.loop a1o) (g8 55 [0,1,5] [a0,a1,(.int .i64 0)]) S (a1F E w0 Q))
theorem b0H{E:d6}{w0:i7}{Q:D→b5→Prop}{a0 a1:D}{S:b5}(h:a8y E w0 (b8 E Q) a0 a1 S):r7 Try.prog E w0 a0O [a0,a1] S Q:=
 q9 a2C a2J a2S (fn:=Try.f15) (c:=Try.f15.body.getD .skip) mixed Try.func15 (by kernel_rfl) (by kernel_rfl) h
end Go.Proofs.Ytdkidgkiplcggaa.d
end
section
open Go.Proofs Go Go.Am Go.Op
namespace Go.Proofs.Ytdkidgkiplcggaa.d
section
set_option linter.unusedSectionVars false
def b9Z(ys:List In)(ext:List Int)(i:Nat):List Int:=match ys[i]? with
 |some y=>if H8 y then b2n y (ext.getD (i+1) 0)++(if i+1<ys.length then[ext.getD (i+1) 0]else[]) else[]
 |none=>[]
theorem c4n(ys:List In)(ext:List Int)(i:Nat):b0n ys ext i=b9Z ys ext i:=by
 unfold b0n b9Z
 cases ys[i]? with
 |none=>rfl
 |some y=>simp only[b9P]
def c1q(ys:List In)(ext:List Int)(i:Nat)(st:List Int×List I7):List Int×List I7:=match ys[i]? with
 |some y=>if st.1.head? =some (ext.getD i 0) then(st.1.tail,st.2++[⟨ext.getD i 0,ext.getD (i+1) 0,b2n y (ext.getD (i+1) 0)⟩])
  else(st.1,a0p st.2 (ext.getD (i+1) 0) (b2n y (ext.getD (i+1) 0)))
 |none=>st
def b5O(ys:List In)(ext tops:List Int):Nat→List Int×List I7
 |0=>(tops,[])
 |n+1=>c1q ys ext n (b5O ys ext tops n)
theorem c4l(ys:List In)(ext:List Int)(i:Nat)(st:List Int×List I7):b5m ys ext i st=c1q ys ext i st:=by
 unfold b5m c1q
 cases ys[i]? with
 |none=>rfl
 |some y=>simp only[b9P]
theorem b9l(ys:List In)(ext tops:List Int):∀n,A6 ys ext tops n=b5O ys ext tops n
 |0=>rfl
 |n+1=>by rw[A6,b5O,c4l,b9l]
def b9q(code:List Int):List I7×Int:=match a2f code with
 | .error e=>([],e)
 | .ok L=>a2y code.length (b5O (z6 L) (C7 L++[(code.length:Int)]) (b4g (0::(List.range (z6 L).length).flatMap (b9Z (z6 L) (C7 L++[(code.length:Int)])))) (z6 L).length)
theorem c1c(code:List Int):q8 code=b9q code:=by
 unfold q8 b9q
 cases a2f code with
 |error e=>rfl
 |ok L=>
  show a2y _ (A6 _ _ (a0t (u4 _ _ _)) _)=a2y _ _
  rw[b9l,c1I]
  unfold u4
  rw[show b0n (z6 L) (C7 L++[(code.length:Int)])=b9Z (z6 L) (C7 L++[(code.length:Int)]) from funext fun i=>c4n _ _ i]
theorem b8h{l:List I7}{s:List Int}(h0:∀b,l[0]? =some b→b.at'∈s)(hc:∀a i b,a∈s→s8 l a=some i→l[i]? =some b→∀n∈b.next,(s8 l n).isSome=true→n∈s):∀ {n:Int},a3c l n→n∈s:=by
 intro n h
 induction h with
 |base hb=>exact h0 _ hb
 |step _ h1 h2 h3 h4 ih=>exact hc _ _ _ ih h1 h2 _ h3 h4
theorem b7i{a b:List Int}(ha:a.Pairwise (· < ·))(hb:b.Pairwise (· < ·))(h:∀n,n∈a↔n∈b):a=b:=Z0 ha hb h
section
variable{E:d6}{w0:i7}
theorem neI{a b:Int}:(a != b)=decide (a≠b):=by by_cases h:a=b<;>simp[h,bne]
theorem eqI{a b:Int}:(a==b)=decide (a=b):=by by_cases h:a=b<;>simp[h]
theorem b3k{a b:List I7}(ha:a.length<2^40)(hb:b.length<2^40)(hna:∀x∈a,x.next.length<2^60)(hnb:∀x∈b,x.next.length<2^60):a0X Try.prog E w0 a0O [A0 a,A0 b] (.bool (decide (a=b))):=fun S=>by
 refine b0H ?_
 unfold a8y
 rw[Q8,oD,Q8,oD,b1B,oD,neI,cdI]
 refine⟨fun h=> ?_,fun h=> ?_⟩
 ·rw[decide_eq_false (fun e=>h (by rw[e]))]
  exact b8.pure
 have h:a.length=b.length:=by omega
 refine a8r (I:=fun n x0 x1 x5 S'=>S'=S∧x0=A0 a∧x1=A0 b∧∃i:Nat,x5= .int .i64 (i:Int)∧i+n=a.length∧a.take i=b.take i) ?_ (n:=a.length) ⟨rfl,rfl,rfl,0,rfl,by omega,rfl⟩
 rintro n _ _ _ _ ⟨rfl,rfl,rfl,i,rfl,hi,ht⟩
 unfold a1s
 rw[Q8,oD,a3K,oD,cdI]
 refine⟨fun hlt=> ?_,fun hge=> ?_⟩
 ·have hlt:i<a.length:=by omega
  have ea:a[i]? =some a[i]:=List.getElem?_eq_getElem hlt
  have eb:b[i]? =some b[i]:=List.getElem?_eq_getElem (by omega)
  have ma:=hna a[i] (List.getElem_mem _)
  have mb:=hnb b[i] (List.getElem_mem _)
  have hne:a[i]≠b[i]→a≠b:=fun h e=>h (by simp only[e])
  generalize a[i]=x at*
  generalize b[i]=y at*
  have r0:∀b:I7,(F7 b)[0]? =some (.int .i64 b.at'):=fun _=>rfl
  have r1:∀b:I7,(F7 b)[1]? =some (.int .i64 b.end'):=fun _=>rfl
  have r2:∀b:I7,(F7 b)[2]? =some (iD b.next):=fun _=>rfl
  simp only[L0 ea,L0 eb,oD,ofE,Nat.zero_add,lsE,r0,b1B,neI]
  by_cases c0:x.at'=y.at'
  case neg=>
   simp only[decide_eq_true c0,wdB,t1,vdF,oD,pdB,if_true,gdF,cdT]
   rw[decide_eq_false (hne fun e=>c0 (by rw[e]))]
   exact b8.pure
  have c0':¬(x.at'≠y.at'):=fun h=>h c0
  simp only[decide_eq_false c0',wdB,t2,vdT,oD,L0 ea,L0 eb,ofE,Nat.zero_add,lsE,r1,b1B,neI,pdB,Bool.false_eq_true,if_false]
  by_cases c1:x.end'=y.end'
  case neg=>
   simp only[decide_eq_true c1,wdB,t1,vdF,oD,pdB,if_true,gdF,cdT]
   rw[decide_eq_false (hne fun e=>c1 (by rw[e]))]
   exact b8.pure
  have c1':¬(x.end'≠y.end'):=fun h=>h c1
  simp only[decide_eq_false c1',wdB,t2,vdT,oD,L0 ea,L0 eb,ofE,Nat.zero_add,lsE,r2,pdB,Bool.false_eq_true,if_false,gdT]
  refine(show r7 Try.prog E w0 C4 [iD x.next,iD y.next] _ _ from(a0M ma mb).use ?_)
  by_cases c2:x.next=y.next
  case neg=>
   simp only[decide_eq_false c2,unN,Bool.not_false,vdT,oD,pdB,Bool.false_eq_true,if_false,cdT]
   rw[decide_eq_false (hne fun e=>c2 (by rw[e]))]
   exact b8.pure
  simp only[decide_eq_true c2,unN,Bool.not_true,vdT,oD,pdB,Bool.false_eq_true,if_false,cdF]
  rw[J8,oD,g9 (by omega) (by omega)]
  refine⟨n - 1,by omega,by trivial,by trivial,by trivial,i+1,rfl,by omega, ?_⟩
  have hxy:x=y:=by cases x;cases y;simp only at c0 c1 c2;rw[c0,c1,c2]
  rw[List.take_add_one,List.take_add_one,ht,ea,eb,hxy]
 ·rw[List.take_of_length_le (by omega),List.take_of_length_le (by omega)]at ht
  rw[decide_eq_true ht]
  exact b8.pure
end
end
section
set_option linter.unusedSectionVars false
def s5(ys:List In):List Int:=ys.flatMap Z6
def a4w:Nat→List In→List Int
 |_,[]=>[]
 |p,y::ys=>(p:Int)::a4w (p+(Z6 y).length) ys
theorem Z4(y:In)(ys:List In):s5 (y::ys)=Z6 y++s5 ys:=rfl
theorem E6(a b:List In):s5 (a++b)=s5 a++s5 b:=List.flatMap_append
theorem a1g:∀ys:List In,ys.length≤(s5 ys).length
 | []=>Nat.le_refl _
 |y::ys=>by
  rw[Z4,List.length_append,List.length_cons]
  have:=a1g ys
  have:=b0T y
  omega
theorem c1a:∀(ys:List In),(∀y∈ys,isS y=true)→∀(pre:List Int) (n:Nat),ys.length≤n→∃L,a1t (pre++s5 ys) n pre.length= .ok L∧z6 L=ys∧C7 L=a4w pre.length ys
 | [],_,pre,n,_=>by
  refine⟨[], ?_,rfl,rfl⟩
  cases n with
  |zero=>rfl
  |succ n=>rw[a1t,if_pos (by simp[s5])]
 |y::ys,hs,pre,n,hn=>by
  obtain⟨n,rfl⟩:∃m,n=m+1:=⟨n - 1,by simp at hn;omega⟩
  have hpos:=b0T y
  have hdec:y9 (pre++s5 (y::ys)) (pre.length:Nat)=(y.dat,(pre.length+(Z6 y).length,0)):=by
   unfold y9
   rw[if_neg (by rw[Z4,List.length_append,List.length_append];omega),Int.toNat_natCast,Z4]
   exact c3l (hs y List.mem_cons_self) pre (s5 ys)
  obtain⟨L,h1,h2,h3⟩:=c1a ys (fun z hz=>hs z (List.mem_cons_of_mem _ hz)) (pre++Z6 y) n (by simp at hn;omega)
  refine⟨(y.dat,pre.length)::L, ?_, ?_, ?_⟩
  ·rw[a1f (by rw[Z4,List.length_append,List.length_append];omega),hdec]
   simp only
   rw[if_pos trivial]
   rw[List.append_assoc,List.length_append]at h1
   rw[Z4,h1]
  ·show a0V y.dat::z6 L=_
   rw[h2];rfl
  ·show(pre.length:Int)::C7 L=_
   rw[h3,List.length_append];rfl
theorem c1Y{bs:List Int}(hb:∀b∈bs,J5 b):∀(n p:Nat) (L:List (Dat×Nat)),a1t bs n p= .ok L→p≤bs.length→bs.length≤p+n→bs.drop p=s5 (z6 L)∧C7 L=a4w p (z6 L)∧∀y∈z6 L,isS y=true
 |0,p,L,h,hp,hn=>by
  cases h
  exact⟨List.drop_of_length_le (by omega),rfl,by simp[z6]⟩
 |n+1,p,L,h,hp,hn=>by
  by_cases hlt:p<bs.length
  ·rw[a1f hlt]at h
   by_cases he:(y9 bs p).2.2=0
   ·rw[if_pos he]at h
    cases hr:a1t bs n (y9 bs p).2.1 with
    |error e=>rw[hr]at h;cases h
    |ok l=>
     rw[hr]at h
     cases h
     obtain⟨_,_,_,h4,h5,h6⟩:=b6d hb he (b2g _)
     rw[Int.toNat_natCast]at h5 h6
     obtain⟨h51,h52⟩:=h5
     have hpos:=b0T (a0V (y9 bs p).1)
     obtain⟨i1,i2,i3⟩:=c1Y hb n _ l hr (by rw[h6];exact h51) (by omega)
     have hcat:bs.drop p=Z6 (a0V (y9 bs p).1)++bs.drop (p+(Z6 (a0V (y9 bs p).1)).length):=by
      conv=>lhs;rw[←List.take_append_drop (Z6 (a0V (y9 bs p).1)).length (bs.drop p)]
      rw[h52,List.drop_drop]
     refine⟨?_, ?_,fun y hy=> ?_⟩
     ·show _=Z6 (a0V (y9 bs p).1)++s5 (z6 l)
      rw[hcat, ←i1,h6]
     ·show(p:Int)::C7 l=(p:Int)::a4w (p+(Z6 (a0V (y9 bs p).1)).length) (z6 l)
      rw[i2,h6]
     ·rcases List.mem_cons.1 hy with rfl|hy
      ·exact h4
      ·exact i3 y hy
   ·rw[if_neg he]at h;cases h
  ·rw[a1t,if_pos (by omega)]at h
   cases h
   exact⟨List.drop_of_length_le (by omega),rfl,by simp[z6]⟩
def I8(ys:List In)(i:Nat):Int:=((s5 (ys.take i)).length:Int)
theorem b1s:∀(ys:List In) (p i:Nat),i<ys.length→(a4w p ys)[i]? =some ((p:Int)+I8 ys i)
 | [],p,i,h=>by simp at h
 |y::ys,p,0,h=>by simp[a4w,I8,s5]
 |y::ys,p,i+1,h=>by
  simp only[a4w,List.getElem?_cons_succ]
  rw[b1s ys _ i (by simpa using h)]
  unfold I8
  rw[List.take_succ_cons,Z4,List.length_append]
  congr 1
  omega
theorem a4r:∀(ys:List In) (p:Nat),(a4w p ys).length=ys.length
 | [],_=>rfl
 |y::ys,p=>by simp[a4w,a4r ys]
theorem b6a{ys:List In}{i:Nat}(h:i≤ys.length):(a4w 0 ys++[((s5 ys).length:Int)]).getD i 0=I8 ys i:=by
 rw[List.getD_eq_getElem?_getD]
 by_cases e:i<ys.length
 ·rw[List.getElem?_append_left (by rw[a4r];exact e),b1s ys 0 i e,Option.getD_some];simp
 ·rw[List.getElem?_append_right (by rw[a4r];omega),a4r,show i - ys.length=0 by omega]
  unfold I8
  rw[List.take_of_length_le (by omega)];rfl
theorem a8O{ys:List In}{i j:Nat}(h:i<j)(hj:j≤ys.length):I8 ys i<I8 ys j:=by
 unfold I8
 have e:ys.take j=ys.take i++(ys.drop i).take (j - i):=by
  rw[←List.take_append_drop i (ys.take j),List.take_take,List.drop_take,Nat.min_eq_left (by omega)]
 rw[e,E6,List.length_append]
 have:=a1g ((ys.drop i).take (j - i))
 rw[List.length_take,List.length_drop]at this
 omega
theorem b9C{ys:List In}{i j:Nat}(hi:i≤ys.length)(hj:j≤ys.length)(h:I8 ys i=I8 ys j):i=j:=by
 rcases Nat.lt_trichotomy i j with hl|hl|hl
 ·have:=a8O hl hj;omega
 ·exact hl
 ·have:=a8O hl hi;omega
def chn:Nat→List (Nat×Nat)→Nat→Prop
 |a,[],b=>a=b
 |a,(s,t)::l,b=>s=a∧s<t∧chn t l b
theorem a1u{s t:Nat}:∀ {l:List (Nat×Nat)} {a b:Nat},chn a (l++[(s,t)]) b↔chn a l s∧s<t∧t=b
 | [],a,b=>by simp only[List.nil_append,chn];constructor<;>(rintro⟨h1,h2,h3⟩;exact⟨h1.symm,h2,h3⟩)
 |(u,v)::l,a,b=>by
  simp only[List.cons_append,chn,a1u (l:=l)]
  constructor
  ·rintro⟨h1,h2,h3,h4⟩;exact⟨⟨h1,h2,h3⟩,h4⟩
  ·rintro⟨⟨h1,h2,h3⟩,h4⟩;exact⟨h1,h2,h3,h4⟩
theorem a1R:∀ {l:List (Nat×Nat)} {a b:Nat},chn a l b→a≤b∧∀c∈l,a≤c.1∧c.1<c.2∧c.2≤b
 | [],a,b,h=>⟨Nat.le_of_eq h,fun c hc=>by cases hc⟩
 |(s,t)::l,a,b,⟨h1,h2,h3⟩=>by
  obtain⟨i1,i2⟩:=a1R h3
  refine⟨by omega,fun c hc=> ?_⟩
  rcases List.mem_cons.1 hc with rfl|hc
  ·exact⟨by simp only;omega,h2,i1⟩
  ·have:=i2 c hc;omega
theorem b2B:∀ {l:List (Nat×Nat)} {a b:Nat},chn a l b→∀c∈l,∀d∈l,¬(c.1<d.1∧d.1<c.2)
 | [],a,b,h,c,hc,_,_=>by cases hc
 |(s,t)::l,a,b,⟨h1,h2,h3⟩,c,hc,d,hd=>by
  have i2:=(a1R h3).2
  rcases List.mem_cons.1 hc with rfl|hc
  ·rcases List.mem_cons.1 hd with rfl|hd
   ·simp only;omega
   ·have:=i2 d hd;simp only;omega
  ·rcases List.mem_cons.1 hd with rfl|hd
   ·have:=i2 c hc;simp only;omega
   ·exact b2B h3 c hc d hd
theorem b7k:∀ {l m:List (Nat×Nat)} {a b:Nat},chn a l b→chn a m b→l.map (·.1)=m.map (·.1)→l=m
 | [],[],_,_,_,_,_=>rfl
 | [],_::_,_,_,_,_,h=>by cases h
 |_::_,[],_,_,_,_,h=>by cases h
 |(s,t)::l,(u,v)::m,a,b,⟨h1,h2,h3⟩,⟨g1,g2,g3⟩,h=>by
  simp only[List.map_cons,List.cons.injEq]at h
  obtain⟨e1,e2⟩:=h
  subst e1
  have htv:t=v:=by
   cases l with
   |nil=>
    cases m with
    |nil=>rw[show t=b from h3,show v=b from g3]
    |cons x m=>cases e2
   |cons x l=>
    cases m with
    |nil=>cases e2
    |cons y m=>
     simp only[List.map_cons,List.cons.injEq]at e2
     obtain⟨x1,x2⟩:=x
     obtain⟨y1,y2⟩:=y
     have:=h3.1
     have:=g3.1
     simp only at e2
     omega
  subst htv
  rw[b7k h3 g3 e2]
theorem b6M:∀ {l:List (Nat×Nat)} {a b:Nat},chn a l b→∀c∈l,c.2=b∨∃d∈l,d.1=c.2
 | [],_,_,_,c,hc=>by cases hc
 |(s,t)::l,a,b,⟨h1,h2,h3⟩,c,hc=>by
  rcases List.mem_cons.1 hc with rfl|hc
  ·cases l with
   |nil=>exact .inl h3
   |cons x l=>obtain⟨u,v⟩:=x;exact .inr ⟨(u,v),by simp,h3.1⟩
  ·rcases b6M h3 c hc with h|⟨d,hd,e⟩
   ·exact .inl h
   ·exact .inr ⟨d,List.mem_cons_of_mem _ hd,e⟩
theorem b1O:∀ {l m:List (Nat×Nat)} {a b c:Nat},chn a l b→chn b m c→chn a (l++m) c
 | [],m,a,b,c,h,g=>by rw[show a=b from h];exact g
 |(s,t)::l,m,a,b,c,⟨h1,h2,h3⟩,g=>⟨h1,h2,b1O h3 g⟩
def mkB(ys:List In)(c:Nat×Nat):I7:=⟨I8 ys c.1,I8 ys c.2,match ys[c.2 - 1]? with|some y=>p9 y (I8 ys c.2)|none=>[]⟩
def a1p(ys:List In)(tops:List Int):Nat→List Int×List I7
 |0=>(tops,[])
 |n+1=>match ys[n]? with
  |some y=>if(a1p ys tops n).1.head? =some (I8 ys n) then((a1p ys tops n).1.tail,(a1p ys tops n).2++[⟨I8 ys n,I8 ys (n+1),p9 y (I8 ys (n+1))⟩])
   else((a1p ys tops n).1,a0p (a1p ys tops n).2 (I8 ys (n+1)) (p9 y (I8 ys (n+1))))
  |none=>a1p ys tops n
theorem b5p{ys:List In}{tops:List Int}:∀n,n≤ys.length→A6 ys (a4w 0 ys++[((s5 ys).length:Int)]) tops n=a1p ys tops n
 |0,_=>rfl
 |n+1,h=>by
  rw[A6,b5p n (by omega),a1p,b5m,b6a (show n≤ys.length by omega),b6a h]
  cases ys[n]? <;>rfl
theorem b0Q{ys:List In}{tops:List Int}(h0:tops.head? =some (I8 ys 0)):∀n,n≤ys.length→∃cuts,chn 0 cuts n∧(a1p ys tops n).2=cuts.map (mkB ys)∧tops=cuts.map (fun c=>I8 ys c.1)++(a1p ys tops n).1
 |0,_=>⟨[],rfl,rfl,rfl⟩
 |n+1,h=>by
  obtain⟨cuts,c1,c2,c3⟩:=b0Q h0 n (by omega)
  have ey:ys[n]? =some ys[n]:=List.getElem?_eq_getElem (by omega)
  simp only[a1p,ey]
  by_cases hh:(a1p ys tops n).1.head? =some (I8 ys n)
  ·rw[if_pos hh]
   refine⟨cuts++[(n,n+1)],a1u.2 ⟨c1,by omega,rfl⟩, ?_, ?_⟩
   ·rw[c2,List.map_append]
    simp only[List.map_cons,List.map_nil,mkB,Nat.add_sub_cancel,ey]
   ·rw[List.map_append,List.append_assoc]
    conv=>lhs;rw[c3]
    congr 1
    cases hl:(a1p ys tops n).1 with
    |nil=>rw[hl]at hh;cases hh
    |cons a l=>rw[hl]at hh;cases hh;rfl
  ·rw[if_neg hh]
   have hne:cuts≠[]:=fun e=>by
    subst e
    have hn0:0=n:=c1
    subst hn0
    exact hh h0
   obtain⟨cs,⟨s,t⟩,rfl⟩:∃cs c,cuts=cs++[c]:=⟨_,_,(List.dropLast_concat_getLast hne).symm⟩
   obtain⟨d1,d2,rfl⟩:=a1u.1 c1
   refine⟨cs++[(s,t+1)],a1u.2 ⟨d1,by omega,rfl⟩, ?_, ?_⟩
   ·rw[c2,List.map_append,List.map_append]
    simp only[List.map_cons,List.map_nil]
    rw[a3H]
    simp only[mkB,Nat.add_sub_cancel,ey]
   ·rw[List.map_append]at c3 ⊢
    exact c3
theorem b4y{ys:List In}{tops:List Int}(hr:tops.Pairwise (· < ·))(ht:∀q∈tops,∃k,k<ys.length∧q=I8 ys k)(h0:tops.head? =some (I8 ys 0)):∀n,n≤ys.length→∀j,j<n→I8 ys j ∉ (a1p ys tops n).1
 |0,_,j,hj=>by omega
 |n+1,h,j,hj=>by
  have ih:=b4y hr ht h0 n (by omega)
  obtain⟨cuts,_,_,c3⟩:=b0Q h0 n (by omega)
  have hr':(a1p ys tops n).1.Pairwise (· < ·):=by rw[c3]at hr;exact(List.pairwise_append.1 hr).2.1
  have hsub:∀q∈(a1p ys tops n).1,q∈tops:=fun q hq=>by rw[c3];exact List.mem_append.2 (.inr hq)
  have ey:ys[n]? =some ys[n]:=List.getElem?_eq_getElem (by omega)
  simp only[a1p,ey]
  by_cases hh:(a1p ys tops n).1.head? =some (I8 ys n)
  ·rw[if_pos hh]
   cases hl:(a1p ys tops n).1 with
   |nil=>rw[hl]at hh;cases hh
   |cons a l=>
    rw[hl]at hh hr' ih
    cases hh
    simp only[List.tail_cons]
    intro hm
    have:=(List.pairwise_cons.1 hr').1 _ hm
    by_cases e:j=n
    ·subst e;omega
    ·exact ih j (by omega) (List.mem_cons_of_mem _ hm)
  ·rw[if_neg hh]
   intro hm
   by_cases e:j=n
   ·subst e
    have hjl:j<ys.length:=by omega
    cases hl:(a1p ys tops j).1 with
    |nil=>rw[hl]at hm;cases hm
    |cons a l=>
     rw[hl]at hm hr' ih hh hsub
     obtain⟨k,hk,rfl⟩:=ht a (hsub a List.mem_cons_self)
     rcases List.mem_cons.1 hm with e|hm
     ·exact hh (by rw[e];rfl)
     ·have h1:=(List.pairwise_cons.1 hr').1 _ hm
      have hkj:k<j:=by
       rcases Nat.lt_trichotomy k j with hl|hl|hl
       ·exact hl
       ·subst hl;omega
       ·have:=a8O hl (Nat.le_of_lt hk);omega
      exact ih k hkj List.mem_cons_self
   ·exact ih j (by omega) hm
def a9f(ys:List In)(q:Int):Prop:=q=0∨∃i y,ys[i]? =some y∧H8 y=true∧(q∈p9 y (I8 ys (i+1))∨(i+1<ys.length∧q=I8 ys (i+1)))
theorem b7F{ys:List In}{q:Int}:q∈u4 ys (a4w 0 ys++[((s5 ys).length:Int)]) ys.length↔a9f ys q:=by
 unfold u4 a9f
 simp only[List.mem_cons,List.mem_flatMap,List.mem_range]
 constructor
 ·rintro(h|⟨i,hi,h⟩)
  ·exact .inl h
  ·have ey:ys[i]? =some ys[i]:=List.getElem?_eq_getElem hi
   refine .inr ⟨i,ys[i],ey, ?_⟩
   unfold b0n at h
   rw[ey]at h
   simp only at h
   rw[b6a (show i+1≤ys.length by omega)]at h
   split at h
   ·rename_i he
    refine⟨he, ?_⟩
    rcases List.mem_append.1 h with h|h
    ·exact .inl h
    ·split at h
     ·rename_i hl;exact .inr ⟨hl,List.mem_singleton.1 h⟩
     ·cases h
   ·cases h
 ·rintro(h|⟨i,y,ey,he,h⟩)
  ·exact .inl h
  ·have hi:=(List.getElem?_eq_some_iff.1 ey).1
   refine .inr ⟨i,hi, ?_⟩
   unfold b0n
   rw[ey]
   simp only
   rw[b6a (show i+1≤ys.length by omega),if_pos he]
   refine List.mem_append.2 (h.imp id fun⟨h1,h2⟩=> ?_)
   rw[if_pos h1,h2]
   exact List.mem_singleton.2 rfl
structure Cut (ys:List In) (cuts:List (Nat×Nat)):Prop where
 chain:chn 0 cuts ys.length
 pos:ys≠[]
 heads:∀q,q∈cuts.map (fun c=>I8 ys c.1)↔a9f ys q
 last:∀y,ys.getLast? =some y→I8 ys ys.length ∉ p9 y (I8 ys ys.length)
theorem a1i(ys:List In):((s5 ys).length:Int)=I8 ys ys.length:=by unfold I8;rw[List.take_length]
theorem c1J(ys:List In):I8 ys 0=0:=rfl
theorem a3y{ys:List In}:∀ {cuts:List (Nat×Nat)} {a:Nat},chn a cuts ys.length→(cuts.map fun c=>I8 ys c.1).Pairwise (· < ·)
 | [],_,_=>List.Pairwise.nil
 |(s,t)::l,a,⟨h1,h2,h3⟩=>by
  refine List.pairwise_cons.2 ⟨fun q hq=> ?_,a3y h3⟩
  obtain⟨c,hc,rfl⟩:=List.mem_map.1 hq
  have:=(a1R h3).2 c hc
  exact a8O (by simp only;omega) (by omega)
theorem b9u{ys:List In}:∀ {l m:List (Nat×Nat)},(∀c∈l,c.1≤ys.length)→(∀c∈m,c.1≤ys.length)→l.map (fun c=>I8 ys c.1)=m.map (fun c=>I8 ys c.1)→l.map (·.1)=m.map (·.1)
 | [],[],_,_,_=>rfl
 | [],_::_,_,_,h=>by cases h
 |_::_,[],_,_,h=>by cases h
 |c::l,d::m,hl,hm,h=>by
  simp only[List.map_cons,List.cons.injEq]at h
  rw[List.map_cons,List.map_cons,b9C (hl c List.mem_cons_self) (hm d List.mem_cons_self) h.1,b9u (fun c hc=>hl c (List.mem_cons_of_mem _ hc)) (fun c hc=>hm c (List.mem_cons_of_mem _ hc)) h.2]
theorem b9K{ys:List In}(hs:∀y∈ys,isS y=true):∃L,a2f (s5 ys)= .ok L∧z6 L=ys∧C7 L=a4w 0 ys:=by
 obtain⟨L,h1,h2,h3⟩:=c1a ys hs [] ((s5 ys).length+1) (by have:=a1g ys;omega)
 exact⟨L,h1,h2,h3⟩
theorem c3e{code:List Int}(hb:∀b∈code,J5 b){L:List (Dat×Nat)}(h:a2f code= .ok L):code=s5 (z6 L)∧C7 L=a4w 0 (z6 L)∧∀y∈z6 L,isS y=true:=by
 have:=c1Y hb _ _ L h (Nat.zero_le _) (by omega)
 rwa [List.drop_zero]at this
theorem Cut.tops{ys:List In}{cuts:List (Nat×Nat)}(h:Cut ys cuts):a0t (u4 ys (a4w 0 ys++[((s5 ys).length:Int)]) ys.length)=cuts.map fun c=>I8 ys c.1:=
 Z0 (C9 _).1 (a3y h.chain) fun q=>by rw[(C9 _).2,b7F,h.heads]
theorem Cut.ne{ys:List In}{cuts:List (Nat×Nat)}(h:Cut ys cuts):cuts≠[]:=fun e=>by
 have:=h.chain
 rw[e]at this
 exact h.pos (List.length_eq_zero_iff.1 (show 0=ys.length from this).symm)
theorem Cut.last_next{ys:List In}{cuts:List (Nat×Nat)}(h:Cut ys cuts){b:I7}(hb:(cuts.map (mkB ys)).getLast? =some b):∃y,ys.getLast? =some y∧b.next=p9 y (I8 ys ys.length):=by
 obtain⟨cs,⟨s,t⟩,e⟩:∃cs c,cuts=cs++[c]:=⟨_,_,(List.dropLast_concat_getLast h.ne).symm⟩
 have hc:=h.chain
 rw[e]at hc
 obtain⟨_,hst,htn⟩:=a1u.1 hc
 rw[e,List.map_append,List.map_cons,List.map_nil,List.getLast?_concat]at hb
 cases hb
 subst htn
 have ey:ys[ys.length - 1]? =some ys[ys.length - 1]:=List.getElem?_eq_getElem (by omega)
 refine⟨_,by rw[List.getLast?_eq_getElem?,ey], ?_⟩
 simp only[mkB,ey]
theorem b3J{ys:List In}{cuts:List (Nat×Nat)}(hs:∀y∈ys,isS y=true)(h:Cut ys cuts):q8 (s5 ys)=(cuts.map (mkB ys),0):=by
 obtain⟨L,h1,h2,h3⟩:=b9K hs
 unfold q8
 rw[h1]
 simp only
 rw[h2,h3,h.tops,b5p _ (Nat.le_refl _)]
 have hst:=a3y h.chain
 have ht:∀q∈cuts.map (fun c=>I8 ys c.1),∃k,k<ys.length∧q=I8 ys k:=fun q hq=>by
  obtain⟨c,hc,rfl⟩:=List.mem_map.1 hq
  have:=(a1R h.chain).2 c hc
  exact⟨c.1,by omega,rfl⟩
 have h0:(cuts.map fun c=>I8 ys c.1).head? =some (I8 ys 0):=by
  have hc:=h.chain
  cases hcs:cuts with
  |nil=>exact absurd hcs h.ne
  |cons c l=>obtain⟨s,t⟩:=c;rw[hcs]at hc;rw[List.map_cons,List.head?_cons,hc.1]
 obtain⟨cuts',c1,c2,c3⟩:=b0Q h0 ys.length (Nat.le_refl _)
 have hnil:(a1p ys (cuts.map fun c=>I8 ys c.1) ys.length).1=[]:=List.eq_nil_iff_forall_not_mem.2 fun q hq=>by
  obtain⟨k,hk,rfl⟩:=ht q (by rw[c3];exact List.mem_append.2 (.inr hq))
  exact b4y hst ht h0 ys.length (Nat.le_refl _) k hk hq
 rw[hnil,List.append_nil]at c3
 have he:cuts=cuts':=b7k h.chain c1 (b9u (fun c hc=>by have:=(a1R h.chain).2 c hc;omega) (fun c hc=>by have:=(a1R c1).2 c hc;omega) c3)
 subst he
 unfold a2y
 rw[hnil,c2]
 cases hb:(cuts.map (mkB ys)).getLast? with
 |none=>exact absurd (List.map_eq_nil_iff.1 (List.getLast?_eq_none_iff.1 hb)) h.ne
 |some b=>
  obtain⟨y,hy,hn⟩:=h.last_next hb
  simp only
  rw[if_neg]
  rw[hn,a1i]
  exact h.last y hy
theorem a6D{code:List Int}(hb:∀b∈code,J5 b){l:List I7}(h:q8 code=(l,0)):∃ys cuts,code=s5 ys∧(∀y∈ys,isS y=true)∧Cut ys cuts∧l=cuts.map (mkB ys):=by
 unfold q8 at h
 cases ha:a2f code with
 |error e=>
  rw[ha]at h
  simp only[Prod.mk.injEq]at h
  exact absurd h.2 (b1C _ _ _ ha)
 |ok L=>
  obtain⟨h1,h2,h3⟩:=c3e hb ha
  rw[ha]at h
  simp only at h
  rw[h2]at h
  generalize z6 L=ys at*
  subst h1
  rw[b5p _ (Nat.le_refl _)]at h
  by_cases hys:ys=[]
  ·subst hys
   simp[a1p,a2y]at h
  have h0:(a0t (u4 ys (a4w 0 ys++[((s5 ys).length:Int)]) ys.length)).head? =some (I8 ys 0):=by
   rw[c1J]
   refine b4w (by simp[u4]) (a4V h3 (fun q hq=> ?_) _)
   rcases List.mem_append.1 hq with hq|hq
   ·obtain⟨i,hi⟩:=List.getElem?_of_mem hq
    have hil:=(List.getElem?_eq_some_iff.1 hi).1
    rw[a4r]at hil
    rw[b1s ys 0 i hil]at hi
    cases hi
    unfold I8
    omega
   ·rw[List.mem_singleton.1 hq];omega
  obtain⟨cuts,c1,c2,c3⟩:=b0Q h0 ys.length (Nat.le_refl _)
  generalize hbf:a1p ys (a0t (u4 ys (a4w 0 ys++[((s5 ys).length:Int)]) ys.length)) ys.length=st at*
  obtain⟨rest,bl⟩:=st
  simp only at c2 c3
  unfold a2y at h
  cases rest with
  |cons a r=>simp only[Prod.mk.injEq]at h;exact absurd h.2 (by decide)
  |nil=>
   cases hl:bl.getLast? with
   |none=>rw[hl]at h;simp only[Prod.mk.injEq]at h;exact absurd h.2 (by decide)
   |some b=>
    rw[hl]at h
    simp only at h
    split at h
    ·simp only[Prod.mk.injEq]at h;exact absurd h.2 (by decide)
    ·rename_i hlast
     cases h
     rw[List.append_nil]at c3
     refine⟨ys,cuts,rfl,h3,⟨c1,hys,fun q=>by rw[←c3,(C9 _).2,b7F],fun y hy=> ?_⟩,c2⟩
     rw[c2]at hl
     obtain⟨cs,⟨s,t⟩,e⟩:∃cs c,cuts=cs++[c]:=⟨_,_,(List.dropLast_concat_getLast (fun e=>by rw[e]at hl;cases hl)).symm⟩
     rw[e]at c1 hl
     obtain⟨_,hst,htn⟩:=a1u.1 c1
     rw[List.map_append,List.map_cons,List.map_nil,List.getLast?_concat]at hl
     cases hl
     subst htn
     rw[List.getLast?_eq_getElem?]at hy
     simp only[mkB,hy]at hlast
     rw[←a1i]
     rw[a1i]at hlast ⊢
     exact hlast
end
section
set_option linter.unusedSectionVars false
section
variable{E:d6}{w0:i7}
theorem c2w{l:List I7}{s:List Int}(hat:∀b∈l,I64 b.at')(hl:l.length<2^37)(hW:wgt (fun _=>true) l<2^37)(hnx:∀b∈l,b.next.length<2^37)(hs:s.Pairwise (· < ·))(h1:∀n∈s,a3c l n)(h2:∀n,a3c l n→n∈s):a0X Try.prog E w0 B5 [A0 l] (iD s):=fun S=>
 (a4b hat hl hW hnx).use fun d S' ⟨a,r,b,c,e⟩=>⟨by rw[b,b7i c hs fun n=>⟨fun h=>h2 n ((e n).1 h),fun h=>(e n).2 (h1 n h)⟩],a⟩
theorem b3j:a0X Try.prog E w0 I1 [] (.bool true):=fun S=>by
 refine a9u ?_
 unfold a6w
 rw[show A1 1 (List.replicate 3 [D.int .u8 0]) [(0, .int .u8 52),(1, .int .u8 1),(2, .int .u8 51)]=some (U6 ([52,1,51].map (D.int .u8))) from rfl]
 refine V4 rfl ?_
 refine(show r7 Try.prog E w0 E8 [bD [52,1,51]] S _ from(a0P (by simp[J5]) (by decide)).use ?_)
 rw[show q8 [52,1,51]=([⟨0,2,[]⟩,⟨2,3,[]⟩],0) from by rw[c1c];kernel_rfl]
 have hln:j8 (A0 [⟨0,2,[]⟩,⟨2,3,[]⟩])=some (.int .i64 2):=rfl
 have i0:m9 3 (A0 [⟨0,2,[]⟩,⟨2,3,[]⟩]) (.int .i64 0)=some (.elt (F7 ⟨0,2,[]⟩) 0):=rfl
 have i1:m9 3 (A0 [⟨0,2,[]⟩,⟨2,3,[]⟩]) (.int .i64 1)=some (.elt (F7 ⟨2,3,[]⟩) 0):=rfl
 have r0:∀b:I7,(F7 b)[0]? =some (.int .i64 b.at'):=fun _=>rfl
 have r1:∀b:I7,(F7 b)[1]? =some (.int .i64 b.end'):=fun _=>rfl
 have r2:∀b:I7,(F7 b)[2]? =some (iD b.next):=fun _=>rfl
 unfold ofD
 simp only[exD,List.getElem?_cons_zero,List.getElem?_cons_succ,oD,a6c,eqI,decide_true,wdB,t4,vdT,hln,pdB,if_true,i0,i1,ofE,Nat.zero_add,lsE,r0,r1,r2,a3T,List.length_nil,Int.ofNat_zero,gdT]
 refine(show r7 Try.prog E w0 B5 [A0 [⟨0,2,[]⟩,⟨2,3,[]⟩]] S _ from(c2w (s:=[0]) (by simp[I64]) (by decide) (by decide) (by simp) (by simp) (fun n hn=> ?_) (fun n hn=> ?_)).use ?_)
 ·rw[List.mem_singleton.1 hn];exact .base (b:=⟨0,2,[]⟩) rfl
 ·refine b8h (fun b hb=> ?_) (fun a i b ha hi hb m hm _=> ?_) hn
  ·cases hb;simp
  ·rw[List.mem_singleton.1 ha]at hi
   cases hi
   cases hb
   cases hm
 rw[show A1 1 (List.replicate 1 [D.int .i64 0]) [(0, .int .i64 0)]=some (iC [0]) from rfl]
 refine V4 (rows:=iC [0]) (len:=1) rfl ?_
 refine(show r7 Try.prog E w0 C4 [iD [0],iD [0]] S _ from(a0M (by decide) (by decide)).use ?_)
 simp only[decide_true,pdB,if_true,oD]
 exact b8.pure
end
end
section
set_option linter.unusedSectionVars false
theorem c2F(rows more:List (List D))(sz:Nat):Wk (b5q rows more sz) (.lst rows sz):=by
 unfold b5q
 split
 ·exact Wk.refl _
 ·exact Wk.ext _ _ _
theorem bR0(b:I7):(F7 b)[0]? =some (.int .i64 b.at'):=rfl
theorem bR1(b:I7):(F7 b)[1]? =some (.int .i64 b.end'):=rfl
theorem bR2(b:I7):(F7 b)[2]? =some (iD b.next):=rfl
section
variable{E:d6}{w0:i7}
def tF(E:d6):D→b5→Prop:=b8 E fun v _=>v= .bool true
theorem a3s{S:b5}:r7 Try.prog E w0 I1 [] S (tF E):=b3j.use (b8.here rfl)
end
end
end Go.Proofs.Ytdkidgkiplcggaa.d
end
