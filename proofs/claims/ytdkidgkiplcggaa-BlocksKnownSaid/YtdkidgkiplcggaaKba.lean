/-
  BlocksKnownSaid: part Kba of its proof.
-/
import Derived.Test.YtdkidgkiplcggaaRows
import Derived.Test.YtdkidgkiplcggaaKar
import Derived.KernelRfl
import Derived.Test.YtdkidgkiplcggaaKaz
import Derived.Test.YtdkidgkiplcggaaKal
import Derived.ChangeSlices
import Derived.Carry
set_option linter.unusedVariables false
set_option linter.unusedSimpArgs false
set_option maxRecDepth 100000
section
open Go.Proofs Go Go.Am
namespace Go.Proofs.Ytdkidgkiplcggaa.d
def b2B:List (Nat×List Nat):=[]
def b2k:List (Nat×List Nat):=[]
def b2g:List (Nat×Arr):=[]
def a6w(E:c9)(w0:g9)(Q:D→a8→Prop)(S:a8):Prop:=
 B3 S 1 (l9 1 (List.replicate 3 [(.int .u8 0)]) [(0,(.int .u8 52)),(1,(.int .u8 1)),(2,(.int .u8 51))]) 3 fun v0 S1=>
 r8 Try.prog E w0 C7 [v0] S1 fun v2 S3=>
 b4 (k9 v2 0) fun v4=>
 b4 (k9 v2 1) fun v5=>
 b4 (d5 .eql v5 (.int .i64 0)) fun v6=>
 b4 (d4 (b7 v6 true) (some v4)) fun v7=>
 b4 (d4 (b7 v6 true) (n9 v7)) fun v8=>
 b4 (d4 (b7 v6 true) (d5 .eql v8 (.int .i64 2))) fun v9=>
 b4 (B8 v6 v9 (.bool false)) fun v10=>
 b4 (d4 (b7 v10 true) (some v4)) fun v11=>
 b4 (d4 (b7 v10 true) (o3 3 v11 (.int .i64 0))) fun v12=>
 b4 (d4 (b7 v10 true) (y9 0 v12)) fun v13=>
 b4 (d4 (b7 v10 true) (c8 S3 v13)) fun v14=>
 b4 (d4 (b7 v10 true) (d5 .eql v14 (.int .i64 0))) fun v15=>
 b4 (B8 v10 v15 (.bool false)) fun v16=>
 b4 (d4 (b7 v16 true) (some v4)) fun v17=>
 b4 (d4 (b7 v16 true) (o3 3 v17 (.int .i64 0))) fun v18=>
 b4 (d4 (b7 v16 true) (y9 1 v18)) fun v19=>
 b4 (d4 (b7 v16 true) (c8 S3 v19)) fun v20=>
 b4 (d4 (b7 v16 true) (d5 .eql v20 (.int .i64 2))) fun v21=>
 b4 (B8 v16 v21 (.bool false)) fun v22=>
 b4 (d4 (b7 v22 true) (some v4)) fun v23=>
 b4 (d4 (b7 v22 true) (o3 3 v23 (.int .i64 1))) fun v24=>
 b4 (d4 (b7 v22 true) (y9 0 v24)) fun v25=>
 b4 (d4 (b7 v22 true) (c8 S3 v25)) fun v26=>
 b4 (d4 (b7 v22 true) (d5 .eql v26 (.int .i64 2))) fun v27=>
 b4 (B8 v22 v27 (.bool false)) fun v28=>
 b4 (d4 (b7 v28 true) (some v4)) fun v29=>
 b4 (d4 (b7 v28 true) (o3 3 v29 (.int .i64 1))) fun v30=>
 b4 (d4 (b7 v28 true) (y9 1 v30)) fun v31=>
 b4 (d4 (b7 v28 true) (c8 S3 v31)) fun v32=>
 b4 (d4 (b7 v28 true) (d5 .eql v32 (.int .i64 3))) fun v33=>
 b4 (B8 v28 v33 (.bool false)) fun v34=>
 b4 (d4 (b7 v34 true) (some v4)) fun v35=>
 b4 (d4 (b7 v34 true) (o3 3 v35 (.int .i64 0))) fun v36=>
 b4 (d4 (b7 v34 true) (y9 2 v36)) fun v37=>
 b4 (d4 (b7 v34 true) (c8 S3 v37)) fun v38=>
 b4 (d4 (b7 v34 true) (n9 v38)) fun v39=>
 b4 (d4 (b7 v34 true) (d5 .eql v39 (.int .i64 0))) fun v40=>
 b4 (B8 v34 v40 (.bool false)) fun v41=>
 b4 (d4 (b7 v41 true) (some v4)) fun v42=>
 A1 (b7 v41 true) (fun K=>r8 Try.prog E w0 E2 [v42] S3 K) S3 fun v43 S44=>
 A1 (b7 v41 true) (fun K=>B3 S44 1 (l9 1 (List.replicate 1 [(.int .i64 0)]) [(0,(.int .i64 0))]) 1 K) S44 fun v45 S46=>
 A1 (b7 v41 true) (fun K=>r8 Try.prog E w0 C5 [v43,v45] S46 K) S46 fun v47 S48=>
 b4 (B8 v41 v47 (.bool false)) fun v49=>
 Q v49 S48
theorem a8T{E:c9}{w0:g9}{Q:D→a8→Prop}{S:a8}(h:a6w E w0 (b9 E Q) S):r8 Try.prog E w0 a2E [] S Q:=
 q9 b2B b2k b2g (fn:=Try.f11) (c:=Try.f11.body.getD .skip) mixed Try.func11 (by kernel_rfl) (by kernel_rfl) h
def a2w:List (Nat×List Nat):=[(8,[0,1,5])]
def a2j:List (Nat×List Nat):=[]
def a2l:List (Nat×Arr):=[]
noncomputable def a0Y:Code:=(i5 [1,1,0,1,0,0] (Try.f15.body.getD .skip))
def a1f(E:c9)(w0:g9)(Q:D→a8→Prop):j0→List D→a8→Prop:=
 (z8 0 (a2D Try.prog E w0 a2w a2j a2l (i5 [1,1,1] (Try.f15.body.getD .skip)) (J2 Try.prog Try.f15 Q)))
def a1j(E:c9)(w0:g9)(N0:D→D→D→a8→Prop)(Q:D→a8→Prop)(x0 x1 x5:D)(S:a8):Prop:=
 b4 (n9 x0) fun v3=>
 b4 (d5 .lss x5 v3) fun v4=>
 g8 v4
 (b4 (o3 3 x0 x5) fun v5=>
 b4 (y9 0 v5) fun v6=>
 b4 (c8 S v6) fun v7=>
 b4 (o3 3 x1 x5) fun v8=>
 b4 (y9 0 v8) fun v9=>
 b4 (c8 S v9) fun v10=>
 b4 (d5 .neq v7 v10) fun v11=>
 b4 (d4 (b7 v11 false) (some x0)) fun v12=>
 b4 (d4 (b7 v11 false) (some x5)) fun v13=>
 b4 (d4 (b7 v11 false) (o3 3 v12 v13)) fun v14=>
 b4 (d4 (b7 v11 false) (y9 1 v14)) fun v15=>
 b4 (d4 (b7 v11 false) (c8 S v15)) fun v16=>
 b4 (d4 (b7 v11 false) (some x1)) fun v17=>
 b4 (d4 (b7 v11 false) (some x5)) fun v18=>
 b4 (d4 (b7 v11 false) (o3 3 v17 v18)) fun v19=>
 b4 (d4 (b7 v11 false) (y9 1 v19)) fun v20=>
 b4 (d4 (b7 v11 false) (c8 S v20)) fun v21=>
 b4 (d4 (b7 v11 false) (d5 .neq v16 v21)) fun v22=>
 b4 (B8 v11 (.bool true) v22) fun v23=>
 b4 (d4 (b7 v23 false) (some x0)) fun v24=>
 b4 (d4 (b7 v23 false) (some x5)) fun v25=>
 b4 (d4 (b7 v23 false) (o3 3 v24 v25)) fun v26=>
 b4 (d4 (b7 v23 false) (y9 2 v26)) fun v27=>
 b4 (d4 (b7 v23 false) (c8 S v27)) fun v28=>
 b4 (d4 (b7 v23 false) (some x1)) fun v29=>
 b4 (d4 (b7 v23 false) (some x5)) fun v30=>
 b4 (d4 (b7 v23 false) (o3 3 v29 v30)) fun v31=>
 b4 (d4 (b7 v23 false) (y9 2 v31)) fun v32=>
 b4 (d4 (b7 v23 false) (c8 S v32)) fun v33=>
 A1 (b7 v23 false) (fun K=>r8 Try.prog E w0 C5 [v28,v33] S K) S fun v34 S35=>
 b4 (d4 (b7 v23 false) (unD .not v34)) fun v36=>
 b4 (B8 v23 (.bool true) v36) fun v37=>
 g8 v37
 (Q (.bool false) S35)
 (b4 (d5 .add x5 (.int .i64 1)) fun v38=>
 N0 x0 x1 v38 S35))
 (Q (.bool true) S)
theorem a8b{E:c9}{w0:g9}{N0:D→D→D→a8→Prop}{Q:D→a8→Prop}{x0 x1 x5:D}{S:a8}(h:a1j E w0 N0 Q x0 x1 x5 S):
  d6 Try.prog E w0 a0Y (f0 55 [0,1,5] [x0,x1,x5]) S (H9 (fun T S=>N0 (T.getD 0 b6) (T.getD 1 b6) (T.getD 5 b6) S) (a1f E w0 Q)):=d8 a2w a2j a2l mixed (by kernel_rfl) h
theorem a7S{E:c9}{w0:g9}{Q:D→a8→Prop}(I:Nat→D→D→D→a8→Prop)
  (step:∀n x0 x1 x5 S,I n x0 x1 x5 S→a1j E w0 (fun x0 x1 x5 S=>∃m,m<n∧I m x0 x1 x5 S) Q x0 x1 x5 S)
  {n:Nat} {x0 x1 x5:D} {S:a8} (h:I n x0 x1 x5 S):d6 Try.prog E w0 (.loop a0Y) (f0 55 [0,1,5] [x0,x1,x5]) S (a1f E w0 Q):=
 u7 (k:=55) (n:=n) (I:=fun n T S=>I n (T.getD 0 b6) (T.getD 1 b6) (T.getD 5 b6) S) (fun n T S hl hI=>w9 [0,1,5] hl (d6.mono (a8b (step n _ _ _ S hI)) fun ex T' S' _ hq=>by cases ex<;>exact hq)) (j5 ..) (Eq.mp (by kernel_rfl) h)
def a8t(E:c9)(w0:g9)(Q:D→a8→Prop)(a0 a1:D)(S:a8):Prop:=
 b4 (n9 a0) fun v0=>
 b4 (n9 a1) fun v1=>
 b4 (d5 .neq v0 v1) fun v2=>
 g8 v2
 (Q (.bool false) S)
 (d6 Try.prog E w0 (.loop a0Y) (f0 55 [0,1,5] [a0,a1,(.int .i64 0)]) S (a1f E w0 Q))
theorem b0x{E:c9}{w0:g9}{Q:D→a8→Prop}{a0 a1:D}{S:a8}(h:a8t E w0 (b9 E Q) a0 a1 S):r8 Try.prog E w0 a0N [a0,a1] S Q:=
 q9 a2w a2j a2l (fn:=Try.f15) (c:=Try.f15.body.getD .skip) mixed Try.func15 (by kernel_rfl) (by kernel_rfl) h
def b7q:List (Nat×List Nat):=[]
def b5N:List (Nat×List Nat):=[]
def b6y:List (Nat×Arr):=[]
def b1C(E:c9)(w0:g9)(Q:D→a8→Prop)(a0 a1:D)(S:a8):Prop:=
 a7d S a0 fun v0 S1=>
 r8 Try.prog E w0 C7 [v0] S1 fun v2 S3=>
 b4 (k9 v2 0) fun v4=>
 b4 (k9 v2 1) fun v5=>
 b4 (d5 .eql v5 (.int .i64 0)) fun v6=>
 b4 (d4 (b7 v6 true) (some v4)) fun v7=>
 b4 (d4 (b7 v6 true) (some a1)) fun v8=>
 A1 (b7 v6 true) (fun K=>r8 Try.prog E w0 a0N [v7,v8] S3 K) S3 fun v9 S10=>
 b4 (B8 v6 v9 (.bool false)) fun v11=>
 Q v11 S10
theorem b2Y{E:c9}{w0:g9}{Q:D→a8→Prop}{a0 a1:D}{S:a8}(h:b1C E w0 (b9 E Q) a0 a1 S):r8 Try.prog E w0 H5 [a0,a1] S Q:=
 q9 b7q b5N b6y (fn:=Try.f27) (c:=Try.f27.body.getD .skip) mixed Try.func27 (by kernel_rfl) (by kernel_rfl) h
end Go.Proofs.Ytdkidgkiplcggaa.d
end
section
open Go.Proofs Go Go.Am Go.Op
namespace Go.Proofs.Ytdkidgkiplcggaa.d
set_option linter.unusedSectionVars false
def b9f(ys:List In)(ext:List Int)(i:Nat):List Int:=match ys[i]? with
 |some y=>if a1m y then b0X y (ext.getD (i+1) 0)++(if i+1<ys.length then[ext.getD (i+1) 0]else[]) else[]
 |none=>[]
theorem c3v(ys:List In)(ext:List Int)(i:Nat):b3a ys ext i=b9f ys ext i:=by
 unfold b3a b9f
 cases ys[i]? with
 |none=>rfl
 |some y=>simp only[b8H]
def c0P(ys:List In)(ext:List Int)(i:Nat)(st:List Int×List V7):List Int×List V7:=match ys[i]? with
 |some y=>if st.1.head? =some (ext.getD i 0) then(st.1.tail,st.2++[⟨ext.getD i 0,ext.getD (i+1) 0,b0X y (ext.getD (i+1) 0)⟩])
  else(st.1,a0F st.2 (ext.getD (i+1) 0) (b0X y (ext.getD (i+1) 0)))
 |none=>st
def b4n(ys:List In)(ext tops:List Int):Nat→List Int×List V7
 |0=>(tops,[])
 |n+1=>c0P ys ext n (b4n ys ext tops n)
theorem c3q(ys:List In)(ext:List Int)(i:Nat)(st:List Int×List V7):b7j ys ext i st=c0P ys ext i st:=by
 unfold b7j c0P
 cases ys[i]? with
 |none=>rfl
 |some y=>simp only[b8H]
theorem b9s(ys:List In)(ext tops:List Int):∀n,A8 ys ext tops n=b4n ys ext tops n
 |0=>rfl
 |n+1=>by rw[A8,b4n,c3q,b9s]
def a8o(code:List Int):List V7×Int:=match b3k code with
 | .error e=>([],e)
 | .ok L=>a4I code.length (b4n (E8 L) (K1 L++[(code.length:Int)]) (b3M (0::(List.range (E8 L).length).flatMap (b9f (E8 L) (K1 L++[(code.length:Int)])))) (E8 L).length)
theorem b1w(code:List Int):a3t code=a8o code:=by
 unfold a3t a8o
 cases b3k code with
 |error e=>rfl
 |ok L=>
  show a4I _ (A8 _ _ (a0u (B4 _ _ _)) _)=a4I _ _
  rw[b9s,c1P]
  unfold B4
  rw[show b3a (E8 L) (K1 L++[(code.length:Int)])=b9f (E8 L) (K1 L++[(code.length:Int)]) from funext fun i=>c3v _ _ i]
theorem b1v{l:List V7}{s:List Int}(h0:∀b,l[0]? =some b→b.at'∈s)(hc:∀a i b,a∈s→A6 l a=some i→l[i]? =some b→∀n∈b.next,(A6 l n).isSome=true→n∈s):∀ {n:Int},a4z l n→n∈s:=by
 intro n h
 induction h with
 |base hb=>exact h0 _ hb
 |step _ h1 h2 h3 h4 ih=>exact hc _ _ _ ih h1 h2 _ h3 h4
theorem c0G{a b:List Int}(ha:a.Pairwise (· < ·))(hb:b.Pairwise (· < ·))(h:∀n,n∈a↔n∈b):a=b:=a3g ha hb h
section
variable{E:c9}{w0:g9}
theorem neI{a b:Int}:(a != b)=decide (a≠b):=by by_cases h:a=b<;>simp[h,bne]
theorem eqI{a b:Int}:(a==b)=decide (a=b):=by by_cases h:a=b<;>simp[h]
theorem b3e{a b:List V7}(ha:a.length<2^40)(hb:b.length<2^40)(hna:∀x∈a,x.next.length<2^60)(hnb:∀x∈b,x.next.length<2^60):a1p Try.prog E w0 a0N [B9 a,B9 b] (.bool (decide (a=b))):=fun S=>by
 refine b0x ?_
 unfold a8t
 rw[a3b,oD,a3b,oD,b0K,oD,neI,cdI]
 refine⟨fun h=> ?_,fun h=> ?_⟩
 ·rw[decide_eq_false (fun e=>h (by rw[e]))]
  exact b9.pure
 have h:a.length=b.length:=by omega
 refine a7S (I:=fun n x0 x1 x5 S'=>S'=S∧x0=B9 a∧x1=B9 b∧∃i:Nat,x5= .int .i64 (i:Int)∧i+n=a.length∧a.take i=b.take i) ?_ (n:=a.length) ⟨rfl,rfl,rfl,0,rfl,by omega,rfl⟩
 rintro n _ _ _ _ ⟨rfl,rfl,rfl,i,rfl,hi,ht⟩
 unfold a1j
 rw[a3b,oD,a4g,oD,cdI]
 refine⟨fun hlt=> ?_,fun hge=> ?_⟩
 ·have hlt:i<a.length:=by omega
  have ea:a[i]? =some a[i]:=List.getElem?_eq_getElem hlt
  have eb:b[i]? =some b[i]:=List.getElem?_eq_getElem (by omega)
  have ma:=hna a[i] (List.getElem_mem _)
  have mb:=hnb b[i] (List.getElem_mem _)
  have hne:a[i]≠b[i]→a≠b:=fun h e=>h (by simp only[e])
  generalize a[i]=x at*
  generalize b[i]=y at*
  have r0:∀b:V7,(O9 b)[0]? =some (.int .i64 b.at'):=fun _=>rfl
  have r1:∀b:V7,(O9 b)[1]? =some (.int .i64 b.end'):=fun _=>rfl
  have r2:∀b:V7,(O9 b)[2]? =some (iD b.next):=fun _=>rfl
  simp only[a0k ea,a0k eb,oD,ofE,Nat.zero_add,lsE,r0,b0K,neI]
  by_cases c0:x.at'=y.at'
  case neg=>
   simp only[decide_eq_true c0,wdB,t1,vdF,oD,pdB,if_true,gdF,cdT]
   rw[decide_eq_false (hne fun e=>c0 (by rw[e]))]
   exact b9.pure
  have c0':¬(x.at'≠y.at'):=fun h=>h c0
  simp only[decide_eq_false c0',wdB,t2,vdT,oD,a0k ea,a0k eb,ofE,Nat.zero_add,lsE,r1,b0K,neI,pdB,Bool.false_eq_true,if_false]
  by_cases c1:x.end'=y.end'
  case neg=>
   simp only[decide_eq_true c1,wdB,t1,vdF,oD,pdB,if_true,gdF,cdT]
   rw[decide_eq_false (hne fun e=>c1 (by rw[e]))]
   exact b9.pure
  have c1':¬(x.end'≠y.end'):=fun h=>h c1
  simp only[decide_eq_false c1',wdB,t2,vdT,oD,a0k ea,a0k eb,ofE,Nat.zero_add,lsE,r2,pdB,Bool.false_eq_true,if_false,gdT]
  refine(show r8 Try.prog E w0 C5 [iD x.next,iD y.next] _ _ from(a0v ma mb).use ?_)
  by_cases c2:x.next=y.next
  case neg=>
   simp only[decide_eq_false c2,unN,Bool.not_false,vdT,oD,pdB,Bool.false_eq_true,if_false,cdT]
   rw[decide_eq_false (hne fun e=>c2 (by rw[e]))]
   exact b9.pure
  simp only[decide_eq_true c2,unN,Bool.not_true,vdT,oD,pdB,Bool.false_eq_true,if_false,cdF]
  rw[U3,oD,l8 (by omega) (by omega)]
  refine⟨n - 1,by omega,by trivial,by trivial,by trivial,i+1,rfl,by omega, ?_⟩
  have hxy:x=y:=by cases x;cases y;simp only at c0 c1 c2;rw[c0,c1,c2]
  rw[List.take_add_one,List.take_add_one,ht,ea,eb,hxy]
 ·rw[List.take_of_length_le (by omega),List.take_of_length_le (by omega)]at ht
  rw[decide_eq_true ht]
  exact b9.pure
end
end Go.Proofs.Ytdkidgkiplcggaa.d
end
section
open Go.Proofs Go Go.Am
namespace Go.Proofs.Ytdkidgkiplcggaa.d
def p6:List (Nat×List Nat):=[(10,[1,2,3,4])]
def p5:List (Nat×List Nat):=[(4,[1]),(6,[1,2]),(8,[1,2,3]),(20,[1,2]),(22,[1,2,8]),(24,[1,2,8,10]),(26,[1,2,8,10,11])]
def q7:List (Nat×Arr):=[]
noncomputable def a3v:Code:=(i5 [1,1,1,1,1,1,1,1] (Try.f8.body.getD .skip))
def a2P(E:c9)(w0:g9)(Q:D→a8→Prop):j0→List D→a8→Prop:=
 (J2 Try.prog Try.f8 Q)
def W5(E:c9)(w0:g9)(Q:D→a8→Prop)(x1 x2 x8 x10 x11:D)(S:a8):Prop:=
 b4 (d4 (b7 x1 true) (some x2)) fun v0=>
 b4 (B8 x1 v0 (.bool false)) fun v1=>
 b4 (d4 (b7 v1 true) (some x8)) fun v2=>
 b4 (d4 (b7 v1 true) (d5 .eql v2 (.int .i64 120))) fun v3=>
 b4 (B8 v1 v3 (.bool false)) fun v4=>
 b4 (d4 (b7 v4 true) (some x10)) fun v5=>
 b4 (d4 (b7 v4 true) (d5 .eql v5 (.int .i64 10))) fun v6=>
 b4 (B8 v4 v6 (.bool false)) fun v7=>
 b4 (d4 (b7 v7 true) (some x11)) fun v8=>
 A1 (b7 v7 true) (fun K=>r8 Try.prog E w0 E2 [v8] S K) S fun v9 S10=>
 A1 (b7 v7 true) (fun K=>B3 S10 1 (l9 1 (List.replicate 3 [(.int .i64 0)]) [(0,(.int .i64 3)),(1,(.int .i64 5)),(2,(.int .i64 9))]) 3 K) S10 fun v11 S12=>
 A1 (b7 v7 true) (fun K=>r8 Try.prog E w0 C5 [v9,v11] S12 K) S12 fun v13 S14=>
 b4 (B8 v7 v13 (.bool false)) fun v15=>
 A1 (b7 v15 true) (fun K=>r8 Try.prog E w0 a2E [] S14 K) S14 fun v16 S17=>
 b4 (B8 v15 v16 (.bool false)) fun v18=>
 Q v18 S17
def J5(E:c9)(w0:g9)(Q:D→a8→Prop)(x1 x2 x8 x10 x11:D)(S:a8):Prop:=d6 Try.prog E w0 a3v (f0 117 [1,2,8,10,11] [x1,x2,x8,x10,x11]) S (a2P E w0 Q)
theorem a1N{E:c9}{w0:g9}{Q:D→a8→Prop}{x1 x2 x8 x10 x11:D}{S:a8}(h:W5 E w0 Q x1 x2 x8 x10 x11 S):J5 E w0 Q x1 x2 x8 x10 x11 S:=d8 p6 p5 q7 mixed (by kernel_rfl) h
noncomputable def a3F:Code:=(i5 [1,1,1,1,1,1,1] (Try.f8.body.getD .skip))
def a3c(E:c9)(w0:g9)(Q:D→a8→Prop):j0→List D→a8→Prop:=
 (J2 Try.prog Try.f8 Q)
def X3(E:c9)(w0:g9)(Q:D→a8→Prop)(x1 x2 x8 x10:D)(S:a8):Prop:=
 B3 S 1 (l9 1 (List.replicate 3 [(.int .i64 0)]) [(0,(.int .i64 3)),(1,(.int .i64 5)),(2,(.int .i64 77))]) 3 fun v19 S20=>
 b4 (y8 (j6 [(.int .i64 0),(.int .i64 0), .nilSlc] [(0,1,(.int .i64 9)),(2,1,v19)])) fun v21=>
 B3 S20 1 (l9 1 (List.replicate 1 [(.int .i64 0)]) [(0,(.int .i64 9))]) 1 fun v22 S23=>
 b4 (y8 (j6 [(.int .i64 0),(.int .i64 0), .nilSlc] [(0,1,(.int .i64 3)),(2,1,v22)])) fun v24=>
 B3 S23 1 (l9 1 (List.replicate 1 [(.int .i64 0)]) [(0,(.int .i64 5))]) 1 fun v25 S26=>
 b4 (y8 (j6 [(.int .i64 0),(.int .i64 0), .nilSlc] [(0,1,(.int .i64 4)),(2,1,v25)])) fun v27=>
 b4 (y8 (j6 [(.int .i64 0),(.int .i64 0), .nilSlc] [(0,1,(.int .i64 5))])) fun v28=>
 B3 S26 1 (l9 1 (List.replicate 1 [(.int .i64 0)]) [(0,(.int .i64 4))]) 1 fun v29 S30=>
 b4 (y8 (j6 [(.int .i64 0),(.int .i64 0), .nilSlc] [(0,1,(.int .i64 3)),(2,1,v29)])) fun v31=>
 B3 S30 3 (l9 3 (List.replicate 5 [(.int .i64 0),(.int .i64 0), .nilSlc]) [(0,v21),(1,v24),(2,v27),(3,v28),(4,v31)]) 5 fun v32 S33=>
 J5 E w0 Q x1 x2 x8 x10 v32 S33
def I7(E:c9)(w0:g9)(Q:D→a8→Prop)(x1 x2 x8 x10:D)(S:a8):Prop:=d6 Try.prog E w0 a3F (f0 117 [1,2,8,10] [x1,x2,x8,x10]) S (a3c E w0 Q)
theorem a1L{E:c9}{w0:g9}{Q:D→a8→Prop}{x1 x2 x8 x10:D}{S:a8}(h:X3 E w0 Q x1 x2 x8 x10 S):I7 E w0 Q x1 x2 x8 x10 S:=d8 p6 p5 q7 mixed (by kernel_rfl) h
noncomputable def a3y:Code:=(i5 [1,1,1,1,1,1] (Try.f8.body.getD .skip))
def a2W(E:c9)(w0:g9)(Q:D→a8→Prop):j0→List D→a8→Prop:=
 (J2 Try.prog Try.f8 Q)
def W9(E:c9)(w0:g9)(Q:D→a8→Prop)(x1 x2 x8:D)(S:a8):Prop:=
 B3 S 1 (l9 1 (List.replicate 1 [(.int .u8 0)]) [(0,(.int .u8 2))]) 1 fun v34 S35=>
 r8 Try.prog E w0 C7 [v34] S35 fun v36 S37=>
 b4 (k9 v36 0) fun v38=>
 b4 (k9 v36 1) fun v39=>
 I7 E w0 Q x1 x2 x8 v39 S37
def I8(E:c9)(w0:g9)(Q:D→a8→Prop)(x1 x2 x8:D)(S:a8):Prop:=d6 Try.prog E w0 a3y (f0 117 [1,2,8] [x1,x2,x8]) S (a2W E w0 Q)
theorem a1K{E:c9}{w0:g9}{Q:D→a8→Prop}{x1 x2 x8:D}{S:a8}(h:W9 E w0 Q x1 x2 x8 S):I8 E w0 Q x1 x2 x8 S:=d8 p6 p5 q7 mixed (by kernel_rfl) h
noncomputable def X1:Code:=(i5 [1,1,1,1,1] (Try.f8.body.getD .skip))
def a3a(E:c9)(w0:g9)(Q:D→a8→Prop):j0→List D→a8→Prop:=
 (J2 Try.prog Try.f8 Q)
def X0(E:c9)(w0:g9)(Q:D→a8→Prop)(x1 x2:D)(S:a8):Prop:=
 B3 S 1 (l9 1 (List.replicate 1 [(.int .u8 0)]) [(0,(.int .u8 0))]) 1 fun v40 S41=>
 r8 Try.prog E w0 C7 [v40] S41 fun v42 S43=>
 b4 (k9 v42 0) fun v44=>
 b4 (k9 v42 1) fun v45=>
 I8 E w0 Q x1 x2 v45 S43
def J0(E:c9)(w0:g9)(Q:D→a8→Prop)(x1 x2:D)(S:a8):Prop:=d6 Try.prog E w0 X1 (f0 117 [1,2] [x1,x2]) S (a3a E w0 Q)
theorem a1I{E:c9}{w0:g9}{Q:D→a8→Prop}{x1 x2:D}{S:a8}(h:X0 E w0 Q x1 x2 S):J0 E w0 Q x1 x2 S:=d8 p6 p5 q7 mixed (by kernel_rfl) h
noncomputable def L7:Code:=(i5 [1,1,1,1,0,1,0,0] (Try.f8.body.getD .skip))
def L2(E:c9)(w0:g9)(Q:D→a8→Prop):j0→List D→a8→Prop:=
 (z8 0 (b6K Try.prog E w0 117 [1,2] X1 (J2 Try.prog Try.f8 Q)))
def L8(E:c9)(w0:g9)(N0:D→D→D→D→a8→Prop)(Q:D→a8→Prop)(x1 x2 x3 x4:D)(S:a8):Prop:=
 b4 (n9 x3) fun v46=>
 b4 (d5 .lss x4 v46) fun v47=>
 g8 v47
 (b4 (o3 1 x3 x4) fun v48=>
 b4 (c8 S v48) fun v49=>
 a7d S v49 fun v50 S51=>
 r8 Try.prog E w0 C7 [v50] S51 fun v52 S53=>
 b4 (k9 v52 0) fun v54=>
 b4 (k9 v52 1) fun v55=>
 b4 (n9 v54) fun v56=>
 b4 (d5 .neq v56 (.int .i64 0)) fun v57=>
 b4 (d4 (b7 v57 false) (some v55)) fun v58=>
 b4 (d4 (b7 v57 false) (d5 .neq v58 (.int .i64 190))) fun v59=>
 b4 (B8 v57 (.bool true) v59) fun v60=>
 g8 v60
 (Q (.bool false) S53)
 (b4 (d5 .add x4 (.int .i64 1)) fun v61=>
 N0 x1 x2 x3 v61 S53))
 (J0 E w0 Q x1 x2 S)
theorem a2F{E:c9}{w0:g9}{N0:D→D→D→D→a8→Prop}{Q:D→a8→Prop}{x1 x2 x3 x4:D}{S:a8}(h:L8 E w0 N0 Q x1 x2 x3 x4 S):
  d6 Try.prog E w0 L7 (f0 117 [1,2,3,4] [x1,x2,x3,x4]) S (H9 (fun T S=>N0 (T.getD 1 b6) (T.getD 2 b6) (T.getD 3 b6) (T.getD 4 b6) S) (L2 E w0 Q)):=d8 p6 p5 q7 mixed (by kernel_rfl) h
theorem a2k{E:c9}{w0:g9}{Q:D→a8→Prop}(I:Nat→D→D→D→D→a8→Prop)
  (step:∀n x1 x2 x3 x4 S,I n x1 x2 x3 x4 S→L8 E w0 (fun x1 x2 x3 x4 S=>∃m,m<n∧I m x1 x2 x3 x4 S) Q x1 x2 x3 x4 S)
  {n:Nat} {x1 x2 x3 x4:D} {S:a8} (h:I n x1 x2 x3 x4 S):d6 Try.prog E w0 (.loop L7) (f0 117 [1,2,3,4] [x1,x2,x3,x4]) S (L2 E w0 Q):=
 u7 (k:=117) (n:=n) (I:=fun n T S=>I n (T.getD 1 b6) (T.getD 2 b6) (T.getD 3 b6) (T.getD 4 b6) S) (fun n T S hl hI=>w9 [1,2,3,4] hl (d6.mono (a2F (step n _ _ _ _ S hI)) fun ex T' S' _ hq=>by cases ex<;>exact hq)) (j5 ..) (Eq.mp (by kernel_rfl) h)
noncomputable def a4i:Code:=(i5 [1,1,1,1] (Try.f8.body.getD .skip))
def a3z(E:c9)(w0:g9)(Q:D→a8→Prop):j0→List D→a8→Prop:=
 (J2 Try.prog Try.f8 Q)
def X8(E:c9)(w0:g9)(Q:D→a8→Prop)(x1 x2 x3:D)(S:a8):Prop:=
 d6 Try.prog E w0 (.loop L7) (f0 117 [1,2,3,4] [x1,x2,x3,(.int .i64 0)]) S (L2 E w0 Q)
def M2(E:c9)(w0:g9)(Q:D→a8→Prop)(x1 x2 x3:D)(S:a8):Prop:=d6 Try.prog E w0 a4i (f0 117 [1,2,3] [x1,x2,x3]) S (a3z E w0 Q)
theorem a2i{E:c9}{w0:g9}{Q:D→a8→Prop}{x1 x2 x3:D}{S:a8}(h:X8 E w0 Q x1 x2 x3 S):M2 E w0 Q x1 x2 x3 S:=d8 p6 p5 q7 mixed (by kernel_rfl) h
noncomputable def a4k:Code:=(i5 [1,1,1] (Try.f8.body.getD .skip))
def a3q(E:c9)(w0:g9)(Q:D→a8→Prop):j0→List D→a8→Prop:=
 (J2 Try.prog Try.f8 Q)
def X6(E:c9)(w0:g9)(Q:D→a8→Prop)(x1 x2:D)(S:a8):Prop:=
 B3 S 1 (l9 1 (List.replicate 7 [(.str [])]) [(0,(.str [46,1,0,0,0])),(1,(.str [4])),(2,(.str [])),(3,(.str [4,47,6,0,0,0])),(4,(.str [46,5,0,0,0])),(5,(.str [48,0,0,0,0])),(6,(.str [2,0,0,0,0,51,46,1,0,0,0]))]) 7 fun v62 S63=>
 M2 E w0 Q x1 x2 v62 S63
def M0(E:c9)(w0:g9)(Q:D→a8→Prop)(x1 x2:D)(S:a8):Prop:=d6 Try.prog E w0 a4k (f0 117 [1,2] [x1,x2]) S (a3q E w0 Q)
theorem a2B{E:c9}{w0:g9}{Q:D→a8→Prop}{x1 x2:D}{S:a8}(h:X6 E w0 Q x1 x2 S):M0 E w0 Q x1 x2 S:=d8 p6 p5 q7 mixed (by kernel_rfl) h
noncomputable def a4f:Code:=(i5 [1,1] (Try.f8.body.getD .skip))
def a3Q(E:c9)(w0:g9)(Q:D→a8→Prop):j0→List D→a8→Prop:=
 (J2 Try.prog Try.f8 Q)
def Y2(E:c9)(w0:g9)(Q:D→a8→Prop)(x1:D)(S:a8):Prop:=
 b4 (y8 (j6 [(.int .i64 0),(.int .i64 0), .nilSlc] [(0,1,(.int .i64 0)),(1,1,(.int .i64 2))])) fun v64=>
 B3 S 3 (l9 3 (List.replicate 1 [(.int .i64 0),(.int .i64 0), .nilSlc]) [(0,v64)]) 1 fun v65 S66=>
 r8 Try.prog E w0 H5 [(.str [4,51]),v65] S66 fun v67 S68=>
 A1 (b7 v67 true) (fun K=>B3 S68 1 (l9 1 (List.replicate 1 [(.int .i64 0)]) [(0,(.int .i64 1))]) 1 K) S68 fun v69 S70=>
 b4 (d4 (b7 v67 true) (y8 (j6 [(.int .i64 0),(.int .i64 0), .nilSlc] [(0,1,(.int .i64 0)),(1,1,(.int .i64 1)),(2,1,v69)]))) fun v71=>
 A1 (b7 v67 true) (fun K=>B3 S70 1 (l9 1 (List.replicate 1 [(.int .i64 0)]) [(0,(.int .i64 1))]) 1 K) S70 fun v72 S73=>
 b4 (d4 (b7 v67 true) (y8 (j6 [(.int .i64 0),(.int .i64 0), .nilSlc] [(0,1,(.int .i64 1)),(1,1,(.int .i64 6)),(2,1,v72)]))) fun v74=>
 A1 (b7 v67 true) (fun K=>B3 S73 3 (l9 3 (List.replicate 2 [(.int .i64 0),(.int .i64 0), .nilSlc]) [(0,v71),(1,v74)]) 2 K) S73 fun v75 S76=>
 A1 (b7 v67 true) (fun K=>r8 Try.prog E w0 H5 [(.str [4,46,1,0,0,0]),v75] S76 K) S76 fun v77 S78=>
 b4 (B8 v67 v77 (.bool false)) fun v79=>
 A1 (b7 v79 true) (fun K=>B3 S78 1 (l9 1 (List.replicate 1 [(.int .i64 0)]) [(0,(.int .i64 8))]) 1 K) S78 fun v80 S81=>
 b4 (d4 (b7 v79 true) (y8 (j6 [(.int .i64 0),(.int .i64 0), .nilSlc] [(0,1,(.int .i64 0)),(1,1,(.int .i64 8)),(2,1,v80)]))) fun v82=>
 b4 (d4 (b7 v79 true) (y8 (j6 [(.int .i64 0),(.int .i64 0), .nilSlc] [(0,1,(.int .i64 8)),(1,1,(.int .i64 9))]))) fun v83=>
 A1 (b7 v79 true) (fun K=>B3 S81 3 (l9 3 (List.replicate 2 [(.int .i64 0),(.int .i64 0), .nilSlc]) [(0,v82),(1,v83)]) 2 K) S81 fun v84 S85=>
 A1 (b7 v79 true) (fun K=>r8 Try.prog E w0 H5 [(.str [49,3,0,0,8,0,0,0,51]),v84] S85 K) S85 fun v86 S87=>
 b4 (B8 v79 v86 (.bool false)) fun v88=>
 M0 E w0 Q x1 v88 S87
def L9(E:c9)(w0:g9)(Q:D→a8→Prop)(x1:D)(S:a8):Prop:=d6 Try.prog E w0 a4f (f0 117 [1] [x1]) S (a3Q E w0 Q)
theorem a2p{E:c9}{w0:g9}{Q:D→a8→Prop}{x1:D}{S:a8}(h:Y2 E w0 Q x1 S):L9 E w0 Q x1 S:=d8 p6 p5 q7 mixed (by kernel_rfl) h
def a0C(E:c9)(w0:g9)(Q:D→a8→Prop)(S:a8):Prop:=
 b4 (y8 (j6 [(.int .i64 0),(.int .i64 0), .nilSlc] [(0,1,(.int .i64 0)),(1,1,(.int .i64 1))])) fun v89=>
 B3 S 3 (l9 3 (List.replicate 1 [(.int .i64 0),(.int .i64 0), .nilSlc]) [(0,v89)]) 1 fun v90 S91=>
 r8 Try.prog E w0 H5 [(.str [51]),v90] S91 fun v92 S93=>
 A1 (b7 v92 true) (fun K=>B3 S93 1 (l9 1 (List.replicate 2 [(.int .i64 0)]) [(0,(.int .i64 6)),(1,(.int .i64 7))]) 2 K) S93 fun v94 S95=>
 b4 (d4 (b7 v92 true) (y8 (j6 [(.int .i64 0),(.int .i64 0), .nilSlc] [(0,1,(.int .i64 0)),(1,1,(.int .i64 6)),(2,1,v94)]))) fun v96=>
 b4 (d4 (b7 v92 true) (y8 (j6 [(.int .i64 0),(.int .i64 0), .nilSlc] [(0,1,(.int .i64 6)),(1,1,(.int .i64 7))]))) fun v97=>
 b4 (d4 (b7 v92 true) (y8 (j6 [(.int .i64 0),(.int .i64 0), .nilSlc] [(0,1,(.int .i64 7)),(1,1,(.int .i64 8))]))) fun v98=>
 A1 (b7 v92 true) (fun K=>B3 S95 3 (l9 3 (List.replicate 3 [(.int .i64 0),(.int .i64 0), .nilSlc]) [(0,v96),(1,v97),(2,v98)]) 3 K) S95 fun v99 S100=>
 A1 (b7 v92 true) (fun K=>r8 Try.prog E w0 H5 [(.str [4,47,7,0,0,0,51,51]),v99] S100 K) S100 fun v101 S102=>
 b4 (B8 v92 v101 (.bool false)) fun v103=>
 A1 (b7 v103 true) (fun K=>B3 S102 1 (l9 1 (List.replicate 1 [(.int .i64 0)]) [(0,(.int .i64 0))]) 1 K) S102 fun v104 S105=>
 b4 (d4 (b7 v103 true) (y8 (j6 [(.int .i64 0),(.int .i64 0), .nilSlc] [(0,1,(.int .i64 0)),(1,1,(.int .i64 5)),(2,1,v104)]))) fun v106=>
 A1 (b7 v103 true) (fun K=>B3 S105 3 (l9 3 (List.replicate 1 [(.int .i64 0),(.int .i64 0), .nilSlc]) [(0,v106)]) 1 K) S105 fun v107 S108=>
 A1 (b7 v103 true) (fun K=>r8 Try.prog E w0 H5 [(.str [46,0,0,0,0]),v107] S108 K) S108 fun v109 S110=>
 b4 (B8 v103 v109 (.bool false)) fun v111=>
 b4 (d4 (b7 v111 true) (y8 (j6 [(.int .i64 0),(.int .i64 0), .nilSlc] [(0,1,(.int .i64 0)),(1,1,(.int .i64 2))]))) fun v112=>
 b4 (d4 (b7 v111 true) (y8 (j6 [(.int .i64 0),(.int .i64 0), .nilSlc] [(0,1,(.int .i64 2)),(1,1,(.int .i64 3))]))) fun v113=>
 A1 (b7 v111 true) (fun K=>B3 S110 3 (l9 3 (List.replicate 2 [(.int .i64 0),(.int .i64 0), .nilSlc]) [(0,v112),(1,v113)]) 2 K) S110 fun v114 S115=>
 A1 (b7 v111 true) (fun K=>r8 Try.prog E w0 H5 [(.str [52,1,51]),v114] S115 K) S115 fun v116 S117=>
 b4 (B8 v111 v116 (.bool false)) fun v118=>
 L9 E w0 Q v118 S117
theorem a3O{E:c9}{w0:g9}{Q:D→a8→Prop}{S:a8}(h:a0C E w0 (b9 E Q) S):r8 Try.prog E w0 a0D [] S Q:=
 q9 p6 p5 q7 (fn:=Try.f8) (c:=Try.f8.body.getD .skip) mixed Try.func8 (by kernel_rfl) (by kernel_rfl) h
end Go.Proofs.Ytdkidgkiplcggaa.d
end
section
open Go.Proofs Go Go.Am Go.Op
namespace Go.Proofs.Ytdkidgkiplcggaa.d
section
set_option linter.unusedSectionVars false
section
variable{E:c9}{w0:g9}
theorem b6Y{l:List V7}{s:List Int}(hat:∀b∈l,I64 b.at')(hl:l.length<2^37)(hW:wgt (fun _=>true) l<2^37)(hnx:∀b∈l,b.next.length<2^37)(hs:s.Pairwise (· < ·))(h1:∀n∈s,a4z l n)(h2:∀n,a4z l n→n∈s):a1p Try.prog E w0 E2 [B9 l] (iD s):=fun S=>
 (b0i hat hl hW hnx).use fun d S' ⟨a,r,b,c,e⟩=>⟨by rw[b,c0G c hs fun n=>⟨fun h=>h2 n ((e n).1 h),fun h=>(e n).2 (h1 n h)⟩],a⟩
theorem b8p:a1p Try.prog E w0 a2E [] (.bool true):=fun S=>by
 refine a8T ?_
 unfold a6w
 rw[show l9 1 (List.replicate 3 [D.int .u8 0]) [(0, .int .u8 52),(1, .int .u8 1),(2, .int .u8 51)]=some (a0t ([52,1,51].map (D.int .u8))) from rfl]
 refine P6 rfl ?_
 refine(show r8 Try.prog E w0 C7 [bD [52,1,51]] S _ from(a3o (by simp[L3]) (by decide)).use ?_)
 rw[show a3t [52,1,51]=([⟨0,2,[]⟩,⟨2,3,[]⟩],0) from by rw[b1w];kernel_rfl]
 have hln:n9 (B9 [⟨0,2,[]⟩,⟨2,3,[]⟩])=some (.int .i64 2):=rfl
 have i0:o3 3 (B9 [⟨0,2,[]⟩,⟨2,3,[]⟩]) (.int .i64 0)=some (.elt (O9 ⟨0,2,[]⟩) 0):=rfl
 have i1:o3 3 (B9 [⟨0,2,[]⟩,⟨2,3,[]⟩]) (.int .i64 1)=some (.elt (O9 ⟨2,3,[]⟩) 0):=rfl
 have r0:∀b:V7,(O9 b)[0]? =some (.int .i64 b.at'):=fun _=>rfl
 have r1:∀b:V7,(O9 b)[1]? =some (.int .i64 b.end'):=fun _=>rfl
 have r2:∀b:V7,(O9 b)[2]? =some (iD b.next):=fun _=>rfl
 unfold ofD
 simp only[exD,List.getElem?_cons_zero,List.getElem?_cons_succ,oD,a5U,eqI,decide_true,wdB,t4,vdT,hln,pdB,if_true,i0,i1,ofE,Nat.zero_add,lsE,r0,r1,r2,a4Y,List.length_nil,Int.ofNat_zero,gdT]
 refine(show r8 Try.prog E w0 E2 [B9 [⟨0,2,[]⟩,⟨2,3,[]⟩]] S _ from(b6Y (s:=[0]) (by simp[I64]) (by decide) (by decide) (by simp) (by simp) (fun n hn=> ?_) (fun n hn=> ?_)).use ?_)
 ·rw[List.mem_singleton.1 hn];exact .base (b:=⟨0,2,[]⟩) rfl
 ·refine b1v (fun b hb=> ?_) (fun a i b ha hi hb m hm _=> ?_) hn
  ·cases hb;simp
  ·rw[List.mem_singleton.1 ha]at hi
   cases hi
   cases hb
   cases hm
 rw[show l9 1 (List.replicate 1 [D.int .i64 0]) [(0, .int .i64 0)]=some (iC [0]) from rfl]
 refine P6 (rows:=iC [0]) (len:=1) rfl ?_
 refine(show r8 Try.prog E w0 C5 [iD [0],iD [0]] S _ from(a0v (by decide) (by decide)).use ?_)
 simp only[decide_true,pdB,if_true,oD]
 exact b9.pure
def b5x(s:List UInt8):List Int:=s.map fun b=>(b.toNat:Int)
theorem b3s(s:List UInt8):∀b∈b5x s,L3 b:=fun b hb=>by
 obtain⟨x,_,rfl⟩:=List.mem_map.1 hb
 have:=x.toNat_lt
 unfold L3
 omega
theorem c1I{S:a8}{s:List UInt8}(hs:s.length<1000){K:D→a8→Prop}(h:K (bD (b5x s)) S):a7d S (.str s) K:=by
 simp only[a7d]
 rw[if_pos (by omega)]
 refine .inl ?_
 rw[List.take_of_length_le (by rw[List.length_map];exact Nat.le_refl _)]
 have e:s.map (fun b=>[D.int .u8 (b.toNat:Int)])=a0t ((b5x s).map (D.int .u8)):=by simp[a0t,b5x]
 rw[e]
 exact h
theorem G9{S:a8}{sz:Nat}{rows0 rows:List (List D)}{parts:List (Nat×D)}{len:Nat}{K:D→a8→Prop}(h:l9 sz rows0 parts=some rows)(hl:rows.length=len)(hK:K (.lst rows sz) S):B3 S sz (l9 sz rows0 parts) len K:=by
 rw[h];exact P6 hl hK
theorem gT{s:(D→a8→Prop)→Prop}{S:a8}{Q:D→a8→Prop}(h:s Q):A1 (b7 (.bool true) true) s S Q:=h
theorem b2A{cs v:List D}{parts:List (Nat×Nat×D)}{Q:D→Prop}(h:j6 cs parts=some v)(hq:Q (.agg v)):b4 (y8 (j6 cs parts)) Q:=by rw[h];exact hq
theorem agT{cs v:List D}{parts:List (Nat×Nat×D)}{Q:D→Prop}(h:j6 cs parts=some v)(hq:Q (.agg v)):b4 (d4 (b7 (.bool true) true) (y8 (j6 cs parts))) Q:=by rw[h];exact hq
theorem pT{v:D}{Q:D→Prop}(h:Q v):b4 (B8 (.bool true) v (.bool false)) Q:=h
theorem vT{v:D}{Q:D→Prop}(h:Q v):b4 (d4 (b7 (.bool true) true) (some v)) Q:=h
theorem eT{k:IntKind}{a:Int}{Q:D→Prop}(h:Q (.bool true)):b4 (d4 (b7 (.bool true) true) (d5 .eql (.int k a) (.int k a))) Q:=by
 rw[a7W,decide_eq_true rfl];exact h
theorem wkB{rows:List (List D)}{l:List V7}(w:WkR rows (l.map O9)):Wk (.lst rows 3) (B9 l):=Wk.lst w 3
theorem exO{a:D}{l:List D}{Q:D→Prop}(h:Q a):b4 (k9 (.tup (a::l)) 0) Q:=h
theorem c2i{a b:D}{l:List D}{Q:D→Prop}(h:Q b):b4 (k9 (.tup (a::b::l)) 1) Q:=h
theorem a6R{s:List UInt8}{w:D}(l:List V7){S:a8}{Q:D→a8→Prop}(hs:s.length<1000)(hv:a8o (b5x s)=(l,0))(hw:Wk w (B9 l))(hl:l.length<2^40)(hn:∀x∈l,x.next.length<2^60)(hQ:Q (.bool true) S):r8 Try.prog E w0 H5 [.str s,w] S Q:=by
 refine DF.weak (es:=[.str s,B9 l]) ⟨Wk.refl _,hw,trivial⟩ ?_
 refine r8.use (show r8 Try.prog E w0 H5 [.str s,B9 l] S fun d S'=>d= .bool true∧S'=S from ?_) fun d S' ⟨a,b⟩=>by subst a b;exact hQ
 refine b2Y ?_
 unfold b1C
 refine c1I hs ?_
 refine(show r8 Try.prog E w0 C7 [bD (b5x s)] S _ from(a3o (b3s s) (by rw[b5x,List.length_map];omega)).use ?_)
 rw[b1w,hv]
 refine exO (c2i ?_)
 show b4 (some (D.bool true)) _
 refine vT (vT ?_)
 refine(show r8 Try.prog E w0 a0N [B9 l,B9 l] S _ from(b3e hl hl hn hn).use ?_)
 rw[decide_eq_true rfl]
 exact b9.pure
theorem b8C{code:List Int}(e:Int){S:a8}{Q:D→a8→Prop}(hb:∀b∈code,L3 b)(hl:code.length<1000)(hv:a8o code=([],e))(hQ:Q (.tup [B9 [], .int .i64 e]) S):r8 Try.prog E w0 C7 [bD code] S Q:=
 (show r8 Try.prog E w0 C7 [bD code] S _ from(a3o hb (by omega)).use (by rw[b1w,hv];exact hQ))
end
end
section
set_option linter.unusedSectionVars false
def b7Q(E:c9):D→a8→Prop:=b9 E fun v _=>v= .bool true
def b6a:List V7:=[⟨9,0,[3,5,77]⟩,⟨3,0,[9]⟩,⟨4,0,[5]⟩,⟨5,0,[]⟩,⟨3,0,[4]⟩]
section
variable{E:c9}{w0:g9}
theorem b7N{S:a8}{w:D}(hw:Wk w (B9 b6a)):J5 E w0 (b7Q E) (.bool true) (.bool true) (.int .i64 120) (.int .i64 10) w S:=by
 refine a1N ?_
 unfold W5
 refine vT (pT (vT (eT (pT (vT (eT (pT (vT (gT ?_)))))))))
 refine DF.weak (es:=[B9 b6a]) ⟨hw,trivial⟩ ?_
 refine(show r8 Try.prog E w0 E2 [B9 b6a] S _ from(b6Y (s:=[3,5,9]) (by simp[b6a,I64]) (by decide) (by decide) (by simp[b6a]) (by simp) (fun n hn=> ?_) (fun n hn=> ?_)).use ?_)
 ·have h9:a4z b6a 9:= .base (b:=⟨9,0,[3,5,77]⟩) rfl
  have h3:a4z b6a 3:= .step (i:=0) (b:=⟨9,0,[3,5,77]⟩) h9 rfl rfl (by simp) rfl
  have h5:a4z b6a 5:= .step (i:=0) (b:=⟨9,0,[3,5,77]⟩) h9 rfl rfl (by simp) rfl
  simp only[List.mem_cons,List.not_mem_nil,or_false]at hn
  rcases hn with rfl|rfl|rfl
  ·exact h3
  ·exact h5
  ·exact h9
 ·refine b1v (fun b hb=> ?_) (fun a i b ha hi hb m hm hf=> ?_) hn
  ·cases hb;simp
  ·simp only[List.mem_cons,List.not_mem_nil,or_false]at ha
   rcases ha with rfl|rfl|rfl
   ·cases hi;cases hb;simp at hm;simp[hm]
   ·cases hi;cases hb;simp at hm
   ·cases hi
    cases hb
    simp only[List.mem_cons,List.not_mem_nil,or_false]at hm
    rcases hm with rfl|rfl|rfl
    ·simp
    ·simp
    ·cases hf
 refine gT (G9 rfl rfl ?_)
 refine gT (show r8 Try.prog E w0 C5 [iD [3,5,9],iD [3,5,9]] S _ from(a0v (by decide) (by decide)).use ?_)
 rw[decide_eq_true rfl]
 refine pT (gT ?_)
 refine b8p.use ?_
 exact b9.here rfl
theorem b7A{S:a8}:I7 E w0 (b7Q E) (.bool true) (.bool true) (.int .i64 120) (.int .i64 10) S:=by
 refine a1L ?_
 unfold X3
 refine G9 rfl rfl (b2A rfl (G9 rfl rfl (b2A rfl (G9 rfl rfl (b2A rfl (b2A rfl (G9 rfl rfl (b2A rfl (G9 rfl rfl ?_)))))))))
 exact b7N (by exact wkB ⟨⟨⟨Wk.refl _,Wk.refl _,Wk.refl _,trivial⟩,rfl⟩,⟨⟨Wk.refl _,Wk.refl _,Wk.refl _,trivial⟩,rfl⟩,⟨⟨Wk.refl _,Wk.refl _,Wk.refl _,trivial⟩,rfl⟩,⟨⟨Wk.refl _,Wk.refl _,Wk.nil _,trivial⟩,rfl⟩,⟨⟨Wk.refl _,Wk.refl _,Wk.refl _,trivial⟩,rfl⟩,trivial⟩)
theorem b7J{S:a8}:I8 E w0 (b7Q E) (.bool true) (.bool true) (.int .i64 120) S:=by
 refine a1K ?_
 unfold W9
 refine G9 rfl rfl (b8C (code:=[2]) 10 (by simp[L3]) (by decide) (by kernel_rfl) (exO (c2i ?_)))
 exact b7A
theorem b7E{S:a8}:J0 E w0 (b7Q E) (.bool true) (.bool true) S:=by
 refine a1I ?_
 unfold X0
 refine G9 rfl rfl (b8C (code:=[0]) 120 (by simp[L3]) (by decide) (by kernel_rfl) (exO (c2i ?_)))
 exact b7J
def b4m:List (List UInt8):=[[46,1,0,0,0],[4],[],[4,47,6,0,0,0],[46,5,0,0,0],[48,0,0,0,0],[2,0,0,0,0,51,46,1,0,0,0]]
theorem b8z:∀i:Nat,i<7→∃s:List UInt8,o3 1 (.lst (b4m.map fun s=>[D.str s]) 1) (.int .i64 (i:Int))=some (.elt [.str s] 0)∧s.length<1000∧a8o (b5x s)=([],190):=by
 intro i hi
 match i,hi with
 |0,_=>exact⟨_,rfl,by decide,by kernel_rfl⟩
 |1,_=>exact⟨_,rfl,by decide,by kernel_rfl⟩
 |2,_=>exact⟨_,rfl,by decide,by kernel_rfl⟩
 |3,_=>exact⟨_,rfl,by decide,by kernel_rfl⟩
 |4,_=>exact⟨_,rfl,by decide,by kernel_rfl⟩
 |5,_=>exact⟨_,rfl,by decide,by kernel_rfl⟩
 |6,_=>exact⟨_,rfl,by decide,by kernel_rfl⟩
theorem c0c{S:a8}:M2 E w0 (b7Q E) (.bool true) (.bool true) (.lst (b4m.map fun s=>[D.str s]) 1) S:=by
 refine a2i ?_
 unfold X8
 refine a2k (I:=fun n x1 x2 x3 x4 T=>x1= .bool true∧x2= .bool true∧x3= .lst (b4m.map fun s=>[D.str s]) 1∧∃i:Nat,x4= .int .i64 (i:Int)∧i+n=7) ?_ (n:=7) ⟨rfl,rfl,rfl,0,rfl,rfl⟩
 rintro n _ _ _ _ T ⟨rfl,rfl,rfl,i,rfl,hi⟩
 unfold L8
 rw[show n9 (.lst (b4m.map fun s=>[D.str s]) 1)=some (.int .i64 7) from rfl,oD,a4g,oD,cdI]
 refine⟨fun hlt=> ?_,fun _=>b7E⟩
 obtain⟨s,e1,e2,e3⟩:=b8z i (by omega)
 rw[e1,oD,lsE,List.getElem?_cons_zero,oD]
 refine c1I e2 ?_
 refine b8C 190 (b3s s) (by rw[b5x,List.length_map];omega) e3 (exO (c2i ?_))
 have hln:n9 (B9 [])=some (.int .i64 0):=rfl
 have h0:decide ((0:Int)≠0)=false:=rfl
 have h1:decide ((190:Int)≠190)=false:=rfl
 simp only[hln,oD,c1X,h0,h1,wdB,t2,vdT,pdB,Bool.false_eq_true,if_false,cdF,U3]
 rw[l8 (by omega) (by omega)]
 exact⟨n - 1,by omega,by trivial,by trivial,by trivial,i+1,by simp,by omega⟩
theorem c0B{S:a8}:M0 E w0 (b7Q E) (.bool true) (.bool true) S:=by
 refine a2B ?_
 unfold X6
 exact G9 rfl rfl c0c
theorem b9R{S:a8}:L9 E w0 (b7Q E) (.bool true) S:=by
 refine a2p ?_
 unfold Y2
 refine b2A rfl (G9 rfl rfl (a6R [⟨0,2,[]⟩] (by decide) (by kernel_rfl) (by exact wkB ⟨⟨⟨Wk.refl _,Wk.refl _,Wk.nil _,trivial⟩,rfl⟩,trivial⟩) (by decide) (by simp) ?_))
 refine gT (G9 rfl rfl (agT rfl (gT (G9 rfl rfl (agT rfl (gT (G9 rfl rfl (gT (a6R [⟨0,1,[1]⟩,⟨1,6,[1]⟩] (by decide) (by kernel_rfl) (Wk.refl _) (by decide) (by simp) ?_)))))))))
 refine pT ?_
 refine gT (G9 rfl rfl (agT rfl (agT rfl (gT (G9 rfl rfl (gT (a6R [⟨0,8,[8]⟩,⟨8,9,[]⟩] (by decide) (by kernel_rfl) (by exact wkB ⟨⟨⟨Wk.refl _,Wk.refl _,Wk.refl _,trivial⟩,rfl⟩,⟨⟨Wk.refl _,Wk.refl _,Wk.nil _,trivial⟩,rfl⟩,trivial⟩) (by decide) (by simp) ?_)))))))
 exact pT c0B
theorem a8C{S:a8}:r8 Try.prog E w0 a0D [] S fun v _=>v= .bool true:=by
 refine a3O ?_
 unfold a0C
 refine b2A rfl (G9 rfl rfl (a6R [⟨0,1,[]⟩] (by decide) (by kernel_rfl) (by exact wkB ⟨⟨⟨Wk.refl _,Wk.refl _,Wk.nil _,trivial⟩,rfl⟩,trivial⟩) (by decide) (by simp) ?_))
 refine gT (G9 rfl rfl (agT rfl (agT rfl (agT rfl (gT (G9 rfl rfl (gT (a6R [⟨0,6,[6,7]⟩,⟨6,7,[]⟩,⟨7,8,[]⟩] (by decide) (by kernel_rfl) (by exact wkB ⟨⟨⟨Wk.refl _,Wk.refl _,Wk.refl _,trivial⟩,rfl⟩,⟨⟨Wk.refl _,Wk.refl _,Wk.nil _,trivial⟩,rfl⟩,⟨⟨Wk.refl _,Wk.refl _,Wk.nil _,trivial⟩,rfl⟩,trivial⟩) (by decide) (by simp) ?_))))))))
 refine pT ?_
 refine gT (G9 rfl rfl (agT rfl (gT (G9 rfl rfl (gT (a6R [⟨0,5,[0]⟩] (by decide) (by kernel_rfl) (Wk.refl _) (by decide) (by simp) ?_))))))
 refine pT ?_
 refine agT rfl (agT rfl (gT (G9 rfl rfl (gT (a6R [⟨0,2,[]⟩,⟨2,3,[]⟩] (by decide) (by kernel_rfl) (by exact wkB ⟨⟨⟨Wk.refl _,Wk.refl _,Wk.nil _,trivial⟩,rfl⟩,⟨⟨Wk.refl _,Wk.refl _,Wk.nil _,trivial⟩,rfl⟩,trivial⟩) (by decide) (by simp) ?_)))))
 exact pT b9R
end
end
end Go.Proofs.Ytdkidgkiplcggaa.d
end
section
namespace Go.Am
open Go.ChangeShapes Go.WideShapes Go.ChangeAt Go.RowKit
def a0y:Value→AV
 | .slice (some a) len cap=>if len≤cap∧(cap=0∨a.spot=none) then .slc (.old a.block) a.off len cap true 1 else .opq (.slice (some a) len cap)
 | .pointer (some a)=>if a.spot=none then .ptr (.old a.block) a.off else .opq (.pointer (some a))
 |v=>a8O v
def c1S:Value→AV
 | .agg cs=> .agg (cs.toList.map a0y)
 |v=>a0y v
theorem b6b(ρ:p4)(v:Value):rel ρ (a0y v) v:=by
 unfold a0y
 split
 ·rename_i a len cap
  split
  ·rename_i h
   simp only[rel,B5,a9r]
   refine⟨a,cap,rfl,h.1,Nat.le_refl _,fun _=>rfl, ?_,trivial⟩
   rcases h.2 with e|e
   ·exact .inl e
   ·right
    refine⟨a.block,0,rfl, ?_⟩
    obtain⟨b,o,s⟩:=a
    simp only at e
    subst e
    simp
  ·simp only[rel]
 ·rename_i a
  split
  ·rename_i e
   simp only[rel,B5]
   refine⟨a.block,0,rfl, ?_⟩
   obtain⟨b,o,s⟩:=a
   simp only at e
   subst e
   simp
  ·simp only[rel]
 ·exact a6L _
theorem a9i(ρ:p4):∀l:List Value,i6 ρ (l.map a0y) l
 | []=>i7.2 rfl
 |v::l=>d9.2 ⟨b6b ρ v,a9i ρ l⟩
theorem c1T(ρ:p4)(v:Value):rel ρ (c1S v) v:=by
 unfold c1S
 split
 ·simp only[rel]
  exact⟨_,rfl,a9i ρ _⟩
 ·exact b6b ρ _
theorem b3C(ρ:p4):∀l:List Value,i6 ρ (l.map c1S) l
 | []=>i7.2 rfl
 |v::l=>d9.2 ⟨c1T ρ v,b3C ρ l⟩
def a0m(W:World):c9:=fun b=>match W.heap[b]? with
 |some (.cells arr _ _)=>some (arr.toList.map a0y)
 |_=>none
theorem c1M(W:World)(b:Nat)(cs:List AV)(h:a0m W b=some cs):b<W.heap.size∧∃arr el fr,W.heap[b]? =some (.cells arr el fr)∧i6 (fun _=>none) cs arr.toList:=by
 unfold a0m at h
 split at h
 ·rename_i arr el fr e
  cases h
  exact⟨(Array.getElem?_eq_some_iff.1 e).1,arr,el,fr,e,a9i _ _⟩
 ·cases h
theorem c0m{P:Program}{f:FuncId}{W:World}{vargs:Array Value}(h:FnW P (a0m W) (c1z W) f (vargs.toList.map c1S) AHeap.empty fun v _=>v= .bool true):
  Calls P f vargs W fun e w=>e= .returned (.bool true)∧b0r W w:=
 b4Y h (c1M W) (b3C _ _)
theorem b0r.same{W W':World}(h:b0r W W'){p:MemPlace}(hp:p.block<W.heap.size):W.sameAt W' p:=by
 cases p with
 |cell b off=>
  show W'.cell? ⟨b,off,none⟩=W.cell? ⟨b,off,none⟩
  unfold World.cell?
  rw[h.2.2 b hp]
 |map b=>
  show W'.heap[b]? =W.heap[b]?
  exact h.2.2 b hp
theorem a6l{H:Type}{enc:TypeId×Value→H}{P:Program}(hl:laidOutB P=true){W W':World}{sp:Nat→Bool}:∀ {ts:List TypeId} {vs:List Value} {ds:List (DataW H)} {ps:List MemPlace},(∀t∈ts,P.readableRec t=true∧t<P.types.size)→
  DataW.TrodAll enc P W 0 (fun _=>true) true ts vs ds ps→(∀p∈ps,W.sameAt W' p)→(∀p∈ps,sp p.block=true)→DataW.TrodAll enc P W' 0 sp true ts vs ds ps
 | [],[],[],ps,_,h,_,_=>h
 |t::ts,v::vs,d::ds,ps,ht,h,hs,hp=>by
  obtain⟨p,q,h1,h2,rfl⟩:=h
  refine⟨p,q,WideElems.Trod_stays hl (ht t List.mem_cons_self).1 (ht t List.mem_cons_self).2 h1 (fun x hx=>hs x (List.mem_append_left _ hx)) (fun x hx=>hp x (List.mem_append_left _ hx)), ?_,rfl⟩
  exact a6l hl (fun t ht'=>ht t (List.mem_cons_of_mem _ ht')) h2 (fun x hx=>hs x (List.mem_append_right _ hx)) (fun x hx=>hp x (List.mem_append_right _ hx))
theorem b6L{H:Type}{enc:TypeId×Value→H}{P:Program}{f:Func}{s:ChangeSpec}{apart fresh handsOn again:Bool}{W W':World}{args:Array Value}{ds gs:List (DataW H)}{before:List MemPlace}{b:TypeId}
  (hW:DataW.Whole enc P f.params.toList s.vars apart W args.toList ds gs before) (hvars:s.vars=[]) (hl:laidOutB P=true) (hts:∀t∈f.params.toList,P.readableRec t=true∧t<P.types.size)
  (hb:P.underlying b=some .bool) (hrt:f.resultTypes= #[b])
  (hres:(s.fn H ds).results=[.lit (.bool true)]) (hargs:(s.fn H ds).args=ds) (hvs:(s.fn H ds).vars=[]) (hk:b0r W W'):
  s.post enc P f apart fresh handsOn again W args (.bool true) W':=by
 have hW':=hW
 obtain⟨p,q,hA,hV,rfl,_,_⟩:=hW
 rw[hvars]at hV
 obtain⟨rfl,rfl⟩:=trodVars_none hV
 have hlt:∀x∈p,x.block<W.heap.size:=fun x hx=>hW'.lt x (by simpa using hx)
 refine b4M (pa:=p) (pv:=[]) hW' ?_ ?_ ?_ rfl hk ?_
 ·intro b0 sp hd
  rw[List.append_nil,hres,hrt]
  exact trodAll_cons_mk (shut_bool hb _) trodAll_mk0
 ·intro sp hsp
  rw[List.append_nil,hargs]
  exact a6l hl hts hA (fun x hx=>hk.same (hlt x hx)) (fun x hx=>hsp x (by simpa using hx))
 ·intro sp _
  rw[hvars,List.append_nil,hvs]
  rfl
 ·intro j t r h1 h2
  rw[hrt]at h1 h2
  match j,h1,h2 with
  |0,h1,h2=>
   simp[Value.resultList]at h1 h2
   subst h1 h2
   exact okWide_bool_mk hb _
theorem a0J{w:World}{a:Addr}{v:Value}(h:w.cell? a=some v):a.spot=none∧∃arr el fr,w.heap[a.block]? =some (.cells arr el fr)∧arr[a.off]? =some v:=by
 unfold World.cell? at h
 split at h
 ·rename_i c el fr hb
  split at h
  ·cases h
  ·rename_i hns
   exact⟨by cases hs:a.spot with
    |none=>rfl
    |some x=>rw[hs]at hns;exact(hns rfl).elim,c,el,fr,hb,h⟩
 ·cases h
end Go.Am
end
