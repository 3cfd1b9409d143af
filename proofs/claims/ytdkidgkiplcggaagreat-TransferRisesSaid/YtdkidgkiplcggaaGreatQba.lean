/-
  TransferRisesSaid: part Qba of its proof.
-/
import Derived.Test.YtdkidgkiplcggaaGreatQaz
import Derived.Test.YtdkidgkiplcggaaGreatRows
import Derived.Test.YtdkidgkiplcggaaGreatQar
import Derived.KernelRfl
set_option linter.unusedVariables false
set_option linter.unusedSimpArgs false
set_option maxRecDepth 100000
section
open Go.Proofs Go Go.Am Go.Op
namespace Go.Proofs.YtdkidgkiplcggaaGreat.d
section
def TkQ(S:b8)(r:List Int×List Int×Int)(v:D)(S':b8):Prop:=∃c d,v= .tup [c,d, .int .i64 r.2.2]∧Two S c r.1 d r.2.1 S'
theorem d7G{y:In}(h:isS y=true):1≤y.op∧y.op≤52:=by
 have hs:(lay y.op).isSome=true:=by
  unfold isS at h
  simp only[Bool.and_eq_true]at h
  exact h.1.1
 by_cases c:1≤y.op∧y.op≤52
 ·exact c
 ·exfalso
  rw[←d5G]at hs
  unfold d6H at hs
  have ne:∀p:Int,1≤p→p≤52→(y.op==p)=false:=fun p h1 h2=>by
   rw[d0L];exact decide_eq_false (by omega)
  simp only[ne 6 (by decide) (by decide),ne 7 (by decide) (by decide),ne 8 (by decide) (by decide),ne 50 (by decide) (by decide),ne 36 (by decide) (by decide),ne 37 (by decide) (by decide),ne 38 (by decide) (by decide),ne 23 (by decide) (by decide),ne 24 (by decide) (by decide),ne 46 (by decide) (by decide),ne 47 (by decide) (by decide),ne 48 (by decide) (by decide),Bool.false_or]at hs
  rw[if_neg (by omega),if_neg (by omega),if_neg (by omega),if_neg (by simp;omega),if_neg (by simp),if_neg (by simp),if_neg (by simp;omega),if_neg (by omega),if_neg (by simp),if_neg (by omega),if_neg (by omega),if_neg (by simp;omega)]at hs
  cases hs
section
variable{E:j2}{w0:j9}
theorem c5b{l:List Int}{d:D}(hl:l.length<2^40)(he:c7Z d .nilSlc=some false)(hr:∀S,rowsS S 1 d=some (iC l)){S:b8}:j8 Tryz.prog E w0 A2 [d] S fun d S'=>Own S d l S':=by
 refine a0S ?_
 unfold a0i
 rw[he,eqE,oD,cdF]
 refine c5X (rows:=[]) fun k acs n=> ?_
 simp only[w9,hr,a1d]
 by_cases hn:iC l=[]
 ·rw[if_pos hn]
  have:l=[]:=by
   cases l with
   |nil=>rfl
   |cons a l=>simp[iC,B4]at hn
  subst this
  exact d9.here (.inr ⟨k,acs,true,n,rfl,rfl⟩)
 ·rw[if_neg hn,b8.set_same]
  simp only
  rw[if_pos ⟨by trivial,by trivial,by simp⟩]
  refine⟨by simp;omega, .inr fun k' acs' hk'=> ?_⟩
  rw[b8.erase_set _ _ _ n]at hk' ⊢
  refine d9.here (.inr ⟨k',acs',false,hk', ?_, ?_⟩)<;>simp
theorem b7O{l:List Int}(hl:l.length<2^40){S:b8}:j8 Tryz.prog E w0 A2 [iD l] S fun d S'=>Own S d l S':=by
 cases l with
 |nil=>
  refine DF.split (pre:=[]) (post:=[]) (a0S ?_) (c5b (by decide) rfl fun S=>by simp[rowsS,L5,iC,B4])
  unfold a0i
  rw[show b8j .eql (c7Z .nilSlc .nilSlc)=some (.bool true) from rfl,oD,cdT]
  exact d9.here (Own.nil _)
 |cons a l=>exact c5b hl rfl fun S=>c1n S _
variable{S B S':b8}{k8:Nat}{y:In}{m:Mo}
theorem d1D{r:List Int×List Int×Bool}{c d:D}{a:List AV}(hB:S.le B)(h8:B k8=some ⟨3,[[c,d, .bool r.2.2]],a⟩)(g:Two B c r.1 d r.2.1 S')(e:t6 y m=if r.2.2=true then(r.1,r.2.1,0) else([],[],2)):
  G9 E w0 (d9 E (TkQ S (t6 y m))) (.ptr k8 0) S':=by
 refine b7L ?_
 unfold b2H
 have h:=g.le _ _ h8
 simp only[E2,oD,Nat.zero_add,ldP h,List.getElem?_cons_zero,List.getElem?_cons_succ,unN]
 obtain⟨S'',l,g''⟩:=g.base hB
 cases hr:r.2.2 with
 |false=>
  rw[Bool.not_false,cdT]
  rw[hr,if_neg (by simp)]at e
  rw[e]
  exact d9.less (b8.le_trans hB g.le) (d9.here ⟨.nilSlc, .nilSlc,rfl,S,Own.nil _,Own.nil _⟩)
 |true=>
  rw[Bool.not_true,cdF]
  rw[hr,if_pos rfl]at e
  rw[e]
  exact d9.less l (d9.here ⟨c,d,rfl,g''⟩)
theorem c1z{r:List Int×List Int×Bool}{c d:D}{a:List AV}(hB:S.le B)(hn:S k8=none)(h8:B k8=some ⟨3,[[.nilSlc, .nilSlc, .bool false]],a⟩)(g:Two B c r.1 d r.2.1 S')(e:t6 y m=if r.2.2=true then(r.1,r.2.1,0) else([],[],2)):
  i7 S' 3 (.ptr k8 0) (efD c d r.2.2) fun _ S8=>G9 E w0 (d9 E (TkQ S (t6 y m))) (.ptr k8 0) S8:=by
 refine stP (ds:=[c,d, .bool r.2.2]) (g.le _ _ h8) (U9 _) ⟨rfl,by decide,by simp⟩ fun a3=> ?_
 exact d1D (r:=r) (b8.le_set hB hn) (b8.set_same _ _ _) (g.upd h8) e
end
end
section
section
variable{E:j2}{w0:j9}
set_option maxHeartbeats 1000000 in
theorem b6l{y:In}{m:Mo}(hy:y.Ok)(hm:m.Fits){S:b8}:j8 Tryz.prog E w0 a1n [inD y,moD m] S (TkQ S (t6 y m)):=by
 refine c2h ?_
 unfold b9R
 rw[inD,U9,oD]
 intro k a n
 rw[moD,U9,oD]
 intro k2 a2 n2
 obtain⟨ne2,n2'⟩:=b8.fresh n2
 generalize hS3:(S.set k _).set k2 _=S3
 have h2:S3 k2=some ⟨3,[M3 m],a2⟩:=by rw[←hS3];exact b8.set_same _ _ _
 have h0:S3 k=some ⟨4,[P8 y],a⟩:=by rw[←hS3,b8.set_ne _ _ _ (Ne.symm ne2)];exact b8.set_same _ _ _
 have hle:S.le S3:=by rw[←hS3];exact b8.le_set (b8.le_new n) n2'
 clear hS3 n2
 have hok:=hm.ok
 rw[laP h0 (by simp[P8]),oD]
 refine(c8M hy).use ?_
 rw[a8b,oD,d0L]
 cases his:isS y with
 |false=>
  have e:c3C y=[]:=by unfold c3C;rw[if_neg (by rw[his];simp)]
  rw[e,decide_eq_true (by rfl),cdT]
  have et:t6 y m=([],[],120):=by unfold t6;rw[if_pos his]
  rw[et]
  exact d9.less hle (d9.here ⟨.nilSlc, .nilSlc,rfl,S,Own.nil _,Own.nil _⟩)
 |true=>
 have ns:¬isS y=false:=by rw[his];simp
 have hlen:¬(((c3C y).length:Nat):Int)=0:=by
  unfold c3C
  rw[if_pos his]
  unfold b4n
  simp
  omega
 rw[decide_eq_false hlen,cdF]
 intro k8 a8 n8
 have h8:(S3.set k8 ⟨3,[[.nilSlc, .nilSlc, .bool false]],a8⟩) k8=some ⟨3,[[.nilSlc, .nilSlc, .bool false]],a8⟩:=b8.set_same _ _ _
 have z8:S k8=none:=by
  cases e:S k8 with
  |none=>rfl
  |some o=>rw[hle _ _ e]at n8;cases n8
 have h0':(S3.set k8 ⟨3,[[.nilSlc, .nilSlc, .bool false]],a8⟩) k=some ⟨4,[P8 y],a⟩:=by rw[b8.set_ne _ _ _ (fun e=>by rw[←e,h0]at n8;cases n8)];exact h0
 have h2':(S3.set k8 ⟨3,[[.nilSlc, .nilSlc, .bool false]],a8⟩) k2=some ⟨3,[M3 m],a2⟩:=by rw[b8.set_ne _ _ _ (fun e=>by rw[←e,h2]at n8;cases n8)];exact h2
 have hle':S.le (S3.set k8 ⟨3,[[.nilSlc, .nilSlc, .bool false]],a8⟩):=b8.le_set hle z8
 have e3:([D.nilSlc, .nilSlc, .bool false]).length=3:=rfl
 rw[e3]
 clear h0 h2 hle
 generalize S3.set k8 ⟨3,[[.nilSlc, .nilSlc, .bool false]],a8⟩=S9 at h8 h0' h2' hle' ⊢
 have l0:c9 S9 (.ptr k 0)=some (.int .u8 y.op):=by rw[ldP h0'];rfl
 have l1:c9 S9 (.ptr k 1)=some (.int .i64 y.a):=by rw[ldP h0'];rfl
 have m1:c9 S9 (.ptr k2 1)=some (b1r m.texts):=by rw[ldP h2'];rfl
 have m2:c9 S9 (.ptr k2 2)=some (a9d m.funcs):=by rw[ldP h2'];rfl
 have li:i5 S9 4 (.ptr k 0)=some (inD y):=by rw[laP h0' (by simp[P8])];rfl
 have lm:i5 S9 3 (.ptr k2 0)=some (moD m):=by rw[laP h2' (by simp[M3])];rfl
 have lx:∀l:List Tx,m9 (b1r l)=some (.int .i64 (l.length:Int)):=fun l=>by simp[b1r]
 have lr:∀l:List Ro,m9 (a9d l)=some (.int .i64 (l.length:Int)):=fun l=>by simp[a9d]
 simp only[E2,oD,Nat.zero_add,l0]
 refine tEq ?_
 rw[I6]
 refine⟨fun h6=> ?_,fun h6=> ?_⟩
 ·have et:t6 y m=if decide (y.a<m.texts.length)=true then([],[5],0) else([],[],2):=by
   unfold t6
   rw[if_neg ns]
   by_cases d:y.a<m.texts.length
   ·rw[if_neg (by omega),if_neg (by omega),if_neg (by omega),if_pos (decide_eq_true d)]
    unfold r0
    rw[if_neg (by omega),if_neg (by omega),if_pos h6]
   ·rw[if_pos (by omega),if_neg (by rw[decide_eq_false d];simp)]
  simp only[oD,l1,m1,lx,H7]
  refine⟨?_, ?_⟩
  ·refine(C5 clN).use ⟨fwR _ _,fwR _ _,B8 (l:=[5]) fun v S4 g1=> ?_⟩
   have f1:r7 (.ptr k 1) S9 S4:=by rw[fwP,g1.le _ _ h0',h0']
   have f2:r7 (.ptr k2 1) S9 S4:=by rw[fwP,g1.le _ _ h2',h2']
   refine⟨f1,f2,(A0 (a:= .nilSlc) (b:= .nilSlc) (c:= .bool true) g1.cells).use ⟨f1,f2,(F7 (a:= .nilSlc) (b:=v) (c:= .bool true) (clB _)).use ?_⟩⟩
   exact c1z (E:=E) (w0:=w0) (r:=([],[5],decide (y.a<m.texts.length))) hle' z8 h8 ⟨S9,Own.nil _,g1⟩ et
  ·refine B8 (l:=[5]) fun v S4 g1=> ?_
   have f1:r7 (.ptr k 1) S9 S4:=by rw[fwP,g1.le _ _ h0',h0']
   have f2:r7 (.ptr k2 1) S9 S4:=by rw[fwP,g1.le _ _ h2',h2']
   refine⟨f1,f2,(C5 clN).use ⟨f1,f2,(A0 (a:= .nilSlc) (b:= .nilSlc) (c:= .bool true) g1.cells).use ⟨f1,f2,(F7 (a:= .nilSlc) (b:=v) (c:= .bool true) (clB _)).use ?_⟩⟩⟩
   exact c1z (E:=E) (w0:=w0) (r:=([],[5],decide (y.a<m.texts.length))) hle' z8 h8 ⟨S9,Own.nil _,g1⟩ et
 refine tEq ?_
 rw[I6]
 refine⟨fun h50=> ?_,fun h50=> ?_⟩
 ·simp only[oD,l1,m2,lr,H7]
  rw[I6]
  refine⟨fun hlt=> ?_,fun hlt=> ?_⟩
  ·obtain⟨ha1,ha2⟩:=d8k his h50
   obtain⟨i,hi⟩:∃i:Nat,i=y.a.toNat:=⟨_,rfl⟩
   have hi':y.a=(i:Int):=by omega
   have hil:i<m.funcs.length:=by omega
   obtain⟨r,hr⟩:∃r,r=m.funcs[i]:=⟨_,rfl⟩
   have ea:m.funcs[i]? =some r:=by rw[List.getElem?_eq_getElem hil,hr]
   obtain⟨p1,p2,_⟩:=hm.params r (by rw[hr];exact List.getElem_mem _)
   have ex:o6 6 (a9d m.funcs) (.int .i64 (i:Int))=some (.elt (L8 r) 0):=b3O ea
   have et:t6 y m=(r.params,r.results,0):=by
    unfold t6
    rw[if_neg ns,if_neg (by omega),if_pos h50, ←hi,ea]
   rw[hi',ex,oD,show i5 S9 6 (.elt (L8 r) 0)=some (.agg (L8 r)) from rfl,oD]
   intro k5 a5 n5
   refine stP (ds:=L8 r) (b8.set_same _ _ _) (U9 _) ⟨rfl,by decide,by simp[L8]⟩ fun a6=> ?_
   rw[b8.set_set]
   have h5:(S9.set k5 ⟨6,[L8 r],a6⟩) k5=some ⟨6,[L8 r],a6⟩:=b8.set_same _ _ _
   have h8':(S9.set k5 ⟨6,[L8 r],a6⟩) k8=some ⟨3,[[.nilSlc, .nilSlc, .bool false]],a8⟩:=by rw[b8.set_ne _ _ _ (fun e=>by rw[←e,h8]at n5;cases n5)];exact h8
   have l5:S.le (S9.set k5 ⟨6,[L8 r],a6⟩):=b8.le_trans hle' (b8.le_new n5)
   show b7 (j4 1 (.ptr k5 0)) _
   generalize hS5:S9.set k5 _=S5
   have h5:S5 k5=some ⟨6,[L8 r],a6⟩:=by rw[←hS5];exact h5
   have h8':S5 k8=some ⟨3,[[.nilSlc, .nilSlc, .bool false]],a8⟩:=by rw[←hS5];exact h8'
   have l5:S.le S5:=by rw[←hS5];exact l5
   have q1:c9 S5 (.ptr k5 1)=some (iD r.params):=by rw[ldP h5];rfl
   have q2:c9 S5 (.ptr k5 2)=some (iD r.results):=by rw[ldP h5];rfl
   simp only[E2,oD,Nat.zero_add,q1,q2]
   refine(b7O (by omega)).use fun c S4 g1=> ?_
   have f1:r7 (.ptr k5 2) S5 S4:=by rw[fwP,g1.le _ _ h5,h5]
   refine⟨f1,(C5 g1.cells).use ⟨f1,(b7O (by omega)).use fun d S6 g2=>(A0 (a:=c) (b:= .nilSlc) (c:= .bool true) g2.cells).use ?_⟩⟩
   exact c1z (E:=E) (w0:=w0) (y:=y) (m:=m) (r:=(r.params,r.results,true)) l5 z8 h8' ⟨S4,g1,g2⟩ (by rw[et,if_pos rfl])
  ·exact d1D (r:=([],[],false)) hle' h8 ⟨S9,Own.nil _,Own.nil _⟩ (by unfold t6;rw[if_neg ns,if_pos (by omega),if_neg (by simp)])
 refine tIn l0 ?_
 rw[I6]
 refine⟨fun h36=> ?_,fun h36=> ?_⟩
 ·rw[li,oD,lm,oD]
  refine(c9d hy hm (d8D his)).use ?_
  rintro v S' ⟨c,d,rfl,g⟩
  refine c1z (r:=U1 y m) hle' z8 h8 g ?_
  unfold t6
  rw[if_neg ns,if_neg (by omega),if_neg h50,if_pos h36]
 ·rw[li,oD]
  obtain⟨o1,o2⟩:=d7G his
  refine(c6m hy (by omega)).use ?_
  rintro v S' ⟨c,d,rfl,g⟩
  refine c1z (r:=((r0 y).1,(r0 y).2,true)) hle' z8 h8 g ?_
  unfold t6
  rw[if_neg ns,if_neg (by omega),if_neg h50,if_neg h36,if_pos rfl]
end
end
end Go.Proofs.YtdkidgkiplcggaaGreat.d
end
section
open Go.Proofs Go Go.Am
namespace Go.Proofs.YtdkidgkiplcggaaGreat.d
def c3T:List (Nat×List Nat):=[]
def c3h:List (Nat×List Nat):=[]
def c2N:List (Nat×O6):=[]
def b4F(E:j2)(w0:j9)(Q:D→b8→Prop)(a0 a1:D)(S:b8):Prop:=
 b7 (o3 a0) fun cs=>j6 S cs fun v0 S1=>
 b7 (i4 .leq (.int .i64 1) a1) fun v2=>
 b7 (f9 (d6 v2 true) (some a1)) fun v3=>
 b7 (f9 (d6 v2 true) (i4 .leq v3 (.int .i64 5))) fun v4=>
 b7 (q9 v2 v4 (.bool false)) fun v5=>
 b7 (f9 (d6 v5 false) (some a1)) fun v6=>
 b7 (f9 (d6 v5 false) (i4 .geq v6 (.int .i64 16))) fun v7=>
 b7 (f9 (d6 v5 false) (some v7)) fun v8=>
 b7 (f9 (d6 v8 true) (some a1)) fun v9=>
 b7 (f9 (d6 v8 true) (i4 .sub v9 (.int .i64 16))) fun v10=>
 b7 (f9 (d6 v8 true) (j4 0 v0)) fun v11=>
 b7 (f9 (d6 v8 true) (c9 S1 v11)) fun v12=>
 b7 (f9 (d6 v8 true) (m9 v12)) fun v13=>
 b7 (f9 (d6 v8 true) (i4 .lss v10 v13)) fun v14=>
 b7 (f9 (d6 v5 false) (q9 v8 v14 (.bool false))) fun v15=>
 b7 (q9 v5 (.bool true) v15) fun v16=>
 Q v16 S1
theorem b8H{E:j2}{w0:j9}{Q:D→b8→Prop}{a0 a1:D}{S:b8}(h:b4F E w0 (d9 E Q) a0 a1 S):j8 Tryz.prog E w0 V9 [a0,a1] S Q:=
 j0 c3T c3h c2N (fn:=Tryz.f151) (c:=Tryz.f151.body.getD .skip) mixed Tryz.func151 (by kernel_rfl) (by kernel_rfl) h
def b9h:List (Nat×List Nat):=[]
def b8z:List (Nat×List Nat):=[]
def b8t:List (Nat×O6):=[]
def b0T(E:j2)(w0:j9)(Q:D→b8→Prop)(a0 a1:D)(S:b8):Prop:=
 b7 (o3 a0) fun cs=>j6 S cs fun v0 S1=>
 b7 (o3 a1) fun cs=>j6 S1 cs fun v2 S3=>
 b7 (j4 1 v2) fun v4=>
 b7 (c9 S3 v4) fun v5=>
 b7 (c8V .eql v5 (.str [])) fun v6=>
 b7 (f9 (d6 v6 true) (j4 2 v2)) fun v7=>
 b7 (f9 (d6 v6 true) (c9 S3 v7)) fun v8=>
 b7 (f9 (d6 v6 true) (m9 v8)) fun v9=>
 b7 (f9 (d6 v6 true) (i4 .eql v9 (.int .i64 0))) fun v10=>
 b7 (q9 v6 v10 (.bool false)) fun v11=>
 b7 (f9 (d6 v11 true) (i5 S3 3 v0)) fun v12=>
 b7 (f9 (d6 v11 true) (j4 3 v2)) fun v13=>
 b7 (f9 (d6 v11 true) (c9 S3 v13)) fun v14=>
 Q1 (d6 v11 true) (fun K=>j8 Tryz.prog E w0 V9 [v12,v14] S3 K) S3 fun v15 S16=>
 b7 (q9 v11 v15 (.bool false)) fun v17=>
 b7 (j4 0 v2) fun v18=>
 b7 (c9 S16 v18) fun v19=>
 b7 (i4 .eql v19 (.int .u8 6)) fun v20=>
 i6 v20
 (b7 (j4 3 v2) fun v21=>
 b7 (c9 S16 v21) fun v22=>
 b7 (i4 .eql v22 (.int .i64 0)) fun v23=>
 b7 (f9 (d6 v23 true) (j4 4 v2)) fun v24=>
 b7 (f9 (d6 v23 true) (c9 S16 v24)) fun v25=>
 b7 (f9 (d6 v23 true) (i4 .eql v25 (.int .i64 0))) fun v26=>
 b7 (q9 v23 v26 (.bool false)) fun v27=>
 b7 (f9 (d6 v27 true) (j4 2 v2)) fun v28=>
 b7 (f9 (d6 v27 true) (c9 S16 v28)) fun v29=>
 b7 (f9 (d6 v27 true) (some (.fn (.func a1g) [] [v0]))) fun v30=>
 Q1 (d6 v27 true) (fun K=>j8 Tryz.prog E w0 B3 [v29,v30] S16 K) S16 fun v31 S32=>
 b7 (f9 (d6 v27 true) (unD .not v31)) fun v33=>
 b7 (q9 v27 v33 (.bool false)) fun v34=>
 Q v34 S32)
 (b7 (i4 .eql v19 (.int .u8 7)) fun v35=>
 i6 v35
 (b7 (f9 (d6 v17 true) (j4 4 v2)) fun v36=>
 b7 (f9 (d6 v17 true) (c9 S16 v36)) fun v37=>
 b7 (f9 (d6 v17 true) (i4 .geq v37 (.int .i64 0))) fun v38=>
 b7 (q9 v17 v38 (.bool false)) fun v39=>
 b7 (f9 (d6 v39 true) (j4 4 v2)) fun v40=>
 b7 (f9 (d6 v39 true) (c9 S16 v40)) fun v41=>
 b7 (f9 (d6 v39 true) (i4 .leq v41 (.int .i64 65536))) fun v42=>
 b7 (q9 v39 v42 (.bool false)) fun v43=>
 Q v43 S16)
 (b7 (i4 .eql v19 (.int .u8 8)) fun v44=>
 i6 v44
 (b7 (f9 (d6 v17 true) (j4 4 v2)) fun v45=>
 b7 (f9 (d6 v17 true) (c9 S16 v45)) fun v46=>
 b7 (f9 (d6 v17 true) (i4 .eql v46 (.int .i64 0))) fun v47=>
 b7 (q9 v17 v47 (.bool false)) fun v48=>
 Q v48 S16)
 (Q (.bool false) S16)))
theorem b5g{E:j2}{w0:j9}{Q:D→b8→Prop}{a0 a1:D}{S:b8}(h:b0T E w0 (d9 E Q) a0 a1 S):j8 Tryz.prog E w0 a2u [a0,a1] S Q:=
 j0 b9h b8z b8t (fn:=Tryz.f126) (c:=Tryz.f126.body.getD .skip) mixed Tryz.func126 (by kernel_rfl) (by kernel_rfl) h
def b5d:List (Nat×List Nat):=[]
def b5D:List (Nat×List Nat):=[]
def b4R:List (Nat×O6):=[]
def a7N(E:j2)(w0:j9)(Q:D→b8→Prop)(a0 c0:D)(S:b8):Prop:=
 b7 (o3 a0) fun cs=>j6 S cs fun v0 S1=>
 b7 (i5 S1 3 c0) fun v2=>
 b7 (j4 1 v0) fun v3=>
 b7 (c9 S1 v3) fun v4=>
 j8 Tryz.prog E w0 V9 [v2,v4] S1 fun v5 S6=>
 b7 (unD .not v5) fun v7=>
 Q v7 S6
theorem b2S{E:j2}{w0:j9}{Q:D→b8→Prop}{a0 c0:D}{S:b8}(h:a7N E w0 (d9 E Q) a0 c0 S):j8 Tryz.prog E w0 a1g [a0,c0] S Q:=
 j0 b5d b5D b4R (fn:=Tryz.f152) (c:=Tryz.f152.body.getD .skip) mixed Tryz.func152 (by kernel_rfl) (by kernel_rfl) h
def b8L:List (Nat×List Nat):=[]
def b8n:List (Nat×List Nat):=[]
def b8s:List (Nat×O6):=[]
def b1a(E:j2)(w0:j9)(Q:D→b8→Prop)(a0 a1:D)(S:b8):Prop:=
 b7 (o3 a0) fun cs=>j6 S cs fun v0 S1=>
 b7 (o3 a1) fun cs=>j6 S1 cs fun v2 S3=>
 b7 (some (.fn (.func a3E) [] [v0])) fun v4=>
 b7 (j4 1 v2) fun v5=>
 b7 (c9 S3 v5) fun v6=>
 j8 Tryz.prog E w0 C4 [v6,v4] S3 fun v7 S8=>
 b7 (f9 (d6 v7 false) (j4 2 v2)) fun v9=>
 b7 (f9 (d6 v7 false) (c9 S8 v9)) fun v10=>
 b7 (f9 (d6 v7 false) (some v4)) fun v11=>
 Q1 (d6 v7 false) (fun K=>j8 Tryz.prog E w0 C4 [v10,v11] S8 K) S8 fun v12 S13=>
 b7 (q9 v7 (.bool true) v12) fun v14=>
 b7 (f9 (d6 v14 false) (j4 3 v2)) fun v15=>
 b7 (f9 (d6 v14 false) (c9 S13 v15)) fun v16=>
 b7 (f9 (d6 v14 false) (j4 1 v2)) fun v17=>
 b7 (f9 (d6 v14 false) (c9 S13 v17)) fun v18=>
 b7 (f9 (d6 v14 false) (m9 v18)) fun v19=>
 b7 (f9 (d6 v14 false) (i4 .lss v16 v19)) fun v20=>
 b7 (q9 v14 (.bool true) v20) fun v21=>
 b7 (f9 (d6 v21 false) (j4 4 v2)) fun v22=>
 b7 (f9 (d6 v21 false) (c9 S13 v22)) fun v23=>
 b7 (f9 (d6 v21 false) (i4 .lss v23 (.int .i64 0))) fun v24=>
 b7 (q9 v21 (.bool true) v24) fun v25=>
 i6 v25
 (Q (.bool false) S13)
 (b7 (j4 5 v2) fun v26=>
 b7 (c9 S13 v26) fun v27=>
 j8 Tryz.prog E w0 a5X [v27] S13 fun v28 S29=>
 b7 (j5 v28 0) fun v30=>
 b7 (j5 v28 1) fun v31=>
 b7 (j5 v28 2) fun v32=>
 b7 (i4 .eql v32 (.int .i64 0)) fun v33=>
 b7 (f9 (d6 v33 true) (some v30)) fun v34=>
 b7 (f9 (d6 v33 true) (some (.fn (.func a3D) [] [v0,v2]))) fun v35=>
 Q1 (d6 v33 true) (fun K=>j8 Tryz.prog E w0 I1 [v34,v35] S29 K) S29 fun v36 S37=>
 b7 (f9 (d6 v33 true) (unD .not v36)) fun v38=>
 b7 (q9 v33 v38 (.bool false)) fun v39=>
 Q v39 S37)
theorem b5e{E:j2}{w0:j9}{Q:D→b8→Prop}{a0 a1:D}{S:b8}(h:b1a E w0 (d9 E Q) a0 a1 S):j8 Tryz.prog E w0 a2t [a0,a1] S Q:=
 j0 b8L b8n b8s (fn:=Tryz.f129) (c:=Tryz.f129.body.getD .skip) mixed Tryz.func129 (by kernel_rfl) (by kernel_rfl) h
def b5J:List (Nat×List Nat):=[]
def b5T:List (Nat×List Nat):=[]
def b5n:List (Nat×O6):=[]
def a7C(E:j2)(w0:j9)(Q:D→b8→Prop)(a0 c0:D)(S:b8):Prop:=
 b7 (i5 S 3 c0) fun v0=>
 j8 Tryz.prog E w0 V9 [v0,a0] S fun v1 S2=>
 b7 (unD .not v1) fun v3=>
 Q v3 S2
theorem b3p{E:j2}{w0:j9}{Q:D→b8→Prop}{a0 c0:D}{S:b8}(h:a7C E w0 (d9 E Q) a0 c0 S):j8 Tryz.prog E w0 a3E [a0,c0] S Q:=
 j0 b5J b5T b5n (fn:=Tryz.f154) (c:=Tryz.f154.body.getD .skip) mixed Tryz.func154 (by kernel_rfl) (by kernel_rfl) h
def b4Z:List (Nat×List Nat):=[]
def b5Q:List (Nat×List Nat):=[]
def b5N:List (Nat×O6):=[]
def a7X(E:j2)(w0:j9)(Q:D→b8→Prop)(a0 c0 c1:D)(S:b8):Prop:=
 b7 (o3 a0) fun cs=>j6 S cs fun v0 S1=>
 b7 (i5 S1 4 v0) fun v2=>
 b7 (i5 S1 3 c0) fun v3=>
 j8 Tryz.prog E w0 a1n [v2,v3] S1 fun v4 S5=>
 b7 (j5 v4 0) fun v6=>
 b7 (j5 v4 1) fun v7=>
 b7 (j5 v4 2) fun v8=>
 b7 (i4 .neq v8 (.int .i64 0)) fun v9=>
 b7 (f9 (d6 v9 false) (j4 0 v0)) fun v10=>
 b7 (f9 (d6 v9 false) (c9 S5 v10)) fun v11=>
 b7 (f9 (d6 v9 false) (i4 .eql v11 (.int .u8 7))) fun v12=>
 b7 (f9 (d6 v9 false) (some v12)) fun v13=>
 b7 (f9 (d6 v13 false) (j4 0 v0)) fun v14=>
 b7 (f9 (d6 v13 false) (c9 S5 v14)) fun v15=>
 b7 (f9 (d6 v13 false) (i4 .eql v15 (.int .u8 8))) fun v16=>
 b7 (f9 (d6 v9 false) (q9 v13 (.bool true) v16)) fun v17=>
 b7 (f9 (d6 v9 false) (some v17)) fun v18=>
 b7 (f9 (d6 v18 true) (j4 1 v0)) fun v19=>
 b7 (f9 (d6 v18 true) (c9 S5 v19)) fun v20=>
 b7 (f9 (d6 v18 true) (j4 3 c1)) fun v21=>
 b7 (f9 (d6 v18 true) (c9 S5 v21)) fun v22=>
 b7 (f9 (d6 v18 true) (i4 .geq v20 v22)) fun v23=>
 b7 (f9 (d6 v9 false) (q9 v18 v23 (.bool false))) fun v24=>
 b7 (q9 v9 (.bool true) v24) fun v25=>
 Q v25 S5
theorem b2b{E:j2}{w0:j9}{Q:D→b8→Prop}{a0 c0 c1:D}{S:b8}(h:a7X E w0 (d9 E Q) a0 c0 c1 S):j8 Tryz.prog E w0 a3D [a0,c0,c1] S Q:=
 j0 b4Z b5Q b5N (fn:=Tryz.f156) (c:=Tryz.f156.body.getD .skip) mixed Tryz.func156 (by kernel_rfl) (by kernel_rfl) h
def A1:List (Nat×List Nat):=[(8,[1,24,25,26]),(32,[1,52,53,54])]
def A3:List (Nat×List Nat):=[(37,[1,4,24,25,26,30]),(97,[1,6,52,53,54,58])]
def A4:List (Nat×O6):=[]
noncomputable def b2k:Code:=(j7 [1,1,0,1,0,0,1,1,0,0,1,0,1] (Tryz.f94.body.getD .skip))
def b1i(E:j2)(w0:j9)(N0:D→D→D→D→b8→Prop)(Q:D→b8→Prop):o8→List D→b8→Prop:=
 (q8 2 (q8 1 (H4 Tryz.prog E w0 A1 A3 A4 (j7 [1,1,0,1,0,0,1,1,1] (Tryz.f94.body.getD .skip)) (B0 (fun T S=>N0 (T.getD 1 b9) (T.getD 24 b9) (T.getD 25 b9) (T.getD 26 b9) S) (q8 0 (H4 Tryz.prog E w0 A1 A3 A4 (j7 [1,1,1] (Tryz.f94.body.getD .skip)) (F5 Tryz.prog Tryz.f94 Q)))))))
def a4L(E:j2)(w0:j9)(N0:D→D→D→D→b8→Prop)(Q:D→b8→Prop)(x1 x4 x24 x25 x26 x30:D)(S:b8):Prop:=
 i6 x30
 (Q (.int .i64 3) S)
 (b7 (i5 S 3 x1) fun v26=>
 b7 (i5 S 5 x4) fun v27=>
 j8 Tryz.prog E w0 a2u [v26,v27] S fun v28 S29=>
 b7 (unD .not v28) fun v30=>
 i6 v30
 (Q (.int .i64 130) S29)
 (b7 (i4 .add x26 (.int .i64 1)) fun v31=>
 N0 x1 x24 x25 v31 S29))
def K4(E:j2)(w0:j9)(N0:D→D→D→D→b8→Prop)(Q:D→b8→Prop)(x1 x4 x24 x25 x26 x30:D)(S:b8):Prop:=j1 Tryz.prog E w0 b2k (m6 87 [1,4,24,25,26,30] [x1,x4,x24,x25,x26,x30]) S (b1i E w0 N0 Q)
theorem a8J{E:j2}{w0:j9}{N0:D→D→D→D→b8→Prop}{Q:D→b8→Prop}{x1 x4 x24 x25 x26 x30:D}{S:b8}(h:a4L E w0 N0 Q x1 x4 x24 x25 x26 x30 S):K4 E w0 N0 Q x1 x4 x24 x25 x26 x30 S:=j3 A1 A3 A4 mixed (by kernel_rfl) h
noncomputable def b1N:Code:=(j7 [1,1,1,1,0,1,0,0,1,1,0,0,1,0,1] (Tryz.f94.body.getD .skip))
def b1u(E:j2)(w0:j9)(N1:D→D→D→D→b8→Prop)(Q:D→b8→Prop):o8→List D→b8→Prop:=
 (q8 5 (q8 4 (H4 Tryz.prog E w0 A1 A3 A4 (j7 [1,1,1,1,0,1,0,0,1,1,1] (Tryz.f94.body.getD .skip)) (B0 (fun T S=>N1 (T.getD 1 b9) (T.getD 52 b9) (T.getD 53 b9) (T.getD 54 b9) S) (q8 3 (H4 Tryz.prog E w0 A1 A3 A4 (j7 [1,1,1,1,1] (Tryz.f94.body.getD .skip)) (F5 Tryz.prog Tryz.f94 Q)))))))
def a4G(E:j2)(w0:j9)(N1:D→D→D→D→b8→Prop)(Q:D→b8→Prop)(x1 x6 x52 x53 x54 x58:D)(S:b8):Prop:=
 i6 x58
 (Q (.int .i64 3) S)
 (b7 (i5 S 3 x1) fun v58=>
 b7 (i5 S 6 x6) fun v59=>
 j8 Tryz.prog E w0 a2t [v58,v59] S fun v60 S61=>
 b7 (unD .not v60) fun v62=>
 i6 v62
 (Q (.int .i64 130) S61)
 (b7 (i4 .add x54 (.int .i64 1)) fun v63=>
 N1 x1 x52 x53 v63 S61))
def C3(E:j2)(w0:j9)(N1:D→D→D→D→b8→Prop)(Q:D→b8→Prop)(x1 x6 x52 x53 x54 x58:D)(S:b8):Prop:=j1 Tryz.prog E w0 b1N (m6 87 [1,6,52,53,54,58] [x1,x6,x52,x53,x54,x58]) S (b1u E w0 N1 Q)
theorem a9j{E:j2}{w0:j9}{N1:D→D→D→D→b8→Prop}{Q:D→b8→Prop}{x1 x6 x52 x53 x54 x58:D}{S:b8}(h:a4G E w0 N1 Q x1 x6 x52 x53 x54 x58 S):C3 E w0 N1 Q x1 x6 x52 x53 x54 x58 S:=j3 A1 A3 A4 mixed (by kernel_rfl) h
noncomputable def a2d:Code:=(j7 [1,1,1,1,0,1,0,0] (Tryz.f94.body.getD .skip))
def a1X(E:j2)(w0:j9)(Q:D→b8→Prop):o8→List D→b8→Prop:=
 (q8 3 (H4 Tryz.prog E w0 A1 A3 A4 (j7 [1,1,1,1,1] (Tryz.f94.body.getD .skip)) (F5 Tryz.prog Tryz.f94 Q)))
def a2f(E:j2)(w0:j9)(N1:D→D→D→D→b8→Prop)(Q:D→b8→Prop)(x1 x52 x53 x54:D)(S:b8):Prop:=
 b7 (i4 .lss x54 x53) fun v51=>
 i6 v51
 (b7 (o6 6 x52 x54) fun v52=>
 b7 (i5 S 6 v52) fun v53=>
 j6 S [(.str []), .nilSlc, .nilSlc,(.int .i64 0),(.int .i64 0), .nilSlc] fun v54 S55=>
 i7 S55 6 v54 v53 fun v56 S57=>
 b7 (j4 1 v54) fun v64=>
 b7 (c9 S57 v64) fun v65=>
 b7 (m9 v65) fun v66=>
 b7 (i4 .gtr v66 (.int .i64 32)) fun v67=>
 i6 v67
 (C3 E w0 N1 Q x1 v54 x52 x53 x54 v67 S57)
 (b7 (j4 2 v54) fun v68=>
 b7 (c9 S57 v68) fun v69=>
 b7 (m9 v69) fun v70=>
 b7 (i4 .gtr v70 (.int .i64 8)) fun v71=>
 i6 v71
 (C3 E w0 N1 Q x1 v54 x52 x53 x54 v71 S57)
 (b7 (j4 3 v54) fun v72=>
 b7 (c9 S57 v72) fun v73=>
 b7 (i4 .gtr v73 (.int .i64 256)) fun v74=>
 i6 v74
 (C3 E w0 N1 Q x1 v54 x52 x53 x54 v74 S57)
 (b7 (j4 4 v54) fun v75=>
 b7 (c9 S57 v75) fun v76=>
 b7 (i4 .gtr v76 (.int .i64 4096)) fun v77=>
 i6 v77
 (C3 E w0 N1 Q x1 v54 x52 x53 x54 v77 S57)
 (b7 (j4 5 v54) fun v78=>
 b7 (c9 S57 v78) fun v79=>
 b7 (m9 v79) fun v80=>
 b7 (i4 .gtr v80 (.int .i64 65536)) fun v81=>
 i6 v81
 (C3 E w0 N1 Q x1 v54 x52 x53 x54 v81 S57)
 (b7 (j4 0 v54) fun v82=>
 b7 (c9 S57 v82) fun v83=>
 b7 (a4b v83) fun v84=>
 b7 (i4 .gtr v84 (.int .i64 65536)) fun v85=>
 C3 E w0 N1 Q x1 v54 x52 x53 x54 v85 S57))))))
 (Q (.int .i64 0) S)
theorem b0i{E:j2}{w0:j9}{N1:D→D→D→D→b8→Prop}{Q:D→b8→Prop}{x1 x52 x53 x54:D}{S:b8}(h:a2f E w0 N1 Q x1 x52 x53 x54 S):
  j1 Tryz.prog E w0 a2d (m6 87 [1,52,53,54] [x1,x52,x53,x54]) S (B0 (fun T S=>N1 (T.getD 1 b9) (T.getD 52 b9) (T.getD 53 b9) (T.getD 54 b9) S) (a1X E w0 Q)):=j3 A1 A3 A4 mixed (by kernel_rfl) h
theorem b0D{E:j2}{w0:j9}{Q:D→b8→Prop}(I:Nat→D→D→D→D→b8→Prop)
  (step:∀n x1 x52 x53 x54 S,I n x1 x52 x53 x54 S→a2f E w0 (fun x1 x52 x53 x54 S=>∃m,m<n∧I m x1 x52 x53 x54 S) Q x1 x52 x53 x54 S)
  {n:Nat} {x1 x52 x53 x54:D} {S:b8} (h:I n x1 x52 x53 x54 S):j1 Tryz.prog E w0 (.loop a2d) (m6 87 [1,52,53,54] [x1,x52,x53,x54]) S (a1X E w0 Q):=
 o7 (k:=87) (n:=n) (I:=fun n T S=>I n (T.getD 1 b9) (T.getD 52 b9) (T.getD 53 b9) (T.getD 54 b9) S) (fun n T S hl hI=>p8 [1,52,53,54] hl (j1.mono (b0i (step n _ _ _ _ S hI)) fun ex T' S' _ hq=>by cases ex<;>exact hq)) (m7 ..) (Eq.mp (by kernel_rfl) h)
noncomputable def a2a:Code:=(j7 [1,1,0,1,0,0] (Tryz.f94.body.getD .skip))
def a1Z(E:j2)(w0:j9)(Q:D→b8→Prop):o8→List D→b8→Prop:=
 (q8 0 (H4 Tryz.prog E w0 A1 A3 A4 (j7 [1,1,1] (Tryz.f94.body.getD .skip)) (F5 Tryz.prog Tryz.f94 Q)))
def a1Y(E:j2)(w0:j9)(N0:D→D→D→D→b8→Prop)(Q:D→b8→Prop)(x1 x24 x25 x26:D)(S:b8):Prop:=
 b7 (i4 .lss x26 x25) fun v19=>
 i6 v19
 (b7 (o6 5 x24 x26) fun v20=>
 b7 (i5 S 5 v20) fun v21=>
 j6 S [(.int .u8 0),(.str []), .nilSlc,(.int .i64 0),(.int .i64 0)] fun v22 S23=>
 i7 S23 5 v22 v21 fun v24 S25=>
 b7 (j4 2 v22) fun v32=>
 b7 (c9 S25 v32) fun v33=>
 b7 (m9 v33) fun v34=>
 b7 (i4 .gtr v34 (.int .i64 32)) fun v35=>
 i6 v35
 (K4 E w0 N0 Q x1 v22 x24 x25 x26 v35 S25)
 (b7 (j4 1 v22) fun v36=>
 b7 (c9 S25 v36) fun v37=>
 b7 (a4b v37) fun v38=>
 b7 (i4 .gtr v38 (.int .i64 65536)) fun v39=>
 i6 v39
 (K4 E w0 N0 Q x1 v22 x24 x25 x26 v39 S25)
 (b7 (j4 2 v22) fun v40=>
 b7 (c9 S25 v40) fun v41=>
 j8 Tryz.prog E w0 B3 [v41,(.fn (.func a2c) [] [])] S25 fun v42 S43=>
 K4 E w0 N0 Q x1 v22 x24 x25 x26 v42 S43)))
 (b7 (j4 1 x1) fun v44=>
 b7 (c9 S v44) fun v45=>
 j8 Tryz.prog E w0 L4 [v45,(.fn (.func a1W) [] [])] S fun v46 S47=>
 i6 v46
 (Q (.int .i64 3) S47)
 (b7 (j4 2 x1) fun v48=>
 b7 (c9 S47 v48) fun v49=>
 b7 (m9 v49) fun v50=>
 j1 Tryz.prog E w0 (.loop a2d) (m6 87 [1,52,53,54] [x1,v49,v50,(.int .i64 0)]) S47 (a1X E w0 Q)))
theorem b0d{E:j2}{w0:j9}{N0:D→D→D→D→b8→Prop}{Q:D→b8→Prop}{x1 x24 x25 x26:D}{S:b8}(h:a1Y E w0 N0 Q x1 x24 x25 x26 S):
  j1 Tryz.prog E w0 a2a (m6 87 [1,24,25,26] [x1,x24,x25,x26]) S (B0 (fun T S=>N0 (T.getD 1 b9) (T.getD 24 b9) (T.getD 25 b9) (T.getD 26 b9) S) (a1Z E w0 Q)):=j3 A1 A3 A4 mixed (by kernel_rfl) h
theorem b0m{E:j2}{w0:j9}{Q:D→b8→Prop}(I:Nat→D→D→D→D→b8→Prop)
  (step:∀n x1 x24 x25 x26 S,I n x1 x24 x25 x26 S→a1Y E w0 (fun x1 x24 x25 x26 S=>∃m,m<n∧I m x1 x24 x25 x26 S) Q x1 x24 x25 x26 S)
  {n:Nat} {x1 x24 x25 x26:D} {S:b8} (h:I n x1 x24 x25 x26 S):j1 Tryz.prog E w0 (.loop a2a) (m6 87 [1,24,25,26] [x1,x24,x25,x26]) S (a1Z E w0 Q):=
 o7 (k:=87) (n:=n) (I:=fun n T S=>I n (T.getD 1 b9) (T.getD 24 b9) (T.getD 25 b9) (T.getD 26 b9) S) (fun n T S hl hI=>p8 [1,24,25,26] hl (j1.mono (b0d (step n _ _ _ _ S hI)) fun ex T' S' _ hq=>by cases ex<;>exact hq)) (m7 ..) (Eq.mp (by kernel_rfl) h)
def a7Q(E:j2)(w0:j9)(Q:D→b8→Prop)(a0:D)(S:b8):Prop:=
 b7 (o3 a0) fun cs=>j6 S cs fun v0 S1=>
 b7 (j4 0 v0) fun v2=>
 b7 (c9 S1 v2) fun v3=>
 b7 (m9 v3) fun v4=>
 b7 (i4 .gtr v4 (.int .i64 256)) fun v5=>
 b7 (f9 (d6 v5 false) (j4 1 v0)) fun v6=>
 b7 (f9 (d6 v5 false) (c9 S1 v6)) fun v7=>
 b7 (f9 (d6 v5 false) (m9 v7)) fun v8=>
 b7 (f9 (d6 v5 false) (i4 .gtr v8 (.int .i64 32768))) fun v9=>
 b7 (q9 v5 (.bool true) v9) fun v10=>
 b7 (f9 (d6 v10 false) (j4 2 v0)) fun v11=>
 b7 (f9 (d6 v10 false) (c9 S1 v11)) fun v12=>
 b7 (f9 (d6 v10 false) (m9 v12)) fun v13=>
 b7 (f9 (d6 v10 false) (i4 .gtr v13 (.int .i64 256))) fun v14=>
 b7 (q9 v10 (.bool true) v14) fun v15=>
 i6 v15
 (Q (.int .i64 3) S1)
 (b7 (j4 0 v0) fun v16=>
 b7 (c9 S1 v16) fun v17=>
 b7 (m9 v17) fun v18=>
 j1 Tryz.prog E w0 (.loop a2a) (m6 87 [1,24,25,26] [v0,v17,v18,(.int .i64 0)]) S1 (a1Z E w0 Q))
theorem b2c{E:j2}{w0:j9}{Q:D→b8→Prop}{a0:D}{S:b8}(h:a7Q E w0 (d9 E Q) a0 S):j8 Tryz.prog E w0 a3g [a0] S Q:=
 j0 A1 A3 A4 (fn:=Tryz.f94) (c:=Tryz.f94.body.getD .skip) mixed Tryz.func94 (by kernel_rfl) (by kernel_rfl) h
def b2T:List (Nat×List Nat):=[]
def b3j:List (Nat×List Nat):=[]
def b1Z:List (Nat×O6):=[]
def a5w(E:j2)(w0:j9)(Q:D→b8→Prop)(a0:D)(S:b8):Prop:=
 b7 (o3 a0) fun cs=>j6 S cs fun v0 S1=>
 b7 (j4 0 v0) fun v2=>
 b7 (c9 S1 v2) fun v3=>
 b7 (a4b v3) fun v4=>
 b7 (i4 .gtr v4 (.int .i64 65536)) fun v5=>
 Q v5 S1
theorem b0H{E:j2}{w0:j9}{Q:D→b8→Prop}{a0:D}{S:b8}(h:a5w E w0 (d9 E Q) a0 S):j8 Tryz.prog E w0 a2c [a0] S Q:=
 j0 b2T b3j b1Z (fn:=Tryz.f125) (c:=Tryz.f125.body.getD .skip) mixed Tryz.func125 (by kernel_rfl) (by kernel_rfl) h
def b2E:List (Nat×List Nat):=[]
def b2v:List (Nat×List Nat):=[]
def b1L:List (Nat×O6):=[]
def a5z(E:j2)(w0:j9)(Q:D→b8→Prop)(a0:D)(S:b8):Prop:=
 b7 (a4b a0) fun v0=>
 b7 (i4 .gtr v0 (.int .i64 65536)) fun v1=>
 Q v1 S
theorem a9I{E:j2}{w0:j9}{Q:D→b8→Prop}{a0:D}{S:b8}(h:a5z E w0 (d9 E Q) a0 S):j8 Tryz.prog E w0 a1W [a0] S Q:=
 j0 b2E b2v b1L (fn:=Tryz.f128) (c:=Tryz.f128.body.getD .skip) mixed Tryz.func128 (by kernel_rfl) (by kernel_rfl) h
def a2X:List (Nat×List Nat):=[]
def a3F:List (Nat×List Nat):=[]
def a3p:List (Nat×O6):=[]
def W4(E:j2)(w0:j9)(Q:D→b8→Prop)(a0 a1:D)(S:b8):Prop:=
 j8 Tryz.prog E w0 L1 [a0,a1] S fun v0 S1=>
 b7 (i4 .geq v0 (.int .i64 0)) fun v2=>
 Q v2 S1
theorem a2A{E:j2}{w0:j9}{Q:D→b8→Prop}{a0 a1:D}{S:b8}(h:W4 E w0 (d9 E Q) a0 a1 S):j8 Tryz.prog E w0 B3 [a0,a1] S Q:=
 j0 a2X a3F a3p (fn:=Tryz.f124) (c:=Tryz.f124.body.getD .skip) mixed Tryz.func124 (by kernel_rfl) (by kernel_rfl) h
def a4J:List (Nat×List Nat):=[]
def a4O:List (Nat×List Nat):=[]
def a4Q:List (Nat×O6):=[]
def a0v(E:j2)(w0:j9)(Q:D→b8→Prop)(a0 a1:D)(S:b8):Prop:=
 j8 Tryz.prog E w0 R5 [a0,a1] S fun v0 S1=>
 b7 (i4 .geq v0 (.int .i64 0)) fun v2=>
 Q v2 S1
theorem a3I{E:j2}{w0:j9}{Q:D→b8→Prop}{a0 a1:D}{S:b8}(h:a0v E w0 (d9 E Q) a0 a1 S):j8 Tryz.prog E w0 L4 [a0,a1] S Q:=
 j0 a4J a4O a4Q (fn:=Tryz.f127) (c:=Tryz.f127.body.getD .skip) mixed Tryz.func127 (by kernel_rfl) (by kernel_rfl) h
def a6N:List (Nat×List Nat):=[]
def a6u:List (Nat×List Nat):=[]
def a7f:List (Nat×O6):=[]
def a1T(E:j2)(w0:j9)(Q:D→b8→Prop)(a0 a1:D)(S:b8):Prop:=
 j8 Tryz.prog E w0 a0e [a0,a1] S fun v0 S1=>
 b7 (i4 .geq v0 (.int .i64 0)) fun v2=>
 Q v2 S1
theorem a5i{E:j2}{w0:j9}{Q:D→b8→Prop}{a0 a1:D}{S:b8}(h:a1T E w0 (d9 E Q) a0 a1 S):j8 Tryz.prog E w0 C4 [a0,a1] S Q:=
 j0 a6N a6u a7f (fn:=Tryz.f53) (c:=Tryz.f53.body.getD .skip) mixed Tryz.func53 (by kernel_rfl) (by kernel_rfl) h
def a3C:List (Nat×List Nat):=[]
def a3e:List (Nat×List Nat):=[]
def a2Y:List (Nat×O6):=[]
def W2(E:j2)(w0:j9)(Q:D→b8→Prop)(a0 a1:D)(S:b8):Prop:=
 j8 Tryz.prog E w0 L7 [a0,a1] S fun v0 S1=>
 b7 (i4 .geq v0 (.int .i64 0)) fun v2=>
 Q v2 S1
theorem a2x{E:j2}{w0:j9}{Q:D→b8→Prop}{a0 a1:D}{S:b8}(h:W2 E w0 (d9 E Q) a0 a1 S):j8 Tryz.prog E w0 I1 [a0,a1] S Q:=
 j0 a3C a3e a2Y (fn:=Tryz.f155) (c:=Tryz.f155.body.getD .skip) mixed Tryz.func155 (by kernel_rfl) (by kernel_rfl) h
def K5:List (Nat×List Nat):=[(4,[0,1,7,8])]
def K6:List (Nat×List Nat):=[]
def K0:List (Nat×O6):=[]
noncomputable def I9:Code:=(j7 [1,0,1,0,0] (Tryz.f150.body.getD .skip))
def I8(E:j2)(w0:j9)(Q:D→b8→Prop):o8→List D→b8→Prop:=
 (q8 0 (H4 Tryz.prog E w0 K5 K6 K0 (j7 [1,1] (Tryz.f150.body.getD .skip)) (F5 Tryz.prog Tryz.f150 Q)))
def J3(E:j2)(w0:j9)(N0:D→D→D→D→b8→Prop)(Q:D→b8→Prop)(x0 x1 x7 x8:D)(S:b8):Prop:=
 b7 (i4 .lss x8 x7) fun v1=>
 i6 v1
 (b7 (o6 2 x0 x8) fun v2=>
 b7 (i5 S 2 v2) fun v3=>
 a0f Tryz.prog (j8 Tryz.prog E w0) S x1 [v3] fun v4 S5=>
 i6 v4
 (Q x8 S5)
 (b7 (i4 .add x8 (.int .i64 1)) fun v6=>
 N0 x0 x1 x7 v6 S5))
 (Q (.int .i64 (-1)) S)
theorem a2V{E:j2}{w0:j9}{N0:D→D→D→D→b8→Prop}{Q:D→b8→Prop}{x0 x1 x7 x8:D}{S:b8}(h:J3 E w0 N0 Q x0 x1 x7 x8 S):
  j1 Tryz.prog E w0 I9 (m6 19 [0,1,7,8] [x0,x1,x7,x8]) S (B0 (fun T S=>N0 (T.getD 0 b9) (T.getD 1 b9) (T.getD 7 b9) (T.getD 8 b9) S) (I8 E w0 Q)):=j3 K5 K6 K0 mixed (by kernel_rfl) h
theorem a2R{E:j2}{w0:j9}{Q:D→b8→Prop}(I:Nat→D→D→D→D→b8→Prop)
  (step:∀n x0 x1 x7 x8 S,I n x0 x1 x7 x8 S→J3 E w0 (fun x0 x1 x7 x8 S=>∃m,m<n∧I m x0 x1 x7 x8 S) Q x0 x1 x7 x8 S)
  {n:Nat} {x0 x1 x7 x8:D} {S:b8} (h:I n x0 x1 x7 x8 S):j1 Tryz.prog E w0 (.loop I9) (m6 19 [0,1,7,8] [x0,x1,x7,x8]) S (I8 E w0 Q):=
 o7 (k:=19) (n:=n) (I:=fun n T S=>I n (T.getD 0 b9) (T.getD 1 b9) (T.getD 7 b9) (T.getD 8 b9) S) (fun n T S hl hI=>p8 [0,1,7,8] hl (j1.mono (a2V (step n _ _ _ _ S hI)) fun ex T' S' _ hq=>by cases ex<;>exact hq)) (m7 ..) (Eq.mp (by kernel_rfl) h)
def a0x(E:j2)(w0:j9)(Q:D→b8→Prop)(a0 a1:D)(S:b8):Prop:=
 b7 (m9 a0) fun v0=>
 j1 Tryz.prog E w0 (.loop I9) (m6 19 [0,1,7,8] [a0,a1,v0,(.int .i64 0)]) S (I8 E w0 Q)
theorem a3H{E:j2}{w0:j9}{Q:D→b8→Prop}{a0 a1:D}{S:b8}(h:a0x E w0 (d9 E Q) a0 a1 S):j8 Tryz.prog E w0 L1 [a0,a1] S Q:=
 j0 K5 K6 K0 (fn:=Tryz.f150) (c:=Tryz.f150.body.getD .skip) mixed Tryz.func150 (by kernel_rfl) (by kernel_rfl) h
def P7:List (Nat×List Nat):=[(4,[0,1,7,8])]
def P2:List (Nat×List Nat):=[]
def P4:List (Nat×O6):=[]
noncomputable def M6:Code:=(j7 [1,0,1,0,0] (Tryz.f153.body.getD .skip))
def N5(E:j2)(w0:j9)(Q:D→b8→Prop):o8→List D→b8→Prop:=
 (q8 0 (H4 Tryz.prog E w0 P7 P2 P4 (j7 [1,1] (Tryz.f153.body.getD .skip)) (F5 Tryz.prog Tryz.f153 Q)))
def N6(E:j2)(w0:j9)(N0:D→D→D→D→b8→Prop)(Q:D→b8→Prop)(x0 x1 x7 x8:D)(S:b8):Prop:=
 b7 (i4 .lss x8 x7) fun v1=>
 i6 v1
 (b7 (o6 1 x0 x8) fun v2=>
 b7 (c9 S v2) fun v3=>
 a0f Tryz.prog (j8 Tryz.prog E w0) S x1 [v3] fun v4 S5=>
 i6 v4
 (Q x8 S5)
 (b7 (i4 .add x8 (.int .i64 1)) fun v6=>
 N0 x0 x1 x7 v6 S5))
 (Q (.int .i64 (-1)) S)
theorem a4e{E:j2}{w0:j9}{N0:D→D→D→D→b8→Prop}{Q:D→b8→Prop}{x0 x1 x7 x8:D}{S:b8}(h:N6 E w0 N0 Q x0 x1 x7 x8 S):
  j1 Tryz.prog E w0 M6 (m6 19 [0,1,7,8] [x0,x1,x7,x8]) S (B0 (fun T S=>N0 (T.getD 0 b9) (T.getD 1 b9) (T.getD 7 b9) (T.getD 8 b9) S) (N5 E w0 Q)):=j3 P7 P2 P4 mixed (by kernel_rfl) h
theorem a3X{E:j2}{w0:j9}{Q:D→b8→Prop}(I:Nat→D→D→D→D→b8→Prop)
  (step:∀n x0 x1 x7 x8 S,I n x0 x1 x7 x8 S→N6 E w0 (fun x0 x1 x7 x8 S=>∃m,m<n∧I m x0 x1 x7 x8 S) Q x0 x1 x7 x8 S)
  {n:Nat} {x0 x1 x7 x8:D} {S:b8} (h:I n x0 x1 x7 x8 S):j1 Tryz.prog E w0 (.loop M6) (m6 19 [0,1,7,8] [x0,x1,x7,x8]) S (N5 E w0 Q):=
 o7 (k:=19) (n:=n) (I:=fun n T S=>I n (T.getD 0 b9) (T.getD 1 b9) (T.getD 7 b9) (T.getD 8 b9) S) (fun n T S hl hI=>p8 [0,1,7,8] hl (j1.mono (a4e (step n _ _ _ _ S hI)) fun ex T' S' _ hq=>by cases ex<;>exact hq)) (m7 ..) (Eq.mp (by kernel_rfl) h)
def a1V(E:j2)(w0:j9)(Q:D→b8→Prop)(a0 a1:D)(S:b8):Prop:=
 b7 (m9 a0) fun v0=>
 j1 Tryz.prog E w0 (.loop M6) (m6 19 [0,1,7,8] [a0,a1,v0,(.int .i64 0)]) S (N5 E w0 Q)
theorem a5m{E:j2}{w0:j9}{Q:D→b8→Prop}{a0 a1:D}{S:b8}(h:a1V E w0 (d9 E Q) a0 a1 S):j8 Tryz.prog E w0 R5 [a0,a1] S Q:=
 j0 P7 P2 P4 (fn:=Tryz.f153) (c:=Tryz.f153.body.getD .skip) mixed Tryz.func153 (by kernel_rfl) (by kernel_rfl) h
def X7:List (Nat×List Nat):=[(4,[0,1,7,8])]
def X6:List (Nat×List Nat):=[]
def Y5:List (Nat×O6):=[]
noncomputable def V5:Code:=(j7 [1,0,1,0,0] (Tryz.f78.body.getD .skip))
def V7(E:j2)(w0:j9)(Q:D→b8→Prop):o8→List D→b8→Prop:=
 (q8 0 (H4 Tryz.prog E w0 X7 X6 Y5 (j7 [1,1] (Tryz.f78.body.getD .skip)) (F5 Tryz.prog Tryz.f78 Q)))
def V6(E:j2)(w0:j9)(N0:D→D→D→D→b8→Prop)(Q:D→b8→Prop)(x0 x1 x7 x8:D)(S:b8):Prop:=
 b7 (i4 .lss x8 x7) fun v1=>
 i6 v1
 (b7 (o6 1 x0 x8) fun v2=>
 b7 (c9 S v2) fun v3=>
 a0f Tryz.prog (j8 Tryz.prog E w0) S x1 [v3] fun v4 S5=>
 i6 v4
 (Q x8 S5)
 (b7 (i4 .add x8 (.int .i64 1)) fun v6=>
 N0 x0 x1 x7 v6 S5))
 (Q (.int .i64 (-1)) S)
theorem a5J{E:j2}{w0:j9}{N0:D→D→D→D→b8→Prop}{Q:D→b8→Prop}{x0 x1 x7 x8:D}{S:b8}(h:V6 E w0 N0 Q x0 x1 x7 x8 S):
  j1 Tryz.prog E w0 V5 (m6 19 [0,1,7,8] [x0,x1,x7,x8]) S (B0 (fun T S=>N0 (T.getD 0 b9) (T.getD 1 b9) (T.getD 7 b9) (T.getD 8 b9) S) (V7 E w0 Q)):=j3 X7 X6 Y5 mixed (by kernel_rfl) h
theorem a5T{E:j2}{w0:j9}{Q:D→b8→Prop}(I:Nat→D→D→D→D→b8→Prop)
  (step:∀n x0 x1 x7 x8 S,I n x0 x1 x7 x8 S→V6 E w0 (fun x0 x1 x7 x8 S=>∃m,m<n∧I m x0 x1 x7 x8 S) Q x0 x1 x7 x8 S)
  {n:Nat} {x0 x1 x7 x8:D} {S:b8} (h:I n x0 x1 x7 x8 S):j1 Tryz.prog E w0 (.loop V5) (m6 19 [0,1,7,8] [x0,x1,x7,x8]) S (V7 E w0 Q):=
 o7 (k:=19) (n:=n) (I:=fun n T S=>I n (T.getD 0 b9) (T.getD 1 b9) (T.getD 7 b9) (T.getD 8 b9) S) (fun n T S hl hI=>p8 [0,1,7,8] hl (j1.mono (a5J (step n _ _ _ _ S hI)) fun ex T' S' _ hq=>by cases ex<;>exact hq)) (m7 ..) (Eq.mp (by kernel_rfl) h)
def a3y(E:j2)(w0:j9)(Q:D→b8→Prop)(a0 a1:D)(S:b8):Prop:=
 b7 (m9 a0) fun v0=>
 j1 Tryz.prog E w0 (.loop V5) (m6 19 [0,1,7,8] [a0,a1,v0,(.int .i64 0)]) S (V7 E w0 Q)
theorem a7n{E:j2}{w0:j9}{Q:D→b8→Prop}{a0 a1:D}{S:b8}(h:a3y E w0 (d9 E Q) a0 a1 S):j8 Tryz.prog E w0 a0e [a0,a1] S Q:=
 j0 X7 X6 Y5 (fn:=Tryz.f78) (c:=Tryz.f78.body.getD .skip) mixed Tryz.func78 (by kernel_rfl) (by kernel_rfl) h
def K3:List (Nat×List Nat):=[(4,[0,1,7,8])]
def K2:List (Nat×List Nat):=[]
def K8:List (Nat×O6):=[]
noncomputable def I7:Code:=(j7 [1,0,1,0,0] (Tryz.f160.body.getD .skip))
def J4(E:j2)(w0:j9)(Q:D→b8→Prop):o8→List D→b8→Prop:=
 (q8 0 (H4 Tryz.prog E w0 K3 K2 K8 (j7 [1,1] (Tryz.f160.body.getD .skip)) (F5 Tryz.prog Tryz.f160 Q)))
def J0(E:j2)(w0:j9)(N0:D→D→D→D→b8→Prop)(Q:D→b8→Prop)(x0 x1 x7 x8:D)(S:b8):Prop:=
 b7 (i4 .lss x8 x7) fun v1=>
 i6 v1
 (b7 (o6 4 x0 x8) fun v2=>
 b7 (i5 S 4 v2) fun v3=>
 a0f Tryz.prog (j8 Tryz.prog E w0) S x1 [v3] fun v4 S5=>
 i6 v4
 (Q x8 S5)
 (b7 (i4 .add x8 (.int .i64 1)) fun v6=>
 N0 x0 x1 x7 v6 S5))
 (Q (.int .i64 (-1)) S)
theorem a2T{E:j2}{w0:j9}{N0:D→D→D→D→b8→Prop}{Q:D→b8→Prop}{x0 x1 x7 x8:D}{S:b8}(h:J0 E w0 N0 Q x0 x1 x7 x8 S):
  j1 Tryz.prog E w0 I7 (m6 19 [0,1,7,8] [x0,x1,x7,x8]) S (B0 (fun T S=>N0 (T.getD 0 b9) (T.getD 1 b9) (T.getD 7 b9) (T.getD 8 b9) S) (J4 E w0 Q)):=j3 K3 K2 K8 mixed (by kernel_rfl) h
theorem a2U{E:j2}{w0:j9}{Q:D→b8→Prop}(I:Nat→D→D→D→D→b8→Prop)
  (step:∀n x0 x1 x7 x8 S,I n x0 x1 x7 x8 S→J0 E w0 (fun x0 x1 x7 x8 S=>∃m,m<n∧I m x0 x1 x7 x8 S) Q x0 x1 x7 x8 S)
  {n:Nat} {x0 x1 x7 x8:D} {S:b8} (h:I n x0 x1 x7 x8 S):j1 Tryz.prog E w0 (.loop I7) (m6 19 [0,1,7,8] [x0,x1,x7,x8]) S (J4 E w0 Q):=
 o7 (k:=19) (n:=n) (I:=fun n T S=>I n (T.getD 0 b9) (T.getD 1 b9) (T.getD 7 b9) (T.getD 8 b9) S) (fun n T S hl hI=>p8 [0,1,7,8] hl (j1.mono (a2T (step n _ _ _ _ S hI)) fun ex T' S' _ hq=>by cases ex<;>exact hq)) (m7 ..) (Eq.mp (by kernel_rfl) h)
def a0A(E:j2)(w0:j9)(Q:D→b8→Prop)(a0 a1:D)(S:b8):Prop:=
 b7 (m9 a0) fun v0=>
 j1 Tryz.prog E w0 (.loop I7) (m6 19 [0,1,7,8] [a0,a1,v0,(.int .i64 0)]) S (J4 E w0 Q)
theorem a3J{E:j2}{w0:j9}{Q:D→b8→Prop}{a0 a1:D}{S:b8}(h:a0A E w0 (d9 E Q) a0 a1 S):j8 Tryz.prog E w0 L7 [a0,a1] S Q:=
 j0 K3 K2 K8 (fn:=Tryz.f160) (c:=Tryz.f160.body.getD .skip) mixed Tryz.func160 (by kernel_rfl) (by kernel_rfl) h
end Go.Proofs.YtdkidgkiplcggaaGreat.d
end
