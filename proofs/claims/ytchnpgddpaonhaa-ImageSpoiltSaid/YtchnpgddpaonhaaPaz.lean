/-
  ImageSpoiltSaid: part Paz of its proof.
-/
import Derived.Test.YtchnpgddpaonhaaPay
import Derived.Test.YtchnpgddpaonhaaRows
import Derived.Test.YtchnpgddpaonhaaPaq
import Derived.KernelRfl
set_option linter.unusedVariables false
set_option linter.unusedSimpArgs false
set_option maxRecDepth 100000
section
open Go.Proofs Go Go.Am Go.Op
namespace Go.Proofs.Ytchnpgddpaonhaa.d
section
def TkQ(S:b7)(r:List Int×List Int×Int)(v:D)(S':b7):Prop:=∃c d,v= .tup [c,d, .int .i64 r.2.2]∧Two S c r.1 d r.2.1 S'
theorem d4o{y:In}(h:isS y=true):1≤y.op∧y.op≤52:=by
 have hs:(lay y.op).isSome=true:=by
  unfold isS at h
  simp only[Bool.and_eq_true]at h
  exact h.1.1
 by_cases c:1≤y.op∧y.op≤52
 ·exact c
 ·exfalso
  rw[←d2M]at hs
  unfold d4G at hs
  have ne:∀p:Int,1≤p→p≤52→(y.op==p)=false:=fun p h1 h2=>by
   rw[b9S];exact decide_eq_false (by omega)
  simp only[ne 6 (by decide) (by decide),ne 7 (by decide) (by decide),ne 8 (by decide) (by decide),ne 50 (by decide) (by decide),ne 36 (by decide) (by decide),ne 37 (by decide) (by decide),ne 38 (by decide) (by decide),ne 23 (by decide) (by decide),ne 24 (by decide) (by decide),ne 46 (by decide) (by decide),ne 47 (by decide) (by decide),ne 48 (by decide) (by decide),Bool.false_or]at hs
  rw[if_neg (by omega),if_neg (by omega),if_neg (by omega),if_neg (by simp;omega),if_neg (by simp),if_neg (by simp),if_neg (by simp;omega),if_neg (by omega),if_neg (by simp),if_neg (by omega),if_neg (by omega),if_neg (by simp;omega)]at hs
  cases hs
section
variable{E:m6}{w0:o3}
theorem c3m{l:List Int}{d:D}(hl:l.length<2^40)(he:c6d d .nilSlc=some false)(hr:∀S,rowsS S 1 d=some (iC l)){S:b7}:o4 Try.prog E w0 O7 [d] S fun d S'=>Own S d l S':=by
 refine a3r ?_
 unfold a2a
 rw[he,eqE,oD,cdF]
 refine c3C (rows:=[]) fun k acs n=> ?_
 simp only[y9,hr,a4P]
 by_cases hn:iC l=[]
 ·rw[if_pos hn]
  have:l=[]:=by
   cases l with
   |nil=>rfl
   |cons a l=>simp[iC,u4]at hn
  subst this
  exact d9.here (.inr ⟨k,acs,true,n,rfl,rfl⟩)
 ·rw[if_neg hn,b7.set_same]
  simp only
  rw[if_pos ⟨by trivial,by trivial,by simp⟩]
  refine⟨by simp;omega, .inr fun k' acs' hk'=> ?_⟩
  rw[b7.erase_set _ _ _ n]at hk' ⊢
  refine d9.here (.inr ⟨k',acs',false,hk', ?_, ?_⟩)<;>simp
theorem c5F{l:List Int}(hl:l.length<2^40){S:b7}:o4 Try.prog E w0 O7 [iD l] S fun d S'=>Own S d l S':=by
 cases l with
 |nil=>
  refine DF.split (pre:=[]) (post:=[]) (a3r ?_) (c3m (by decide) rfl fun S=>by simp[rowsS,J5,iC,u4])
  unfold a2a
  rw[show a9j .eql (c6d .nilSlc .nilSlc)=some (.bool true) from rfl,oD,cdT]
  exact d9.here (Own.nil _)
 |cons a l=>exact c3m hl rfl fun S=>c9i S _
variable{S B S':b7}{k8:Nat}{y:In}{m:Mo}
theorem c8U{r:List Int×List Int×Bool}{c d:D}{a:List AV}(hB:S.le B)(h8:B k8=some ⟨3,[[c,d, .bool r.2.2]],a⟩)(g:Two B c r.1 d r.2.1 S')(e:a1l y m=if r.2.2=true then(r.1,r.2.1,0) else([],[],2)):
  I0 E w0 (d9 E (TkQ S (a1l y m))) (.ptr k8 0) S':=by
 refine b5a ?_
 unfold b1E
 have h:=g.le _ _ h8
 simp only[I3,oD,Nat.zero_add,ldP h,List.getElem?_cons_zero,List.getElem?_cons_succ,unN]
 obtain⟨S'',l,g''⟩:=g.base hB
 cases hr:r.2.2 with
 |false=>
  rw[Bool.not_false,cdT]
  rw[hr,if_neg (by simp)]at e
  rw[e]
  exact d9.less (b7.le_trans hB g.le) (d9.here ⟨.nilSlc, .nilSlc,rfl,S,Own.nil _,Own.nil _⟩)
 |true=>
  rw[Bool.not_true,cdF]
  rw[hr,if_pos rfl]at e
  rw[e]
  exact d9.less l (d9.here ⟨c,d,rfl,g''⟩)
theorem b9Q{r:List Int×List Int×Bool}{c d:D}{a:List AV}(hB:S.le B)(hn:S k8=none)(h8:B k8=some ⟨3,[[.nilSlc, .nilSlc, .bool false]],a⟩)(g:Two B c r.1 d r.2.1 S')(e:a1l y m=if r.2.2=true then(r.1,r.2.1,0) else([],[],2)):
  f0 S' 3 (.ptr k8 0) (efD c d r.2.2) fun _ S8=>I0 E w0 (d9 E (TkQ S (a1l y m))) (.ptr k8 0) S8:=by
 refine stP (ds:=[c,d, .bool r.2.2]) (g.le _ _ h8) (clA _) ⟨rfl,by decide,by simp⟩ fun a3=> ?_
 exact c8U (r:=r) (b7.le_set hB hn) (b7.set_same _ _ _) (g.upd h8) e
end
end
section
section
variable{E:m6}{w0:o3}
set_option maxHeartbeats 1000000 in
theorem c4b{y:In}{m:Mo}(hy:y.Ok)(hm:m.Fits){S:b7}:o4 Try.prog E w0 a7h [inD y,moD m] S (TkQ S (a1l y m)):=by
 refine c1o ?_
 unfold b7H
 rw[inD,clA,oD]
 intro k a n
 rw[moD,clA,oD]
 intro k2 a2 n2
 obtain⟨ne2,n2'⟩:=b7.fresh n2
 generalize hS3:(S.set k _).set k2 _=S3
 have h2:S3 k2=some ⟨3,[moC m],a2⟩:=by rw[←hS3];exact b7.set_same _ _ _
 have h0:S3 k=some ⟨4,[inC y],a⟩:=by rw[←hS3,b7.set_ne _ _ _ (Ne.symm ne2)];exact b7.set_same _ _ _
 have hle:S.le S3:=by rw[←hS3];exact b7.le_set (b7.le_new n) n2'
 clear hS3 n2
 have hok:=hm.ok
 rw[laP h0 (by simp[inC]),oD]
 refine(c6u hy).use ?_
 rw[a1T,oD,b9S]
 cases his:isS y with
 |false=>
  have e:b9G y=[]:=by unfold b9G;rw[if_neg (by rw[his];simp)]
  rw[e,decide_eq_true (by rfl),cdT]
  have et:a1l y m=([],[],120):=by unfold a1l;rw[if_pos his]
  rw[et]
  exact d9.less hle (d9.here ⟨.nilSlc, .nilSlc,rfl,S,Own.nil _,Own.nil _⟩)
 |true=>
 have ns:¬isS y=false:=by rw[his];simp
 have hlen:¬(((b9G y).length:Nat):Int)=0:=by
  unfold b9G
  rw[if_pos his]
  unfold b3d
  simp
  omega
 rw[decide_eq_false hlen,cdF]
 intro k8 a8 n8
 have h8:(S3.set k8 ⟨3,[[.nilSlc, .nilSlc, .bool false]],a8⟩) k8=some ⟨3,[[.nilSlc, .nilSlc, .bool false]],a8⟩:=b7.set_same _ _ _
 have z8:S k8=none:=by
  cases e:S k8 with
  |none=>rfl
  |some o=>rw[hle _ _ e]at n8;cases n8
 have h0':(S3.set k8 ⟨3,[[.nilSlc, .nilSlc, .bool false]],a8⟩) k=some ⟨4,[inC y],a⟩:=by rw[b7.set_ne _ _ _ (fun e=>by rw[←e,h0]at n8;cases n8)];exact h0
 have h2':(S3.set k8 ⟨3,[[.nilSlc, .nilSlc, .bool false]],a8⟩) k2=some ⟨3,[moC m],a2⟩:=by rw[b7.set_ne _ _ _ (fun e=>by rw[←e,h2]at n8;cases n8)];exact h2
 have hle':S.le (S3.set k8 ⟨3,[[.nilSlc, .nilSlc, .bool false]],a8⟩):=b7.le_set hle z8
 have e3:([D.nilSlc, .nilSlc, .bool false]).length=3:=rfl
 rw[e3]
 clear h0 h2 hle
 generalize S3.set k8 ⟨3,[[.nilSlc, .nilSlc, .bool false]],a8⟩=S9 at h8 h0' h2' hle' ⊢
 have l0:c9 S9 (.ptr k 0)=some (.int .u8 y.op):=by rw[ldP h0'];rfl
 have l1:c9 S9 (.ptr k 1)=some (.int .i64 y.a):=by rw[ldP h0'];rfl
 have m1:c9 S9 (.ptr k2 1)=some (b0L m.texts):=by rw[ldP h2'];rfl
 have m2:c9 S9 (.ptr k2 2)=some (b2O m.funcs):=by rw[ldP h2'];rfl
 have li:j0 S9 4 (.ptr k 0)=some (inD y):=by rw[laP h0' (by simp[inC])];rfl
 have lm:j0 S9 3 (.ptr k2 0)=some (moD m):=by rw[laP h2' (by simp[moC])];rfl
 have lx:∀l:List Tx,r6 (b0L l)=some (.int .i64 (l.length:Int)):=fun l=>by simp[b0L]
 have lr:∀l:List Ro,r6 (b2O l)=some (.int .i64 (l.length:Int)):=fun l=>by simp[b2O]
 simp only[I3,oD,Nat.zero_add,l0]
 refine tEq ?_
 rw[M6]
 refine⟨fun h6=> ?_,fun h6=> ?_⟩
 ·have et:a1l y m=if decide (y.a<m.texts.length)=true then([],[5],0) else([],[],2):=by
   unfold a1l
   rw[if_neg ns]
   by_cases d:y.a<m.texts.length
   ·rw[if_neg (by omega),if_neg (by omega),if_neg (by omega),if_pos (decide_eq_true d)]
    unfold w5
    rw[if_neg (by omega),if_neg (by omega),if_pos h6]
   ·rw[if_pos (by omega),if_neg (by rw[decide_eq_false d];simp)]
  simp only[oD,l1,m1,lx,K3]
  refine⟨?_, ?_⟩
  ·refine(C6 clN).use ⟨fwR _ _,fwR _ _,D2 (l:=[5]) fun v S4 g1=> ?_⟩
   have f1:t6 (.ptr k 1) S9 S4:=by rw[fwP,g1.le _ _ h0',h0']
   have f2:t6 (.ptr k2 1) S9 S4:=by rw[fwP,g1.le _ _ h2',h2']
   refine⟨f1,f2,(z9 (a:= .nilSlc) (b:= .nilSlc) (c:= .bool true) g1.cells).use ⟨f1,f2,(G5 (a:= .nilSlc) (b:=v) (c:= .bool true) (clB _)).use ?_⟩⟩
   exact b9Q (E:=E) (w0:=w0) (r:=([],[5],decide (y.a<m.texts.length))) hle' z8 h8 ⟨S9,Own.nil _,g1⟩ et
  ·refine D2 (l:=[5]) fun v S4 g1=> ?_
   have f1:t6 (.ptr k 1) S9 S4:=by rw[fwP,g1.le _ _ h0',h0']
   have f2:t6 (.ptr k2 1) S9 S4:=by rw[fwP,g1.le _ _ h2',h2']
   refine⟨f1,f2,(C6 clN).use ⟨f1,f2,(z9 (a:= .nilSlc) (b:= .nilSlc) (c:= .bool true) g1.cells).use ⟨f1,f2,(G5 (a:= .nilSlc) (b:=v) (c:= .bool true) (clB _)).use ?_⟩⟩⟩
   exact b9Q (E:=E) (w0:=w0) (r:=([],[5],decide (y.a<m.texts.length))) hle' z8 h8 ⟨S9,Own.nil _,g1⟩ et
 refine tEq ?_
 rw[M6]
 refine⟨fun h50=> ?_,fun h50=> ?_⟩
 ·simp only[oD,l1,m2,lr,K3]
  rw[M6]
  refine⟨fun hlt=> ?_,fun hlt=> ?_⟩
  ·obtain⟨ha1,ha2⟩:=d5v his h50
   obtain⟨i,hi⟩:∃i:Nat,i=y.a.toNat:=⟨_,rfl⟩
   have hi':y.a=(i:Int):=by omega
   have hil:i<m.funcs.length:=by omega
   obtain⟨r,hr⟩:∃r,r=m.funcs[i]:=⟨_,rfl⟩
   have ea:m.funcs[i]? =some r:=by rw[List.getElem?_eq_getElem hil,hr]
   obtain⟨p1,p2,_⟩:=hm.params r (by rw[hr];exact List.getElem_mem _)
   have ex:A7 6 (b2O m.funcs) (.int .i64 (i:Int))=some (.elt (roR r) 0):=b9m ea
   have et:a1l y m=(r.params,r.results,0):=by
    unfold a1l
    rw[if_neg ns,if_neg (by omega),if_pos h50, ←hi,ea]
   rw[hi',ex,oD,show j0 S9 6 (.elt (roR r) 0)=some (.agg (roR r)) from rfl,oD]
   intro k5 a5 n5
   refine stP (ds:=roR r) (b7.set_same _ _ _) (clA _) ⟨rfl,by decide,by simp[roR]⟩ fun a6=> ?_
   rw[b7.set_set]
   have h5:(S9.set k5 ⟨6,[roR r],a6⟩) k5=some ⟨6,[roR r],a6⟩:=b7.set_same _ _ _
   have h8':(S9.set k5 ⟨6,[roR r],a6⟩) k8=some ⟨3,[[.nilSlc, .nilSlc, .bool false]],a8⟩:=by rw[b7.set_ne _ _ _ (fun e=>by rw[←e,h8]at n5;cases n5)];exact h8
   have l5:S.le (S9.set k5 ⟨6,[roR r],a6⟩):=b7.le_trans hle' (b7.le_new n5)
   show a9 (m8 1 (.ptr k5 0)) _
   generalize hS5:S9.set k5 _=S5
   have h5:S5 k5=some ⟨6,[roR r],a6⟩:=by rw[←hS5];exact h5
   have h8':S5 k8=some ⟨3,[[.nilSlc, .nilSlc, .bool false]],a8⟩:=by rw[←hS5];exact h8'
   have l5:S.le S5:=by rw[←hS5];exact l5
   have q1:c9 S5 (.ptr k5 1)=some (iD r.params):=by rw[ldP h5];rfl
   have q2:c9 S5 (.ptr k5 2)=some (iD r.results):=by rw[ldP h5];rfl
   simp only[I3,oD,Nat.zero_add,q1,q2]
   refine(c5F (by omega)).use fun c S4 g1=> ?_
   have f1:t6 (.ptr k5 2) S5 S4:=by rw[fwP,g1.le _ _ h5,h5]
   refine⟨f1,(C6 g1.cells).use ⟨f1,(c5F (by omega)).use fun d S6 g2=>(z9 (a:=c) (b:= .nilSlc) (c:= .bool true) g2.cells).use ?_⟩⟩
   exact b9Q (E:=E) (w0:=w0) (y:=y) (m:=m) (r:=(r.params,r.results,true)) l5 z8 h8' ⟨S4,g1,g2⟩ (by rw[et,if_pos rfl])
  ·exact c8U (r:=([],[],false)) hle' h8 ⟨S9,Own.nil _,Own.nil _⟩ (by unfold a1l;rw[if_neg ns,if_pos (by omega),if_neg (by simp)])
 refine tIn l0 ?_
 rw[M6]
 refine⟨fun h36=> ?_,fun h36=> ?_⟩
 ·rw[li,oD,lm,oD]
  refine(c6M hy hm (d5i his)).use ?_
  rintro v S' ⟨c,d,rfl,g⟩
  refine b9Q (r:=Z9 y m) hle' z8 h8 g ?_
  unfold a1l
  rw[if_neg ns,if_neg (by omega),if_neg h50,if_pos h36]
 ·rw[li,oD]
  obtain⟨o1,o2⟩:=d4o his
  refine(c3Y hy (by omega)).use ?_
  rintro v S' ⟨c,d,rfl,g⟩
  refine b9Q (r:=((w5 y).1,(w5 y).2,true)) hle' z8 h8 g ?_
  unfold a1l
  rw[if_neg ns,if_neg (by omega),if_neg h50,if_neg h36,if_pos rfl]
end
end
end Go.Proofs.Ytchnpgddpaonhaa.d
end
section
open Go.Proofs Go Go.Am
namespace Go.Proofs.Ytchnpgddpaonhaa.d
def c1a:List (Nat×List Nat):=[]
def c0Z:List (Nat×List Nat):=[]
def b9A:List (Nat×Arr):=[]
def b3x(E:m6)(w0:o3)(Q:D→b7→Prop)(a0 a1:D)(S:b7):Prop:=
 a9 (r7 a0) fun cs=>o6 S cs fun v0 S1=>
 a9 (d8 .leq (.int .i64 1) a1) fun v2=>
 a9 (j9 (d6 v2 true) (some a1)) fun v3=>
 a9 (j9 (d6 v2 true) (d8 .leq v3 (.int .i64 5))) fun v4=>
 a9 (z2 v2 v4 (.bool false)) fun v5=>
 a9 (j9 (d6 v5 false) (some a1)) fun v6=>
 a9 (j9 (d6 v5 false) (d8 .geq v6 (.int .i64 16))) fun v7=>
 a9 (j9 (d6 v5 false) (some v7)) fun v8=>
 a9 (j9 (d6 v8 true) (some a1)) fun v9=>
 a9 (j9 (d6 v8 true) (d8 .sub v9 (.int .i64 16))) fun v10=>
 a9 (j9 (d6 v8 true) (m8 0 v0)) fun v11=>
 a9 (j9 (d6 v8 true) (c9 S1 v11)) fun v12=>
 a9 (j9 (d6 v8 true) (r6 v12)) fun v13=>
 a9 (j9 (d6 v8 true) (d8 .lss v10 v13)) fun v14=>
 a9 (j9 (d6 v5 false) (z2 v8 v14 (.bool false))) fun v15=>
 a9 (z2 v5 (.bool true) v15) fun v16=>
 Q v16 S1
theorem b6W{E:m6}{w0:o3}{Q:D→b7→Prop}{a0 a1:D}{S:b7}(h:b3x E w0 (d9 E Q) a0 a1 S):o4 Try.prog E w0 W8 [a0,a1] S Q:=
 m9 c1a c0Z b9A (fn:=Try.f69) (c:=Try.f69.body.getD .skip) o9 Try.func69 (by kernel_rfl) (by kernel_rfl) h
def b7b:List (Nat×List Nat):=[]
def b6C:List (Nat×List Nat):=[]
def b6K:List (Nat×Arr):=[]
def b0z(E:m6)(w0:o3)(Q:D→b7→Prop)(a0 a1:D)(S:b7):Prop:=
 a9 (r7 a0) fun cs=>o6 S cs fun v0 S1=>
 a9 (r7 a1) fun cs=>o6 S1 cs fun v2 S3=>
 a9 (m8 1 v2) fun v4=>
 a9 (c9 S3 v4) fun v5=>
 a9 (c2p .eql v5 (.str [])) fun v6=>
 a9 (j9 (d6 v6 true) (m8 2 v2)) fun v7=>
 a9 (j9 (d6 v6 true) (c9 S3 v7)) fun v8=>
 a9 (j9 (d6 v6 true) (r6 v8)) fun v9=>
 a9 (j9 (d6 v6 true) (d8 .eql v9 (.int .i64 0))) fun v10=>
 a9 (z2 v6 v10 (.bool false)) fun v11=>
 a9 (j9 (d6 v11 true) (j0 S3 3 v0)) fun v12=>
 a9 (j9 (d6 v11 true) (m8 3 v2)) fun v13=>
 a9 (j9 (d6 v11 true) (c9 S3 v13)) fun v14=>
 a6e (d6 v11 true) (fun K=>o4 Try.prog E w0 W8 [v12,v14] S3 K) S3 fun v15 S16=>
 a9 (z2 v11 v15 (.bool false)) fun v17=>
 a9 (m8 0 v2) fun v18=>
 a9 (c9 S16 v18) fun v19=>
 a9 (d8 .eql v19 (.int .u8 6)) fun v20=>
 i9 v20
 (a9 (m8 3 v2) fun v21=>
 a9 (c9 S16 v21) fun v22=>
 a9 (d8 .eql v22 (.int .i64 0)) fun v23=>
 a9 (j9 (d6 v23 true) (m8 4 v2)) fun v24=>
 a9 (j9 (d6 v23 true) (c9 S16 v24)) fun v25=>
 a9 (j9 (d6 v23 true) (d8 .eql v25 (.int .i64 0))) fun v26=>
 a9 (z2 v23 v26 (.bool false)) fun v27=>
 a9 (j9 (d6 v27 true) (m8 2 v2)) fun v28=>
 a9 (j9 (d6 v27 true) (c9 S16 v28)) fun v29=>
 a9 (j9 (d6 v27 true) (some (.fn (.func a0O) [] [v0]))) fun v30=>
 a6e (d6 v27 true) (fun K=>o4 Try.prog E w0 B8 [v29,v30] S16 K) S16 fun v31 S32=>
 a9 (j9 (d6 v27 true) (unD .not v31)) fun v33=>
 a9 (z2 v27 v33 (.bool false)) fun v34=>
 Q v34 S32)
 (a9 (d8 .eql v19 (.int .u8 7)) fun v35=>
 i9 v35
 (a9 (j9 (d6 v17 true) (m8 4 v2)) fun v36=>
 a9 (j9 (d6 v17 true) (c9 S16 v36)) fun v37=>
 a9 (j9 (d6 v17 true) (d8 .geq v37 (.int .i64 0))) fun v38=>
 a9 (z2 v17 v38 (.bool false)) fun v39=>
 a9 (j9 (d6 v39 true) (m8 4 v2)) fun v40=>
 a9 (j9 (d6 v39 true) (c9 S16 v40)) fun v41=>
 a9 (j9 (d6 v39 true) (d8 .leq v41 (.int .i64 65536))) fun v42=>
 a9 (z2 v39 v42 (.bool false)) fun v43=>
 Q v43 S16)
 (a9 (d8 .eql v19 (.int .u8 8)) fun v44=>
 i9 v44
 (a9 (j9 (d6 v17 true) (m8 4 v2)) fun v45=>
 a9 (j9 (d6 v17 true) (c9 S16 v45)) fun v46=>
 a9 (j9 (d6 v17 true) (d8 .eql v46 (.int .i64 0))) fun v47=>
 a9 (z2 v17 v47 (.bool false)) fun v48=>
 Q v48 S16)
 (Q (.bool false) S16)))
theorem b3H{E:m6}{w0:o3}{Q:D→b7→Prop}{a0 a1:D}{S:b7}(h:b0z E w0 (d9 E Q) a0 a1 S):o4 Try.prog E w0 a1Y [a0,a1] S Q:=
 m9 b7b b6C b6K (fn:=Try.f45) (c:=Try.f45.body.getD .skip) o9 Try.func45 (by kernel_rfl) (by kernel_rfl) h
def b3O:List (Nat×List Nat):=[]
def b4b:List (Nat×List Nat):=[]
def b4k:List (Nat×Arr):=[]
def a7e(E:m6)(w0:o3)(Q:D→b7→Prop)(a0 c0:D)(S:b7):Prop:=
 a9 (r7 a0) fun cs=>o6 S cs fun v0 S1=>
 a9 (j0 S1 3 c0) fun v2=>
 a9 (m8 1 v0) fun v3=>
 a9 (c9 S1 v3) fun v4=>
 o4 Try.prog E w0 W8 [v2,v4] S1 fun v5 S6=>
 a9 (unD .not v5) fun v7=>
 Q v7 S6
theorem b0Y{E:m6}{w0:o3}{Q:D→b7→Prop}{a0 c0:D}{S:b7}(h:a7e E w0 (d9 E Q) a0 c0 S):o4 Try.prog E w0 a0O [a0,c0] S Q:=
 m9 b3O b4b b4k (fn:=Try.f70) (c:=Try.f70.body.getD .skip) o9 Try.func70 (by kernel_rfl) (by kernel_rfl) h
def b6I:List (Nat×List Nat):=[]
def b7i:List (Nat×List Nat):=[]
def b6s:List (Nat×Arr):=[]
def b0j(E:m6)(w0:o3)(Q:D→b7→Prop)(a0 a1:D)(S:b7):Prop:=
 a9 (r7 a0) fun cs=>o6 S cs fun v0 S1=>
 a9 (r7 a1) fun cs=>o6 S1 cs fun v2 S3=>
 a9 (some (.fn (.func a3c) [] [v0])) fun v4=>
 a9 (m8 1 v2) fun v5=>
 a9 (c9 S3 v5) fun v6=>
 o4 Try.prog E w0 I8 [v6,v4] S3 fun v7 S8=>
 a9 (j9 (d6 v7 false) (m8 2 v2)) fun v9=>
 a9 (j9 (d6 v7 false) (c9 S8 v9)) fun v10=>
 a9 (j9 (d6 v7 false) (some v4)) fun v11=>
 a6e (d6 v7 false) (fun K=>o4 Try.prog E w0 I8 [v10,v11] S8 K) S8 fun v12 S13=>
 a9 (z2 v7 (.bool true) v12) fun v14=>
 a9 (j9 (d6 v14 false) (m8 3 v2)) fun v15=>
 a9 (j9 (d6 v14 false) (c9 S13 v15)) fun v16=>
 a9 (j9 (d6 v14 false) (m8 1 v2)) fun v17=>
 a9 (j9 (d6 v14 false) (c9 S13 v17)) fun v18=>
 a9 (j9 (d6 v14 false) (r6 v18)) fun v19=>
 a9 (j9 (d6 v14 false) (d8 .lss v16 v19)) fun v20=>
 a9 (z2 v14 (.bool true) v20) fun v21=>
 a9 (j9 (d6 v21 false) (m8 4 v2)) fun v22=>
 a9 (j9 (d6 v21 false) (c9 S13 v22)) fun v23=>
 a9 (j9 (d6 v21 false) (d8 .lss v23 (.int .i64 0))) fun v24=>
 a9 (z2 v21 (.bool true) v24) fun v25=>
 i9 v25
 (Q (.bool false) S13)
 (a9 (m8 5 v2) fun v26=>
 a9 (c9 S13 v26) fun v27=>
 o4 Try.prog E w0 b6M [v27] S13 fun v28 S29=>
 a9 (o5 v28 0) fun v30=>
 a9 (o5 v28 1) fun v31=>
 a9 (o5 v28 2) fun v32=>
 a9 (d8 .eql v32 (.int .i64 0)) fun v33=>
 a9 (j9 (d6 v33 true) (some v30)) fun v34=>
 a9 (j9 (d6 v33 true) (some (.fn (.func a2Q) [] [v0,v2]))) fun v35=>
 a6e (d6 v33 true) (fun K=>o4 Try.prog E w0 I7 [v34,v35] S29 K) S29 fun v36 S37=>
 a9 (j9 (d6 v33 true) (unD .not v36)) fun v38=>
 a9 (z2 v33 v38 (.bool false)) fun v39=>
 Q v39 S37)
theorem b4r{E:m6}{w0:o3}{Q:D→b7→Prop}{a0 a1:D}{S:b7}(h:b0j E w0 (d9 E Q) a0 a1 S):o4 Try.prog E w0 a1X [a0,a1] S Q:=
 m9 b6I b7i b6s (fn:=Try.f48) (c:=Try.f48.body.getD .skip) o9 Try.func48 (by kernel_rfl) (by kernel_rfl) h
def b4d:List (Nat×List Nat):=[]
def b3V:List (Nat×List Nat):=[]
def b4a:List (Nat×Arr):=[]
def a7i(E:m6)(w0:o3)(Q:D→b7→Prop)(a0 c0:D)(S:b7):Prop:=
 a9 (j0 S 3 c0) fun v0=>
 o4 Try.prog E w0 W8 [v0,a0] S fun v1 S2=>
 a9 (unD .not v1) fun v3=>
 Q v3 S2
theorem b2g{E:m6}{w0:o3}{Q:D→b7→Prop}{a0 c0:D}{S:b7}(h:a7i E w0 (d9 E Q) a0 c0 S):o4 Try.prog E w0 a3c [a0,c0] S Q:=
 m9 b4d b3V b4a (fn:=Try.f72) (c:=Try.f72.body.getD .skip) o9 Try.func72 (by kernel_rfl) (by kernel_rfl) h
def b3R:List (Nat×List Nat):=[]
def b4j:List (Nat×List Nat):=[]
def b4u:List (Nat×Arr):=[]
def a6X(E:m6)(w0:o3)(Q:D→b7→Prop)(a0 c0 c1:D)(S:b7):Prop:=
 a9 (r7 a0) fun cs=>o6 S cs fun v0 S1=>
 a9 (j0 S1 4 v0) fun v2=>
 a9 (j0 S1 3 c0) fun v3=>
 o4 Try.prog E w0 a7h [v2,v3] S1 fun v4 S5=>
 a9 (o5 v4 0) fun v6=>
 a9 (o5 v4 1) fun v7=>
 a9 (o5 v4 2) fun v8=>
 a9 (d8 .neq v8 (.int .i64 0)) fun v9=>
 a9 (j9 (d6 v9 false) (m8 0 v0)) fun v10=>
 a9 (j9 (d6 v9 false) (c9 S5 v10)) fun v11=>
 a9 (j9 (d6 v9 false) (d8 .eql v11 (.int .u8 7))) fun v12=>
 a9 (j9 (d6 v9 false) (some v12)) fun v13=>
 a9 (j9 (d6 v13 false) (m8 0 v0)) fun v14=>
 a9 (j9 (d6 v13 false) (c9 S5 v14)) fun v15=>
 a9 (j9 (d6 v13 false) (d8 .eql v15 (.int .u8 8))) fun v16=>
 a9 (j9 (d6 v9 false) (z2 v13 (.bool true) v16)) fun v17=>
 a9 (j9 (d6 v9 false) (some v17)) fun v18=>
 a9 (j9 (d6 v18 true) (m8 1 v0)) fun v19=>
 a9 (j9 (d6 v18 true) (c9 S5 v19)) fun v20=>
 a9 (j9 (d6 v18 true) (m8 3 c1)) fun v21=>
 a9 (j9 (d6 v18 true) (c9 S5 v21)) fun v22=>
 a9 (j9 (d6 v18 true) (d8 .geq v20 v22)) fun v23=>
 a9 (j9 (d6 v9 false) (z2 v18 v23 (.bool false))) fun v24=>
 a9 (z2 v9 (.bool true) v24) fun v25=>
 Q v25 S5
theorem b0W{E:m6}{w0:o3}{Q:D→b7→Prop}{a0 c0 c1:D}{S:b7}(h:a6X E w0 (d9 E Q) a0 c0 c1 S):o4 Try.prog E w0 a2Q [a0,c0,c1] S Q:=
 m9 b3R b4j b4u (fn:=Try.f76) (c:=Try.f76.body.getD .skip) o9 Try.func76 (by kernel_rfl) (by kernel_rfl) h
def A5:List (Nat×List Nat):=[(8,[1,24,25,26]),(32,[1,52,53,54])]
def A6:List (Nat×List Nat):=[(37,[1,4,24,25,26,30]),(97,[1,6,52,53,54,58])]
def A4:List (Nat×Arr):=[]
noncomputable def b1w:Code:=(l9 [1,1,0,1,0,0,1,1,0,0,1,0,1] (Try.f22.body.getD .skip))
def b0A(E:m6)(w0:o3)(N0:D→D→D→D→b7→Prop)(Q:D→b7→Prop):r4→List D→b7→Prop:=
 (t7 2 (t7 1 (I5 Try.prog E w0 A5 A6 A4 (l9 [1,1,0,1,0,0,1,1,1] (Try.f22.body.getD .skip)) (C0 (fun T S=>N0 (T.getD 1 b8) (T.getD 24 b8) (T.getD 25 b8) (T.getD 26 b8) S) (t7 0 (I5 Try.prog E w0 A5 A6 A4 (l9 [1,1,1] (Try.f22.body.getD .skip)) (I4 Try.prog Try.f22 Q)))))))
def a4u(E:m6)(w0:o3)(N0:D→D→D→D→b7→Prop)(Q:D→b7→Prop)(x1 x4 x24 x25 x26 x30:D)(S:b7):Prop:=
 i9 x30
 (Q (.int .i64 3) S)
 (a9 (j0 S 3 x1) fun v26=>
 a9 (j0 S 5 x4) fun v27=>
 o4 Try.prog E w0 a1Y [v26,v27] S fun v28 S29=>
 a9 (unD .not v28) fun v30=>
 i9 v30
 (Q (.int .i64 130) S29)
 (a9 (d8 .add x26 (.int .i64 1)) fun v31=>
 N0 x1 x24 x25 v31 S29))
def L6(E:m6)(w0:o3)(N0:D→D→D→D→b7→Prop)(Q:D→b7→Prop)(x1 x4 x24 x25 x26 x30:D)(S:b7):Prop:=k9 Try.prog E w0 b1w (n9 87 [1,4,24,25,26,30] [x1,x4,x24,x25,x26,x30]) S (b0A E w0 N0 Q)
theorem a7Z{E:m6}{w0:o3}{N0:D→D→D→D→b7→Prop}{Q:D→b7→Prop}{x1 x4 x24 x25 x26 x30:D}{S:b7}(h:a4u E w0 N0 Q x1 x4 x24 x25 x26 x30 S):L6 E w0 N0 Q x1 x4 x24 x25 x26 x30 S:=l8 A5 A6 A4 o9 (by kernel_rfl) h
noncomputable def b1e:Code:=(l9 [1,1,1,1,0,1,0,0,1,1,0,0,1,0,1] (Try.f22.body.getD .skip))
def b0F(E:m6)(w0:o3)(N1:D→D→D→D→b7→Prop)(Q:D→b7→Prop):r4→List D→b7→Prop:=
 (t7 5 (t7 4 (I5 Try.prog E w0 A5 A6 A4 (l9 [1,1,1,1,0,1,0,0,1,1,1] (Try.f22.body.getD .skip)) (C0 (fun T S=>N1 (T.getD 1 b8) (T.getD 52 b8) (T.getD 53 b8) (T.getD 54 b8) S) (t7 3 (I5 Try.prog E w0 A5 A6 A4 (l9 [1,1,1,1,1] (Try.f22.body.getD .skip)) (I4 Try.prog Try.f22 Q)))))))
def a4v(E:m6)(w0:o3)(N1:D→D→D→D→b7→Prop)(Q:D→b7→Prop)(x1 x6 x52 x53 x54 x58:D)(S:b7):Prop:=
 i9 x58
 (Q (.int .i64 3) S)
 (a9 (j0 S 3 x1) fun v58=>
 a9 (j0 S 6 x6) fun v59=>
 o4 Try.prog E w0 a1X [v58,v59] S fun v60 S61=>
 a9 (unD .not v60) fun v62=>
 i9 v62
 (Q (.int .i64 130) S61)
 (a9 (d8 .add x54 (.int .i64 1)) fun v63=>
 N1 x1 x52 x53 v63 S61))
def C3(E:m6)(w0:o3)(N1:D→D→D→D→b7→Prop)(Q:D→b7→Prop)(x1 x6 x52 x53 x54 x58:D)(S:b7):Prop:=k9 Try.prog E w0 b1e (n9 87 [1,6,52,53,54,58] [x1,x6,x52,x53,x54,x58]) S (b0F E w0 N1 Q)
theorem a7X{E:m6}{w0:o3}{N1:D→D→D→D→b7→Prop}{Q:D→b7→Prop}{x1 x6 x52 x53 x54 x58:D}{S:b7}(h:a4v E w0 N1 Q x1 x6 x52 x53 x54 x58 S):C3 E w0 N1 Q x1 x6 x52 x53 x54 x58 S:=l8 A5 A6 A4 o9 (by kernel_rfl) h
noncomputable def a1H:Code:=(l9 [1,1,1,1,0,1,0,0] (Try.f22.body.getD .skip))
def a1I(E:m6)(w0:o3)(Q:D→b7→Prop):r4→List D→b7→Prop:=
 (t7 3 (I5 Try.prog E w0 A5 A6 A4 (l9 [1,1,1,1,1] (Try.f22.body.getD .skip)) (I4 Try.prog Try.f22 Q)))
def a1D(E:m6)(w0:o3)(N1:D→D→D→D→b7→Prop)(Q:D→b7→Prop)(x1 x52 x53 x54:D)(S:b7):Prop:=
 a9 (d8 .lss x54 x53) fun v51=>
 i9 v51
 (a9 (A7 6 x52 x54) fun v52=>
 a9 (j0 S 6 v52) fun v53=>
 o6 S [(.str []), .nilSlc, .nilSlc,(.int .i64 0),(.int .i64 0), .nilSlc] fun v54 S55=>
 f0 S55 6 v54 v53 fun v56 S57=>
 a9 (m8 1 v54) fun v64=>
 a9 (c9 S57 v64) fun v65=>
 a9 (r6 v65) fun v66=>
 a9 (d8 .gtr v66 (.int .i64 32)) fun v67=>
 i9 v67
 (C3 E w0 N1 Q x1 v54 x52 x53 x54 v67 S57)
 (a9 (m8 2 v54) fun v68=>
 a9 (c9 S57 v68) fun v69=>
 a9 (r6 v69) fun v70=>
 a9 (d8 .gtr v70 (.int .i64 8)) fun v71=>
 i9 v71
 (C3 E w0 N1 Q x1 v54 x52 x53 x54 v71 S57)
 (a9 (m8 3 v54) fun v72=>
 a9 (c9 S57 v72) fun v73=>
 a9 (d8 .gtr v73 (.int .i64 256)) fun v74=>
 i9 v74
 (C3 E w0 N1 Q x1 v54 x52 x53 x54 v74 S57)
 (a9 (m8 4 v54) fun v75=>
 a9 (c9 S57 v75) fun v76=>
 a9 (d8 .gtr v76 (.int .i64 4096)) fun v77=>
 i9 v77
 (C3 E w0 N1 Q x1 v54 x52 x53 x54 v77 S57)
 (a9 (m8 5 v54) fun v78=>
 a9 (c9 S57 v78) fun v79=>
 a9 (r6 v79) fun v80=>
 a9 (d8 .gtr v80 (.int .i64 65536)) fun v81=>
 i9 v81
 (C3 E w0 N1 Q x1 v54 x52 x53 x54 v81 S57)
 (a9 (m8 0 v54) fun v82=>
 a9 (c9 S57 v82) fun v83=>
 a9 (a3M v83) fun v84=>
 a9 (d8 .gtr v84 (.int .i64 65536)) fun v85=>
 C3 E w0 N1 Q x1 v54 x52 x53 x54 v85 S57))))))
 (Q (.int .i64 0) S)
theorem a9C{E:m6}{w0:o3}{N1:D→D→D→D→b7→Prop}{Q:D→b7→Prop}{x1 x52 x53 x54:D}{S:b7}(h:a1D E w0 N1 Q x1 x52 x53 x54 S):
  k9 Try.prog E w0 a1H (n9 87 [1,52,53,54] [x1,x52,x53,x54]) S (C0 (fun T S=>N1 (T.getD 1 b8) (T.getD 52 b8) (T.getD 53 b8) (T.getD 54 b8) S) (a1I E w0 Q)):=l8 A5 A6 A4 o9 (by kernel_rfl) h
theorem a9d{E:m6}{w0:o3}{Q:D→b7→Prop}(I:Nat→D→D→D→D→b7→Prop)
  (step:∀n x1 x52 x53 x54 S,I n x1 x52 x53 x54 S→a1D E w0 (fun x1 x52 x53 x54 S=>∃m,m<n∧I m x1 x52 x53 x54 S) Q x1 x52 x53 x54 S)
  {n:Nat} {x1 x52 x53 x54:D} {S:b7} (h:I n x1 x52 x53 x54 S):k9 Try.prog E w0 (.loop a1H) (n9 87 [1,52,53,54] [x1,x52,x53,x54]) S (a1I E w0 Q):=
 r8 (k:=87) (n:=n) (I:=fun n T S=>I n (T.getD 1 b8) (T.getD 52 b8) (T.getD 53 b8) (T.getD 54 b8) S) (fun n T S hl hI=>s6 [1,52,53,54] hl (k9.mono (a9C (step n _ _ _ _ S hI)) fun ex T' S' _ hq=>by cases ex<;>exact hq)) (o7 ..) (Eq.mp (by kernel_rfl) h)
noncomputable def a1M:Code:=(l9 [1,1,0,1,0,0] (Try.f22.body.getD .skip))
def a1F(E:m6)(w0:o3)(Q:D→b7→Prop):r4→List D→b7→Prop:=
 (t7 0 (I5 Try.prog E w0 A5 A6 A4 (l9 [1,1,1] (Try.f22.body.getD .skip)) (I4 Try.prog Try.f22 Q)))
def a1C(E:m6)(w0:o3)(N0:D→D→D→D→b7→Prop)(Q:D→b7→Prop)(x1 x24 x25 x26:D)(S:b7):Prop:=
 a9 (d8 .lss x26 x25) fun v19=>
 i9 v19
 (a9 (A7 5 x24 x26) fun v20=>
 a9 (j0 S 5 v20) fun v21=>
 o6 S [(.int .u8 0),(.str []), .nilSlc,(.int .i64 0),(.int .i64 0)] fun v22 S23=>
 f0 S23 5 v22 v21 fun v24 S25=>
 a9 (m8 2 v22) fun v32=>
 a9 (c9 S25 v32) fun v33=>
 a9 (r6 v33) fun v34=>
 a9 (d8 .gtr v34 (.int .i64 32)) fun v35=>
 i9 v35
 (L6 E w0 N0 Q x1 v22 x24 x25 x26 v35 S25)
 (a9 (m8 1 v22) fun v36=>
 a9 (c9 S25 v36) fun v37=>
 a9 (a3M v37) fun v38=>
 a9 (d8 .gtr v38 (.int .i64 65536)) fun v39=>
 i9 v39
 (L6 E w0 N0 Q x1 v22 x24 x25 x26 v39 S25)
 (a9 (m8 2 v22) fun v40=>
 a9 (c9 S25 v40) fun v41=>
 o4 Try.prog E w0 B8 [v41,(.fn (.func a1K) [] [])] S25 fun v42 S43=>
 L6 E w0 N0 Q x1 v22 x24 x25 x26 v42 S43)))
 (a9 (m8 1 x1) fun v44=>
 a9 (c9 S v44) fun v45=>
 o4 Try.prog E w0 M3 [v45,(.fn (.func a1J) [] [])] S fun v46 S47=>
 i9 v46
 (Q (.int .i64 3) S47)
 (a9 (m8 2 x1) fun v48=>
 a9 (c9 S47 v48) fun v49=>
 a9 (r6 v49) fun v50=>
 k9 Try.prog E w0 (.loop a1H) (n9 87 [1,52,53,54] [x1,v49,v50,(.int .i64 0)]) S47 (a1I E w0 Q)))
theorem a9W{E:m6}{w0:o3}{N0:D→D→D→D→b7→Prop}{Q:D→b7→Prop}{x1 x24 x25 x26:D}{S:b7}(h:a1C E w0 N0 Q x1 x24 x25 x26 S):
  k9 Try.prog E w0 a1M (n9 87 [1,24,25,26] [x1,x24,x25,x26]) S (C0 (fun T S=>N0 (T.getD 1 b8) (T.getD 24 b8) (T.getD 25 b8) (T.getD 26 b8) S) (a1F E w0 Q)):=l8 A5 A6 A4 o9 (by kernel_rfl) h
theorem a8K{E:m6}{w0:o3}{Q:D→b7→Prop}(I:Nat→D→D→D→D→b7→Prop)
  (step:∀n x1 x24 x25 x26 S,I n x1 x24 x25 x26 S→a1C E w0 (fun x1 x24 x25 x26 S=>∃m,m<n∧I m x1 x24 x25 x26 S) Q x1 x24 x25 x26 S)
  {n:Nat} {x1 x24 x25 x26:D} {S:b7} (h:I n x1 x24 x25 x26 S):k9 Try.prog E w0 (.loop a1M) (n9 87 [1,24,25,26] [x1,x24,x25,x26]) S (a1F E w0 Q):=
 r8 (k:=87) (n:=n) (I:=fun n T S=>I n (T.getD 1 b8) (T.getD 24 b8) (T.getD 25 b8) (T.getD 26 b8) S) (fun n T S hl hI=>s6 [1,24,25,26] hl (k9.mono (a9W (step n _ _ _ _ S hI)) fun ex T' S' _ hq=>by cases ex<;>exact hq)) (o7 ..) (Eq.mp (by kernel_rfl) h)
def a6Y(E:m6)(w0:o3)(Q:D→b7→Prop)(a0:D)(S:b7):Prop:=
 a9 (r7 a0) fun cs=>o6 S cs fun v0 S1=>
 a9 (m8 0 v0) fun v2=>
 a9 (c9 S1 v2) fun v3=>
 a9 (r6 v3) fun v4=>
 a9 (d8 .gtr v4 (.int .i64 256)) fun v5=>
 a9 (j9 (d6 v5 false) (m8 1 v0)) fun v6=>
 a9 (j9 (d6 v5 false) (c9 S1 v6)) fun v7=>
 a9 (j9 (d6 v5 false) (r6 v7)) fun v8=>
 a9 (j9 (d6 v5 false) (d8 .gtr v8 (.int .i64 32768))) fun v9=>
 a9 (z2 v5 (.bool true) v9) fun v10=>
 a9 (j9 (d6 v10 false) (m8 2 v0)) fun v11=>
 a9 (j9 (d6 v10 false) (c9 S1 v11)) fun v12=>
 a9 (j9 (d6 v10 false) (r6 v12)) fun v13=>
 a9 (j9 (d6 v10 false) (d8 .gtr v13 (.int .i64 256))) fun v14=>
 a9 (z2 v10 (.bool true) v14) fun v15=>
 i9 v15
 (Q (.int .i64 3) S1)
 (a9 (m8 0 v0) fun v16=>
 a9 (c9 S1 v16) fun v17=>
 a9 (r6 v17) fun v18=>
 k9 Try.prog E w0 (.loop a1M) (n9 87 [1,24,25,26] [v0,v17,v18,(.int .i64 0)]) S1 (a1F E w0 Q))
theorem b2v{E:m6}{w0:o3}{Q:D→b7→Prop}{a0:D}{S:b7}(h:a6Y E w0 (d9 E Q) a0 S):o4 Try.prog E w0 R6 [a0] S Q:=
 m9 A5 A6 A4 (fn:=Try.f22) (c:=Try.f22.body.getD .skip) o9 Try.func22 (by kernel_rfl) (by kernel_rfl) h
def b1o:List (Nat×List Nat):=[]
def b1x:List (Nat×List Nat):=[]
def b2u:List (Nat×Arr):=[]
def a4I(E:m6)(w0:o3)(Q:D→b7→Prop)(a0:D)(S:b7):Prop:=
 a9 (r7 a0) fun cs=>o6 S cs fun v0 S1=>
 a9 (m8 0 v0) fun v2=>
 a9 (c9 S1 v2) fun v3=>
 a9 (a3M v3) fun v4=>
 a9 (d8 .gtr v4 (.int .i64 65536)) fun v5=>
 Q v5 S1
theorem a9H{E:m6}{w0:o3}{Q:D→b7→Prop}{a0:D}{S:b7}(h:a4I E w0 (d9 E Q) a0 S):o4 Try.prog E w0 a1K [a0] S Q:=
 m9 b1o b1x b2u (fn:=Try.f44) (c:=Try.f44.body.getD .skip) o9 Try.func44 (by kernel_rfl) (by kernel_rfl) h
def b1s:List (Nat×List Nat):=[]
def b1t:List (Nat×List Nat):=[]
def b1V:List (Nat×Arr):=[]
def a4L(E:m6)(w0:o3)(Q:D→b7→Prop)(a0:D)(S:b7):Prop:=
 a9 (a3M a0) fun v0=>
 a9 (d8 .gtr v0 (.int .i64 65536)) fun v1=>
 Q v1 S
theorem a8Y{E:m6}{w0:o3}{Q:D→b7→Prop}{a0:D}{S:b7}(h:a4L E w0 (d9 E Q) a0 S):o4 Try.prog E w0 a1J [a0] S Q:=
 m9 b1s b1t b1V (fn:=Try.f47) (c:=Try.f47.body.getD .skip) o9 Try.func47 (by kernel_rfl) (by kernel_rfl) h
def a2J:List (Nat×List Nat):=[]
def a2I:List (Nat×List Nat):=[]
def a2K:List (Nat×Arr):=[]
def X2(E:m6)(w0:o3)(Q:D→b7→Prop)(a0 a1:D)(S:b7):Prop:=
 o4 Try.prog E w0 M2 [a0,a1] S fun v0 S1=>
 a9 (d8 .geq v0 (.int .i64 0)) fun v2=>
 Q v2 S1
theorem a2b{E:m6}{w0:o3}{Q:D→b7→Prop}{a0 a1:D}{S:b7}(h:X2 E w0 (d9 E Q) a0 a1 S):o4 Try.prog E w0 B8 [a0,a1] S Q:=
 m9 a2J a2I a2K (fn:=Try.f43) (c:=Try.f43.body.getD .skip) o9 Try.func43 (by kernel_rfl) (by kernel_rfl) h
def a4j:List (Nat×List Nat):=[]
def a4g:List (Nat×List Nat):=[]
def a4p:List (Nat×Arr):=[]
def a0z(E:m6)(w0:o3)(Q:D→b7→Prop)(a0 a1:D)(S:b7):Prop:=
 o4 Try.prog E w0 Q4 [a0,a1] S fun v0 S1=>
 a9 (d8 .geq v0 (.int .i64 0)) fun v2=>
 Q v2 S1
theorem a3g{E:m6}{w0:o3}{Q:D→b7→Prop}{a0 a1:D}{S:b7}(h:a0z E w0 (d9 E Q) a0 a1 S):o4 Try.prog E w0 M3 [a0,a1] S Q:=
 m9 a4j a4g a4p (fn:=Try.f46) (c:=Try.f46.body.getD .skip) o9 Try.func46 (by kernel_rfl) (by kernel_rfl) h
def a6y:List (Nat×List Nat):=[]
def a5Q:List (Nat×List Nat):=[]
def a5N:List (Nat×Arr):=[]
def a1z(E:m6)(w0:o3)(Q:D→b7→Prop)(a0 a1:D)(S:b7):Prop:=
 o4 Try.prog E w0 a0p [a0,a1] S fun v0 S1=>
 a9 (d8 .geq v0 (.int .i64 0)) fun v2=>
 Q v2 S1
theorem a4B{E:m6}{w0:o3}{Q:D→b7→Prop}{a0 a1:D}{S:b7}(h:a1z E w0 (d9 E Q) a0 a1 S):o4 Try.prog E w0 I8 [a0,a1] S Q:=
 m9 a6y a5Q a5N (fn:=Try.f73) (c:=Try.f73.body.getD .skip) o9 Try.func73 (by kernel_rfl) (by kernel_rfl) h
def a3b:List (Nat×List Nat):=[]
def a2C:List (Nat×List Nat):=[]
def a2Z:List (Nat×Arr):=[]
def X3(E:m6)(w0:o3)(Q:D→b7→Prop)(a0 a1:D)(S:b7):Prop:=
 o4 Try.prog E w0 M0 [a0,a1] S fun v0 S1=>
 a9 (d8 .geq v0 (.int .i64 0)) fun v2=>
 Q v2 S1
theorem a1Z{E:m6}{w0:o3}{Q:D→b7→Prop}{a0 a1:D}{S:b7}(h:X3 E w0 (d9 E Q) a0 a1 S):o4 Try.prog E w0 I7 [a0,a1] S Q:=
 m9 a3b a2C a2Z (fn:=Try.f75) (c:=Try.f75.body.getD .skip) o9 Try.func75 (by kernel_rfl) (by kernel_rfl) h
def K7:List (Nat×List Nat):=[(4,[0,1,7,8])]
def L3:List (Nat×List Nat):=[]
def L4:List (Nat×Arr):=[]
noncomputable def J6:Code:=(l9 [1,0,1,0,0] (Try.f68.body.getD .skip))
def J9(E:m6)(w0:o3)(Q:D→b7→Prop):r4→List D→b7→Prop:=
 (t7 0 (I5 Try.prog E w0 K7 L3 L4 (l9 [1,1] (Try.f68.body.getD .skip)) (I4 Try.prog Try.f68 Q)))
def J7(E:m6)(w0:o3)(N0:D→D→D→D→b7→Prop)(Q:D→b7→Prop)(x0 x1 x7 x8:D)(S:b7):Prop:=
 a9 (d8 .lss x8 x7) fun v1=>
 i9 v1
 (a9 (A7 2 x0 x8) fun v2=>
 a9 (j0 S 2 v2) fun v3=>
 a2f Try.prog (o4 Try.prog E w0) S x1 [v3] fun v4 S5=>
 i9 v4
 (Q x8 S5)
 (a9 (d8 .add x8 (.int .i64 1)) fun v6=>
 N0 x0 x1 x7 v6 S5))
 (Q (.int .i64 (-1)) S)
theorem a2A{E:m6}{w0:o3}{N0:D→D→D→D→b7→Prop}{Q:D→b7→Prop}{x0 x1 x7 x8:D}{S:b7}(h:J7 E w0 N0 Q x0 x1 x7 x8 S):
  k9 Try.prog E w0 J6 (n9 19 [0,1,7,8] [x0,x1,x7,x8]) S (C0 (fun T S=>N0 (T.getD 0 b8) (T.getD 1 b8) (T.getD 7 b8) (T.getD 8 b8) S) (J9 E w0 Q)):=l8 K7 L3 L4 o9 (by kernel_rfl) h
theorem a2y{E:m6}{w0:o3}{Q:D→b7→Prop}(I:Nat→D→D→D→D→b7→Prop)
  (step:∀n x0 x1 x7 x8 S,I n x0 x1 x7 x8 S→J7 E w0 (fun x0 x1 x7 x8 S=>∃m,m<n∧I m x0 x1 x7 x8 S) Q x0 x1 x7 x8 S)
  {n:Nat} {x0 x1 x7 x8:D} {S:b7} (h:I n x0 x1 x7 x8 S):k9 Try.prog E w0 (.loop J6) (n9 19 [0,1,7,8] [x0,x1,x7,x8]) S (J9 E w0 Q):=
 r8 (k:=19) (n:=n) (I:=fun n T S=>I n (T.getD 0 b8) (T.getD 1 b8) (T.getD 7 b8) (T.getD 8 b8) S) (fun n T S hl hI=>s6 [0,1,7,8] hl (k9.mono (a2A (step n _ _ _ _ S hI)) fun ex T' S' _ hq=>by cases ex<;>exact hq)) (o7 ..) (Eq.mp (by kernel_rfl) h)
def a0v(E:m6)(w0:o3)(Q:D→b7→Prop)(a0 a1:D)(S:b7):Prop:=
 a9 (r6 a0) fun v0=>
 k9 Try.prog E w0 (.loop J6) (n9 19 [0,1,7,8] [a0,a1,v0,(.int .i64 0)]) S (J9 E w0 Q)
theorem a3i{E:m6}{w0:o3}{Q:D→b7→Prop}{a0 a1:D}{S:b7}(h:a0v E w0 (d9 E Q) a0 a1 S):o4 Try.prog E w0 M2 [a0,a1] S Q:=
 m9 K7 L3 L4 (fn:=Try.f68) (c:=Try.f68.body.getD .skip) o9 Try.func68 (by kernel_rfl) (by kernel_rfl) h
def P6:List (Nat×List Nat):=[(4,[0,1,7,8])]
def P0:List (Nat×List Nat):=[]
def P2:List (Nat×Arr):=[]
noncomputable def M9:Code:=(l9 [1,0,1,0,0] (Try.f71.body.getD .skip))
def M8(E:m6)(w0:o3)(Q:D→b7→Prop):r4→List D→b7→Prop:=
 (t7 0 (I5 Try.prog E w0 P6 P0 P2 (l9 [1,1] (Try.f71.body.getD .skip)) (I4 Try.prog Try.f71 Q)))
def N4(E:m6)(w0:o3)(N0:D→D→D→D→b7→Prop)(Q:D→b7→Prop)(x0 x1 x7 x8:D)(S:b7):Prop:=
 a9 (d8 .lss x8 x7) fun v1=>
 i9 v1
 (a9 (A7 1 x0 x8) fun v2=>
 a9 (c9 S v2) fun v3=>
 a2f Try.prog (o4 Try.prog E w0) S x1 [v3] fun v4 S5=>
 i9 v4
 (Q x8 S5)
 (a9 (d8 .add x8 (.int .i64 1)) fun v6=>
 N0 x0 x1 x7 v6 S5))
 (Q (.int .i64 (-1)) S)
theorem a3K{E:m6}{w0:o3}{N0:D→D→D→D→b7→Prop}{Q:D→b7→Prop}{x0 x1 x7 x8:D}{S:b7}(h:N4 E w0 N0 Q x0 x1 x7 x8 S):
  k9 Try.prog E w0 M9 (n9 19 [0,1,7,8] [x0,x1,x7,x8]) S (C0 (fun T S=>N0 (T.getD 0 b8) (T.getD 1 b8) (T.getD 7 b8) (T.getD 8 b8) S) (M8 E w0 Q)):=l8 P6 P0 P2 o9 (by kernel_rfl) h
theorem a3A{E:m6}{w0:o3}{Q:D→b7→Prop}(I:Nat→D→D→D→D→b7→Prop)
  (step:∀n x0 x1 x7 x8 S,I n x0 x1 x7 x8 S→N4 E w0 (fun x0 x1 x7 x8 S=>∃m,m<n∧I m x0 x1 x7 x8 S) Q x0 x1 x7 x8 S)
  {n:Nat} {x0 x1 x7 x8:D} {S:b7} (h:I n x0 x1 x7 x8 S):k9 Try.prog E w0 (.loop M9) (n9 19 [0,1,7,8] [x0,x1,x7,x8]) S (M8 E w0 Q):=
 r8 (k:=19) (n:=n) (I:=fun n T S=>I n (T.getD 0 b8) (T.getD 1 b8) (T.getD 7 b8) (T.getD 8 b8) S) (fun n T S hl hI=>s6 [0,1,7,8] hl (k9.mono (a3K (step n _ _ _ _ S hI)) fun ex T' S' _ hq=>by cases ex<;>exact hq)) (o7 ..) (Eq.mp (by kernel_rfl) h)
def a1A(E:m6)(w0:o3)(Q:D→b7→Prop)(a0 a1:D)(S:b7):Prop:=
 a9 (r6 a0) fun v0=>
 k9 Try.prog E w0 (.loop M9) (n9 19 [0,1,7,8] [a0,a1,v0,(.int .i64 0)]) S (M8 E w0 Q)
theorem a4A{E:m6}{w0:o3}{Q:D→b7→Prop}{a0 a1:D}{S:b7}(h:a1A E w0 (d9 E Q) a0 a1 S):o4 Try.prog E w0 Q4 [a0,a1] S Q:=
 m9 P6 P0 P2 (fn:=Try.f71) (c:=Try.f71.body.getD .skip) o9 Try.func71 (by kernel_rfl) (by kernel_rfl) h
def Y8:List (Nat×List Nat):=[(4,[0,1,7,8])]
def Y3:List (Nat×List Nat):=[]
def Z2:List (Nat×Arr):=[]
noncomputable def W3:Code:=(l9 [1,0,1,0,0] (Try.f82.body.getD .skip))
def W0(E:m6)(w0:o3)(Q:D→b7→Prop):r4→List D→b7→Prop:=
 (t7 0 (I5 Try.prog E w0 Y8 Y3 Z2 (l9 [1,1] (Try.f82.body.getD .skip)) (I4 Try.prog Try.f82 Q)))
def X0(E:m6)(w0:o3)(N0:D→D→D→D→b7→Prop)(Q:D→b7→Prop)(x0 x1 x7 x8:D)(S:b7):Prop:=
 a9 (d8 .lss x8 x7) fun v1=>
 i9 v1
 (a9 (A7 1 x0 x8) fun v2=>
 a9 (c9 S v2) fun v3=>
 a2f Try.prog (o4 Try.prog E w0) S x1 [v3] fun v4 S5=>
 i9 v4
 (Q x8 S5)
 (a9 (d8 .add x8 (.int .i64 1)) fun v6=>
 N0 x0 x1 x7 v6 S5))
 (Q (.int .i64 (-1)) S)
theorem a5b{E:m6}{w0:o3}{N0:D→D→D→D→b7→Prop}{Q:D→b7→Prop}{x0 x1 x7 x8:D}{S:b7}(h:X0 E w0 N0 Q x0 x1 x7 x8 S):
  k9 Try.prog E w0 W3 (n9 19 [0,1,7,8] [x0,x1,x7,x8]) S (C0 (fun T S=>N0 (T.getD 0 b8) (T.getD 1 b8) (T.getD 7 b8) (T.getD 8 b8) S) (W0 E w0 Q)):=l8 Y8 Y3 Z2 o9 (by kernel_rfl) h
theorem a5c{E:m6}{w0:o3}{Q:D→b7→Prop}(I:Nat→D→D→D→D→b7→Prop)
  (step:∀n x0 x1 x7 x8 S,I n x0 x1 x7 x8 S→X0 E w0 (fun x0 x1 x7 x8 S=>∃m,m<n∧I m x0 x1 x7 x8 S) Q x0 x1 x7 x8 S)
  {n:Nat} {x0 x1 x7 x8:D} {S:b7} (h:I n x0 x1 x7 x8 S):k9 Try.prog E w0 (.loop W3) (n9 19 [0,1,7,8] [x0,x1,x7,x8]) S (W0 E w0 Q):=
 r8 (k:=19) (n:=n) (I:=fun n T S=>I n (T.getD 0 b8) (T.getD 1 b8) (T.getD 7 b8) (T.getD 8 b8) S) (fun n T S hl hI=>s6 [0,1,7,8] hl (k9.mono (a5b (step n _ _ _ _ S hI)) fun ex T' S' _ hq=>by cases ex<;>exact hq)) (o7 ..) (Eq.mp (by kernel_rfl) h)
def a2X(E:m6)(w0:o3)(Q:D→b7→Prop)(a0 a1:D)(S:b7):Prop:=
 a9 (r6 a0) fun v0=>
 k9 Try.prog E w0 (.loop W3) (n9 19 [0,1,7,8] [a0,a1,v0,(.int .i64 0)]) S (W0 E w0 Q)
theorem a6F{E:m6}{w0:o3}{Q:D→b7→Prop}{a0 a1:D}{S:b7}(h:a2X E w0 (d9 E Q) a0 a1 S):o4 Try.prog E w0 a0p [a0,a1] S Q:=
 m9 Y8 Y3 Z2 (fn:=Try.f82) (c:=Try.f82.body.getD .skip) o9 Try.func82 (by kernel_rfl) (by kernel_rfl) h
def L2:List (Nat×List Nat):=[(4,[0,1,7,8])]
def L1:List (Nat×List Nat):=[]
def K6:List (Nat×Arr):=[]
noncomputable def J8:Code:=(l9 [1,0,1,0,0] (Try.f84.body.getD .skip))
def J3(E:m6)(w0:o3)(Q:D→b7→Prop):r4→List D→b7→Prop:=
 (t7 0 (I5 Try.prog E w0 L2 L1 K6 (l9 [1,1] (Try.f84.body.getD .skip)) (I4 Try.prog Try.f84 Q)))
def J4(E:m6)(w0:o3)(N0:D→D→D→D→b7→Prop)(Q:D→b7→Prop)(x0 x1 x7 x8:D)(S:b7):Prop:=
 a9 (d8 .lss x8 x7) fun v1=>
 i9 v1
 (a9 (A7 4 x0 x8) fun v2=>
 a9 (j0 S 4 v2) fun v3=>
 a2f Try.prog (o4 Try.prog E w0) S x1 [v3] fun v4 S5=>
 i9 v4
 (Q x8 S5)
 (a9 (d8 .add x8 (.int .i64 1)) fun v6=>
 N0 x0 x1 x7 v6 S5))
 (Q (.int .i64 (-1)) S)
theorem a2v{E:m6}{w0:o3}{N0:D→D→D→D→b7→Prop}{Q:D→b7→Prop}{x0 x1 x7 x8:D}{S:b7}(h:J4 E w0 N0 Q x0 x1 x7 x8 S):
  k9 Try.prog E w0 J8 (n9 19 [0,1,7,8] [x0,x1,x7,x8]) S (C0 (fun T S=>N0 (T.getD 0 b8) (T.getD 1 b8) (T.getD 7 b8) (T.getD 8 b8) S) (J3 E w0 Q)):=l8 L2 L1 K6 o9 (by kernel_rfl) h
theorem a2z{E:m6}{w0:o3}{Q:D→b7→Prop}(I:Nat→D→D→D→D→b7→Prop)
  (step:∀n x0 x1 x7 x8 S,I n x0 x1 x7 x8 S→J4 E w0 (fun x0 x1 x7 x8 S=>∃m,m<n∧I m x0 x1 x7 x8 S) Q x0 x1 x7 x8 S)
  {n:Nat} {x0 x1 x7 x8:D} {S:b7} (h:I n x0 x1 x7 x8 S):k9 Try.prog E w0 (.loop J8) (n9 19 [0,1,7,8] [x0,x1,x7,x8]) S (J3 E w0 Q):=
 r8 (k:=19) (n:=n) (I:=fun n T S=>I n (T.getD 0 b8) (T.getD 1 b8) (T.getD 7 b8) (T.getD 8 b8) S) (fun n T S hl hI=>s6 [0,1,7,8] hl (k9.mono (a2v (step n _ _ _ _ S hI)) fun ex T' S' _ hq=>by cases ex<;>exact hq)) (o7 ..) (Eq.mp (by kernel_rfl) h)
def a0w(E:m6)(w0:o3)(Q:D→b7→Prop)(a0 a1:D)(S:b7):Prop:=
 a9 (r6 a0) fun v0=>
 k9 Try.prog E w0 (.loop J8) (n9 19 [0,1,7,8] [a0,a1,v0,(.int .i64 0)]) S (J3 E w0 Q)
theorem a3f{E:m6}{w0:o3}{Q:D→b7→Prop}{a0 a1:D}{S:b7}(h:a0w E w0 (d9 E Q) a0 a1 S):o4 Try.prog E w0 M0 [a0,a1] S Q:=
 m9 L2 L1 K6 (fn:=Try.f84) (c:=Try.f84.body.getD .skip) o9 Try.func84 (by kernel_rfl) (by kernel_rfl) h
end Go.Proofs.Ytchnpgddpaonhaa.d
end
