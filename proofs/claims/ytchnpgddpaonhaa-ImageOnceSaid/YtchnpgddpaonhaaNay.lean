/-
  ImageOnceSaid: part Nay of its proof.
-/
import Derived.Test.YtchnpgddpaonhaaNax
import Derived.Test.YtchnpgddpaonhaaRows
import Derived.Test.YtchnpgddpaonhaaNaq
import Derived.KernelRfl
set_option linter.unusedVariables false
set_option linter.unusedSimpArgs false
set_option maxRecDepth 100000
section
open Go.Proofs Go Go.Am Go.Op
namespace Go.Proofs.Ytchnpgddpaonhaa.d
section
def TkQ(S:b7)(r:List Int×List Int×Int)(v:D)(S':b7):Prop:=∃c d,v= .tup [c,d, .int .i64 r.2.2]∧Two S c r.1 d r.2.1 S'
theorem d2o{y:In}(h:isS y=true):1≤y.op∧y.op≤52:=by
 have hs:(lay y.op).isSome=true:=by
  unfold isS at h
  simp only[Bool.and_eq_true]at h
  exact h.1.1
 by_cases c:1≤y.op∧y.op≤52
 ·exact c
 ·exfalso
  rw[←d1g]at hs
  unfold d2n at hs
  have ne:∀p:Int,1≤p→p≤52→(y.op==p)=false:=fun p h1 h2=>by
   rw[b9l];exact decide_eq_false (by omega)
  simp only[ne 6 (by decide) (by decide),ne 7 (by decide) (by decide),ne 8 (by decide) (by decide),ne 50 (by decide) (by decide),ne 36 (by decide) (by decide),ne 37 (by decide) (by decide),ne 38 (by decide) (by decide),ne 23 (by decide) (by decide),ne 24 (by decide) (by decide),ne 46 (by decide) (by decide),ne 47 (by decide) (by decide),ne 48 (by decide) (by decide),Bool.false_or]at hs
  rw[if_neg (by omega),if_neg (by omega),if_neg (by omega),if_neg (by simp;omega),if_neg (by simp),if_neg (by simp),if_neg (by simp;omega),if_neg (by omega),if_neg (by simp),if_neg (by omega),if_neg (by omega),if_neg (by simp;omega)]at hs
  cases hs
section
variable{E:l9}{w0:o0}
theorem c1x{l:List Int}{d:D}(hl:l.length<2^40)(he:c4u d .nilSlc=some false)(hr:∀S,rowsS S 1 d=some (iC l)){S:b7}:n9 Try.prog E w0 N7 [d] S fun d S'=>Own S d l S':=by
 refine a2W ?_
 unfold a1R
 rw[he,eqE,oD,cdF]
 refine c2V (rows:=[]) fun k acs n=> ?_
 simp only[y8,hr,a4o]
 by_cases hn:iC l=[]
 ·rw[if_pos hn]
  have:l=[]:=by
   cases l with
   |nil=>rfl
   |cons a l=>simp[iC,A4]at hn
  subst this
  exact d8.here (.inr ⟨k,acs,true,n,rfl,rfl⟩)
 ·rw[if_neg hn,b7.set_same]
  simp only
  rw[if_pos ⟨by trivial,by trivial,by simp⟩]
  refine⟨by simp;omega, .inr fun k' acs' hk'=> ?_⟩
  rw[b7.erase_set _ _ _ n]at hk' ⊢
  refine d8.here (.inr ⟨k',acs',false,hk', ?_, ?_⟩)<;>simp
theorem c5F{l:List Int}(hl:l.length<2^40){S:b7}:n9 Try.prog E w0 N7 [iD l] S fun d S'=>Own S d l S':=by
 cases l with
 |nil=>
  refine DF.split (pre:=[]) (post:=[]) (a2W ?_) (c1x (by decide) rfl fun S=>by simp[rowsS,K7,iC,A4])
  unfold a1R
  rw[show b1n .eql (c4u .nilSlc .nilSlc)=some (.bool true) from rfl,oD,cdT]
  exact d8.here (Own.nil _)
 |cons a l=>exact c1x hl rfl fun S=>c7V S _
variable{S B S':b7}{k8:Nat}{y:In}{m:Mo}
theorem c7s{r:List Int×List Int×Bool}{c d:D}{a:List AV}(hB:S.le B)(h8:B k8=some ⟨3,[[c,d, .bool r.2.2]],a⟩)(g:Two B c r.1 d r.2.1 S')(e:a0Z y m=if r.2.2=true then(r.1,r.2.1,0) else([],[],2)):
  H5 E w0 (d8 E (TkQ S (a0Z y m))) (.ptr k8 0) S':=by
 refine b4n ?_
 unfold b1z
 have h:=g.le _ _ h8
 simp only[I4,oD,Nat.zero_add,ldP h,List.getElem?_cons_zero,List.getElem?_cons_succ,unN]
 obtain⟨S'',l,g''⟩:=g.base hB
 cases hr:r.2.2 with
 |false=>
  rw[Bool.not_false,cdT]
  rw[hr,if_neg (by simp)]at e
  rw[e]
  exact d8.less (b7.le_trans hB g.le) (d8.here ⟨.nilSlc, .nilSlc,rfl,S,Own.nil _,Own.nil _⟩)
 |true=>
  rw[Bool.not_true,cdF]
  rw[hr,if_pos rfl]at e
  rw[e]
  exact d8.less l (d8.here ⟨c,d,rfl,g''⟩)
theorem b8Y{r:List Int×List Int×Bool}{c d:D}{a:List AV}(hB:S.le B)(hn:S k8=none)(h8:B k8=some ⟨3,[[.nilSlc, .nilSlc, .bool false]],a⟩)(g:Two B c r.1 d r.2.1 S')(e:a0Z y m=if r.2.2=true then(r.1,r.2.1,0) else([],[],2)):
  f0 S' 3 (.ptr k8 0) (efD c d r.2.2) fun _ S8=>H5 E w0 (d8 E (TkQ S (a0Z y m))) (.ptr k8 0) S8:=by
 refine stP (ds:=[c,d, .bool r.2.2]) (g.le _ _ h8) (clA _) ⟨rfl,by decide,by simp⟩ fun a3=> ?_
 exact c7s (r:=r) (b7.le_set hB hn) (b7.set_same _ _ _) (g.upd h8) e
end
end
section
section
variable{E:l9}{w0:o0}
set_option maxHeartbeats 1000000 in
theorem c3x{y:In}{m:Mo}(hy:y.Ok)(hm:m.Fits){S:b7}:n9 Try.prog E w0 a6s [inD y,moD m] S (TkQ S (a0Z y m)):=by
 refine c0c ?_
 unfold b7m
 rw[inD,clA,oD]
 intro k a n
 rw[moD,clA,oD]
 intro k2 a2 n2
 obtain⟨ne2,n2'⟩:=b7.fresh n2
 generalize hS3:(S.set k _).set k2 _=S3
 have h2:S3 k2=some ⟨3,[moC m],a2⟩:=by rw[←hS3];exact b7.set_same _ _ _
 have h0:S3 k=some ⟨4,[inC y],a⟩:=by rw[←hS3,b7.set_ne _ _ _ (Ne.symm ne2)];exact b7.set_same _ _ _
 have hle:S.le S3:=by rw[←hS3];exact b7.le_set (b7.le_new n) n2'
 clear hS3 n2
 have hok:=hm.ok
 rw[laP h0 (by simp[inC]),oD]
 refine(c4W hy).use ?_
 rw[a1Q,oD,b9l]
 cases his:isS y with
 |false=>
  have e:b9J y=[]:=by unfold b9J;rw[if_neg (by rw[his];simp)]
  rw[e,decide_eq_true (by rfl),cdT]
  have et:a0Z y m=([],[],120):=by unfold a0Z;rw[if_pos his]
  rw[et]
  exact d8.less hle (d8.here ⟨.nilSlc, .nilSlc,rfl,S,Own.nil _,Own.nil _⟩)
 |true=>
 have ns:¬isS y=false:=by rw[his];simp
 have hlen:¬(((b9J y).length:Nat):Int)=0:=by
  unfold b9J
  rw[if_pos his]
  unfold b2o
  simp
  omega
 rw[decide_eq_false hlen,cdF]
 intro k8 a8 n8
 have h8:(S3.set k8 ⟨3,[[.nilSlc, .nilSlc, .bool false]],a8⟩) k8=some ⟨3,[[.nilSlc, .nilSlc, .bool false]],a8⟩:=b7.set_same _ _ _
 have z8:S k8=none:=by
  cases e:S k8 with
  |none=>rfl
  |some o=>rw[hle _ _ e]at n8;cases n8
 have h0':(S3.set k8 ⟨3,[[.nilSlc, .nilSlc, .bool false]],a8⟩) k=some ⟨4,[inC y],a⟩:=by rw[b7.set_ne _ _ _ (fun e=>by rw[←e,h0]at n8;cases n8)];exact h0
 have h2':(S3.set k8 ⟨3,[[.nilSlc, .nilSlc, .bool false]],a8⟩) k2=some ⟨3,[moC m],a2⟩:=by rw[b7.set_ne _ _ _ (fun e=>by rw[←e,h2]at n8;cases n8)];exact h2
 have hle':S.le (S3.set k8 ⟨3,[[.nilSlc, .nilSlc, .bool false]],a8⟩):=b7.le_set hle z8
 have e3:([D.nilSlc, .nilSlc, .bool false]).length=3:=rfl
 rw[e3]
 clear h0 h2 hle
 generalize S3.set k8 ⟨3,[[.nilSlc, .nilSlc, .bool false]],a8⟩=S9 at h8 h0' h2' hle' ⊢
 have l0:c9 S9 (.ptr k 0)=some (.int .u8 y.op):=by rw[ldP h0'];rfl
 have l1:c9 S9 (.ptr k 1)=some (.int .i64 y.a):=by rw[ldP h0'];rfl
 have m1:c9 S9 (.ptr k2 1)=some (b1g m.texts):=by rw[ldP h2'];rfl
 have m2:c9 S9 (.ptr k2 2)=some (b2p m.funcs):=by rw[ldP h2'];rfl
 have li:i9 S9 4 (.ptr k 0)=some (inD y):=by rw[laP h0' (by simp[inC])];rfl
 have lm:i9 S9 3 (.ptr k2 0)=some (moD m):=by rw[laP h2' (by simp[moC])];rfl
 have lx:∀l:List Tx,r6 (b1g l)=some (.int .i64 (l.length:Int)):=fun l=>by simp[b1g]
 have lr:∀l:List Ro,r6 (b2p l)=some (.int .i64 (l.length:Int)):=fun l=>by simp[b2p]
 simp only[I4,oD,Nat.zero_add,l0]
 refine tEq ?_
 rw[O4]
 refine⟨fun h6=> ?_,fun h6=> ?_⟩
 ·have et:a0Z y m=if decide (y.a<m.texts.length)=true then([],[5],0) else([],[],2):=by
   unfold a0Z
   rw[if_neg ns]
   by_cases d:y.a<m.texts.length
   ·rw[if_neg (by omega),if_neg (by omega),if_neg (by omega),if_pos (decide_eq_true d)]
    unfold u5
    rw[if_neg (by omega),if_neg (by omega),if_pos h6]
   ·rw[if_pos (by omega),if_neg (by rw[decide_eq_false d];simp)]
  simp only[oD,l1,m1,lx,M9]
  refine⟨?_, ?_⟩
  ·refine(B9 clN).use ⟨fwR _ _,fwR _ _,C5 (l:=[5]) fun v S4 g1=> ?_⟩
   have f1:r9 (.ptr k 1) S9 S4:=by rw[fwP,g1.le _ _ h0',h0']
   have f2:r9 (.ptr k2 1) S9 S4:=by rw[fwP,g1.le _ _ h2',h2']
   refine⟨f1,f2,(z4 (a:= .nilSlc) (b:= .nilSlc) (c:= .bool true) g1.cells).use ⟨f1,f2,(F6 (a:= .nilSlc) (b:=v) (c:= .bool true) (clB _)).use ?_⟩⟩
   exact b8Y (E:=E) (w0:=w0) (r:=([],[5],decide (y.a<m.texts.length))) hle' z8 h8 ⟨S9,Own.nil _,g1⟩ et
  ·refine C5 (l:=[5]) fun v S4 g1=> ?_
   have f1:r9 (.ptr k 1) S9 S4:=by rw[fwP,g1.le _ _ h0',h0']
   have f2:r9 (.ptr k2 1) S9 S4:=by rw[fwP,g1.le _ _ h2',h2']
   refine⟨f1,f2,(B9 clN).use ⟨f1,f2,(z4 (a:= .nilSlc) (b:= .nilSlc) (c:= .bool true) g1.cells).use ⟨f1,f2,(F6 (a:= .nilSlc) (b:=v) (c:= .bool true) (clB _)).use ?_⟩⟩⟩
   exact b8Y (E:=E) (w0:=w0) (r:=([],[5],decide (y.a<m.texts.length))) hle' z8 h8 ⟨S9,Own.nil _,g1⟩ et
 refine tEq ?_
 rw[O4]
 refine⟨fun h50=> ?_,fun h50=> ?_⟩
 ·simp only[oD,l1,m2,lr,M9]
  rw[O4]
  refine⟨fun hlt=> ?_,fun hlt=> ?_⟩
  ·obtain⟨ha1,ha2⟩:=d3r his h50
   obtain⟨i,hi⟩:∃i:Nat,i=y.a.toNat:=⟨_,rfl⟩
   have hi':y.a=(i:Int):=by omega
   have hil:i<m.funcs.length:=by omega
   obtain⟨r,hr⟩:∃r,r=m.funcs[i]:=⟨_,rfl⟩
   have ea:m.funcs[i]? =some r:=by rw[List.getElem?_eq_getElem hil,hr]
   obtain⟨p1,p2,_⟩:=hm.params r (by rw[hr];exact List.getElem_mem _)
   have ex:D1 6 (b2p m.funcs) (.int .i64 (i:Int))=some (.elt (roR r) 0):=c3o ea
   have et:a0Z y m=(r.params,r.results,0):=by
    unfold a0Z
    rw[if_neg ns,if_neg (by omega),if_pos h50, ←hi,ea]
   rw[hi',ex,oD,show i9 S9 6 (.elt (roR r) 0)=some (.agg (roR r)) from rfl,oD]
   intro k5 a5 n5
   refine stP (ds:=roR r) (b7.set_same _ _ _) (clA _) ⟨rfl,by decide,by simp[roR]⟩ fun a6=> ?_
   rw[b7.set_set]
   have h5:(S9.set k5 ⟨6,[roR r],a6⟩) k5=some ⟨6,[roR r],a6⟩:=b7.set_same _ _ _
   have h8':(S9.set k5 ⟨6,[roR r],a6⟩) k8=some ⟨3,[[.nilSlc, .nilSlc, .bool false]],a8⟩:=by rw[b7.set_ne _ _ _ (fun e=>by rw[←e,h8]at n5;cases n5)];exact h8
   have l5:S.le (S9.set k5 ⟨6,[roR r],a6⟩):=b7.le_trans hle' (b7.le_new n5)
   show a9 (m7 1 (.ptr k5 0)) _
   generalize hS5:S9.set k5 _=S5
   have h5:S5 k5=some ⟨6,[roR r],a6⟩:=by rw[←hS5];exact h5
   have h8':S5 k8=some ⟨3,[[.nilSlc, .nilSlc, .bool false]],a8⟩:=by rw[←hS5];exact h8'
   have l5:S.le S5:=by rw[←hS5];exact l5
   have q1:c9 S5 (.ptr k5 1)=some (iD r.params):=by rw[ldP h5];rfl
   have q2:c9 S5 (.ptr k5 2)=some (iD r.results):=by rw[ldP h5];rfl
   simp only[I4,oD,Nat.zero_add,q1,q2]
   refine(c5F (by omega)).use fun c S4 g1=> ?_
   have f1:r9 (.ptr k5 2) S5 S4:=by rw[fwP,g1.le _ _ h5,h5]
   refine⟨f1,(B9 g1.cells).use ⟨f1,(c5F (by omega)).use fun d S6 g2=>(z4 (a:=c) (b:= .nilSlc) (c:= .bool true) g2.cells).use ?_⟩⟩
   exact b8Y (E:=E) (w0:=w0) (y:=y) (m:=m) (r:=(r.params,r.results,true)) l5 z8 h8' ⟨S4,g1,g2⟩ (by rw[et,if_pos rfl])
  ·exact c7s (r:=([],[],false)) hle' h8 ⟨S9,Own.nil _,Own.nil _⟩ (by unfold a0Z;rw[if_neg ns,if_pos (by omega),if_neg (by simp)])
 refine tIn l0 ?_
 rw[O4]
 refine⟨fun h36=> ?_,fun h36=> ?_⟩
 ·rw[li,oD,lm,oD]
  refine(c5y hy hm (d3C his)).use ?_
  rintro v S' ⟨c,d,rfl,g⟩
  refine b8Y (r:=Y4 y m) hle' z8 h8 g ?_
  unfold a0Z
  rw[if_neg ns,if_neg (by omega),if_neg h50,if_pos h36]
 ·rw[li,oD]
  obtain⟨o1,o2⟩:=d2o his
  refine(c2B hy (by omega)).use ?_
  rintro v S' ⟨c,d,rfl,g⟩
  refine b8Y (r:=((u5 y).1,(u5 y).2,true)) hle' z8 h8 g ?_
  unfold a0Z
  rw[if_neg ns,if_neg (by omega),if_neg h50,if_neg h36,if_pos rfl]
end
end
end Go.Proofs.Ytchnpgddpaonhaa.d
end
section
open Go.Proofs Go Go.Am
namespace Go.Proofs.Ytchnpgddpaonhaa.d
def c0y:List (Nat×List Nat):=[]
def b9k:List (Nat×List Nat):=[]
def b9a:List (Nat×Arr):=[]
def b2M(E:l9)(w0:o0)(Q:D→b7→Prop)(a0 a1:D)(S:b7):Prop:=
 a9 (r4 a0) fun cs=>o4 S cs fun v0 S1=>
 a9 (d9 .leq (.int .i64 1) a1) fun v2=>
 a9 (j8 (d6 v2 true) (some a1)) fun v3=>
 a9 (j8 (d6 v2 true) (d9 .leq v3 (.int .i64 5))) fun v4=>
 a9 (w8 v2 v4 (.bool false)) fun v5=>
 a9 (j8 (d6 v5 false) (some a1)) fun v6=>
 a9 (j8 (d6 v5 false) (d9 .geq v6 (.int .i64 16))) fun v7=>
 a9 (j8 (d6 v5 false) (some v7)) fun v8=>
 a9 (j8 (d6 v8 true) (some a1)) fun v9=>
 a9 (j8 (d6 v8 true) (d9 .sub v9 (.int .i64 16))) fun v10=>
 a9 (j8 (d6 v8 true) (m7 0 v0)) fun v11=>
 a9 (j8 (d6 v8 true) (c9 S1 v11)) fun v12=>
 a9 (j8 (d6 v8 true) (r6 v12)) fun v13=>
 a9 (j8 (d6 v8 true) (d9 .lss v10 v13)) fun v14=>
 a9 (j8 (d6 v5 false) (w8 v8 v14 (.bool false))) fun v15=>
 a9 (w8 v5 (.bool true) v15) fun v16=>
 Q v16 S1
theorem b5Z{E:l9}{w0:o0}{Q:D→b7→Prop}{a0 a1:D}{S:b7}(h:b2M E w0 (d8 E Q) a0 a1 S):n9 Try.prog E w0 Q5 [a0,a1] S Q:=
 m6 c0y b9k b9a (fn:=Try.f69) (c:=Try.f69.body.getD .skip) o7 Try.func69 (by kernel_rfl) (by kernel_rfl) h
def b5G:List (Nat×List Nat):=[]
def b6k:List (Nat×List Nat):=[]
def b6u:List (Nat×Arr):=[]
def a9C(E:l9)(w0:o0)(Q:D→b7→Prop)(a0 a1:D)(S:b7):Prop:=
 a9 (r4 a0) fun cs=>o4 S cs fun v0 S1=>
 a9 (r4 a1) fun cs=>o4 S1 cs fun v2 S3=>
 a9 (m7 1 v2) fun v4=>
 a9 (c9 S3 v4) fun v5=>
 a9 (b7Y .eql v5 (.str [])) fun v6=>
 a9 (j8 (d6 v6 true) (m7 2 v2)) fun v7=>
 a9 (j8 (d6 v6 true) (c9 S3 v7)) fun v8=>
 a9 (j8 (d6 v6 true) (r6 v8)) fun v9=>
 a9 (j8 (d6 v6 true) (d9 .eql v9 (.int .i64 0))) fun v10=>
 a9 (w8 v6 v10 (.bool false)) fun v11=>
 a9 (j8 (d6 v11 true) (i9 S3 3 v0)) fun v12=>
 a9 (j8 (d6 v11 true) (m7 3 v2)) fun v13=>
 a9 (j8 (d6 v11 true) (c9 S3 v13)) fun v14=>
 a4g (d6 v11 true) (fun K=>n9 Try.prog E w0 Q5 [v12,v14] S3 K) S3 fun v15 S16=>
 a9 (w8 v11 v15 (.bool false)) fun v17=>
 a9 (m7 0 v2) fun v18=>
 a9 (c9 S16 v18) fun v19=>
 a9 (d9 .eql v19 (.int .u8 6)) fun v20=>
 j0 v20
 (a9 (m7 3 v2) fun v21=>
 a9 (c9 S16 v21) fun v22=>
 a9 (d9 .eql v22 (.int .i64 0)) fun v23=>
 a9 (j8 (d6 v23 true) (m7 4 v2)) fun v24=>
 a9 (j8 (d6 v23 true) (c9 S16 v24)) fun v25=>
 a9 (j8 (d6 v23 true) (d9 .eql v25 (.int .i64 0))) fun v26=>
 a9 (w8 v23 v26 (.bool false)) fun v27=>
 a9 (j8 (d6 v27 true) (m7 2 v2)) fun v28=>
 a9 (j8 (d6 v27 true) (c9 S16 v28)) fun v29=>
 a9 (j8 (d6 v27 true) (some (.fn (.func a0x) [] [v0]))) fun v30=>
 a4g (d6 v27 true) (fun K=>n9 Try.prog E w0 B4 [v29,v30] S16 K) S16 fun v31 S32=>
 a9 (j8 (d6 v27 true) (unD .not v31)) fun v33=>
 a9 (w8 v27 v33 (.bool false)) fun v34=>
 Q v34 S32)
 (a9 (d9 .eql v19 (.int .u8 7)) fun v35=>
 j0 v35
 (a9 (j8 (d6 v17 true) (m7 4 v2)) fun v36=>
 a9 (j8 (d6 v17 true) (c9 S16 v36)) fun v37=>
 a9 (j8 (d6 v17 true) (d9 .geq v37 (.int .i64 0))) fun v38=>
 a9 (w8 v17 v38 (.bool false)) fun v39=>
 a9 (j8 (d6 v39 true) (m7 4 v2)) fun v40=>
 a9 (j8 (d6 v39 true) (c9 S16 v40)) fun v41=>
 a9 (j8 (d6 v39 true) (d9 .leq v41 (.int .i64 65536))) fun v42=>
 a9 (w8 v39 v42 (.bool false)) fun v43=>
 Q v43 S16)
 (a9 (d9 .eql v19 (.int .u8 8)) fun v44=>
 j0 v44
 (a9 (j8 (d6 v17 true) (m7 4 v2)) fun v45=>
 a9 (j8 (d6 v17 true) (c9 S16 v45)) fun v46=>
 a9 (j8 (d6 v17 true) (d9 .eql v46 (.int .i64 0))) fun v47=>
 a9 (w8 v17 v47 (.bool false)) fun v48=>
 Q v48 S16)
 (Q (.bool false) S16)))
theorem b3P{E:l9}{w0:o0}{Q:D→b7→Prop}{a0 a1:D}{S:b7}(h:a9C E w0 (d8 E Q) a0 a1 S):n9 Try.prog E w0 a1H [a0,a1] S Q:=
 m6 b5G b6k b6u (fn:=Try.f45) (c:=Try.f45.body.getD .skip) o7 Try.func45 (by kernel_rfl) (by kernel_rfl) h
def b3c:List (Nat×List Nat):=[]
def b3g:List (Nat×List Nat):=[]
def b3t:List (Nat×Arr):=[]
def a6u(E:l9)(w0:o0)(Q:D→b7→Prop)(a0 c0:D)(S:b7):Prop:=
 a9 (r4 a0) fun cs=>o4 S cs fun v0 S1=>
 a9 (i9 S1 3 c0) fun v2=>
 a9 (m7 1 v0) fun v3=>
 a9 (c9 S1 v3) fun v4=>
 n9 Try.prog E w0 Q5 [v2,v4] S1 fun v5 S6=>
 a9 (unD .not v5) fun v7=>
 Q v7 S6
theorem b0e{E:l9}{w0:o0}{Q:D→b7→Prop}{a0 c0:D}{S:b7}(h:a6u E w0 (d8 E Q) a0 c0 S):n9 Try.prog E w0 a0x [a0,c0] S Q:=
 m6 b3c b3g b3t (fn:=Try.f70) (c:=Try.f70.body.getD .skip) o7 Try.func70 (by kernel_rfl) (by kernel_rfl) h
def b6y:List (Nat×List Nat):=[]
def b5V:List (Nat×List Nat):=[]
def b5K:List (Nat×Arr):=[]
def a9E(E:l9)(w0:o0)(Q:D→b7→Prop)(a0 a1:D)(S:b7):Prop:=
 a9 (r4 a0) fun cs=>o4 S cs fun v0 S1=>
 a9 (r4 a1) fun cs=>o4 S1 cs fun v2 S3=>
 a9 (some (.fn (.func a2r) [] [v0])) fun v4=>
 a9 (m7 1 v2) fun v5=>
 a9 (c9 S3 v5) fun v6=>
 n9 Try.prog E w0 H9 [v6,v4] S3 fun v7 S8=>
 a9 (j8 (d6 v7 false) (m7 2 v2)) fun v9=>
 a9 (j8 (d6 v7 false) (c9 S8 v9)) fun v10=>
 a9 (j8 (d6 v7 false) (some v4)) fun v11=>
 a4g (d6 v7 false) (fun K=>n9 Try.prog E w0 H9 [v10,v11] S8 K) S8 fun v12 S13=>
 a9 (w8 v7 (.bool true) v12) fun v14=>
 a9 (j8 (d6 v14 false) (m7 3 v2)) fun v15=>
 a9 (j8 (d6 v14 false) (c9 S13 v15)) fun v16=>
 a9 (j8 (d6 v14 false) (m7 1 v2)) fun v17=>
 a9 (j8 (d6 v14 false) (c9 S13 v17)) fun v18=>
 a9 (j8 (d6 v14 false) (r6 v18)) fun v19=>
 a9 (j8 (d6 v14 false) (d9 .lss v16 v19)) fun v20=>
 a9 (w8 v14 (.bool true) v20) fun v21=>
 a9 (j8 (d6 v21 false) (m7 4 v2)) fun v22=>
 a9 (j8 (d6 v21 false) (c9 S13 v22)) fun v23=>
 a9 (j8 (d6 v21 false) (d9 .lss v23 (.int .i64 0))) fun v24=>
 a9 (w8 v21 (.bool true) v24) fun v25=>
 j0 v25
 (Q (.bool false) S13)
 (a9 (m7 5 v2) fun v26=>
 a9 (c9 S13 v26) fun v27=>
 n9 Try.prog E w0 b6d [v27] S13 fun v28 S29=>
 a9 (o6 v28 0) fun v30=>
 a9 (o6 v28 1) fun v31=>
 a9 (o6 v28 2) fun v32=>
 a9 (d9 .eql v32 (.int .i64 0)) fun v33=>
 a9 (j8 (d6 v33 true) (some v30)) fun v34=>
 a9 (j8 (d6 v33 true) (some (.fn (.func a2B) [] [v0,v2]))) fun v35=>
 a4g (d6 v33 true) (fun K=>n9 Try.prog E w0 H8 [v34,v35] S29 K) S29 fun v36 S37=>
 a9 (j8 (d6 v33 true) (unD .not v36)) fun v38=>
 a9 (w8 v33 v38 (.bool false)) fun v39=>
 Q v39 S37)
theorem b3x{E:l9}{w0:o0}{Q:D→b7→Prop}{a0 a1:D}{S:b7}(h:a9E E w0 (d8 E Q) a0 a1 S):n9 Try.prog E w0 a1G [a0,a1] S Q:=
 m6 b6y b5V b5K (fn:=Try.f48) (c:=Try.f48.body.getD .skip) o7 Try.func48 (by kernel_rfl) (by kernel_rfl) h
def b3O:List (Nat×List Nat):=[]
def b3b:List (Nat×List Nat):=[]
def b3w:List (Nat×Arr):=[]
def a6v(E:l9)(w0:o0)(Q:D→b7→Prop)(a0 c0:D)(S:b7):Prop:=
 a9 (i9 S 3 c0) fun v0=>
 n9 Try.prog E w0 Q5 [v0,a0] S fun v1 S2=>
 a9 (unD .not v1) fun v3=>
 Q v3 S2
theorem b0D{E:l9}{w0:o0}{Q:D→b7→Prop}{a0 c0:D}{S:b7}(h:a6v E w0 (d8 E Q) a0 c0 S):n9 Try.prog E w0 a2r [a0,c0] S Q:=
 m6 b3O b3b b3w (fn:=Try.f72) (c:=Try.f72.body.getD .skip) o7 Try.func72 (by kernel_rfl) (by kernel_rfl) h
def b3B:List (Nat×List Nat):=[]
def b3G:List (Nat×List Nat):=[]
def b2Z:List (Nat×Arr):=[]
def a6I(E:l9)(w0:o0)(Q:D→b7→Prop)(a0 c0 c1:D)(S:b7):Prop:=
 a9 (r4 a0) fun cs=>o4 S cs fun v0 S1=>
 a9 (i9 S1 4 v0) fun v2=>
 a9 (i9 S1 3 c0) fun v3=>
 n9 Try.prog E w0 a6s [v2,v3] S1 fun v4 S5=>
 a9 (o6 v4 0) fun v6=>
 a9 (o6 v4 1) fun v7=>
 a9 (o6 v4 2) fun v8=>
 a9 (d9 .neq v8 (.int .i64 0)) fun v9=>
 a9 (j8 (d6 v9 false) (m7 0 v0)) fun v10=>
 a9 (j8 (d6 v9 false) (c9 S5 v10)) fun v11=>
 a9 (j8 (d6 v9 false) (d9 .eql v11 (.int .u8 7))) fun v12=>
 a9 (j8 (d6 v9 false) (some v12)) fun v13=>
 a9 (j8 (d6 v13 false) (m7 0 v0)) fun v14=>
 a9 (j8 (d6 v13 false) (c9 S5 v14)) fun v15=>
 a9 (j8 (d6 v13 false) (d9 .eql v15 (.int .u8 8))) fun v16=>
 a9 (j8 (d6 v9 false) (w8 v13 (.bool true) v16)) fun v17=>
 a9 (j8 (d6 v9 false) (some v17)) fun v18=>
 a9 (j8 (d6 v18 true) (m7 1 v0)) fun v19=>
 a9 (j8 (d6 v18 true) (c9 S5 v19)) fun v20=>
 a9 (j8 (d6 v18 true) (m7 3 c1)) fun v21=>
 a9 (j8 (d6 v18 true) (c9 S5 v21)) fun v22=>
 a9 (j8 (d6 v18 true) (d9 .geq v20 v22)) fun v23=>
 a9 (j8 (d6 v9 false) (w8 v18 v23 (.bool false))) fun v24=>
 a9 (w8 v9 (.bool true) v24) fun v25=>
 Q v25 S5
theorem b1o{E:l9}{w0:o0}{Q:D→b7→Prop}{a0 c0 c1:D}{S:b7}(h:a6I E w0 (d8 E Q) a0 c0 c1 S):n9 Try.prog E w0 a2B [a0,c0,c1] S Q:=
 m6 b3B b3G b2Z (fn:=Try.f76) (c:=Try.f76.body.getD .skip) o7 Try.func76 (by kernel_rfl) (by kernel_rfl) h
def A1:List (Nat×List Nat):=[(8,[1,24,25,26]),(32,[1,52,53,54])]
def z9:List (Nat×List Nat):=[(37,[1,4,24,25,26,30]),(97,[1,6,52,53,54,58])]
def A0:List (Nat×Arr):=[]
noncomputable def b0Q:Code:=(l8 [1,1,0,1,0,0,1,1,0,0,1,0,1] (Try.f22.body.getD .skip))
def a9P(E:l9)(w0:o0)(N0:D→D→D→D→b7→Prop)(Q:D→b7→Prop):r0→List D→b7→Prop:=
 (t7 2 (t7 1 (K4 Try.prog E w0 A1 z9 A0 (l8 [1,1,0,1,0,0,1,1,1] (Try.f22.body.getD .skip)) (D8 (fun T S=>N0 (T.getD 1 b8) (T.getD 24 b8) (T.getD 25 b8) (T.getD 26 b8) S) (t7 0 (K4 Try.prog E w0 A1 z9 A0 (l8 [1,1,1] (Try.f22.body.getD .skip)) (J6 Try.prog Try.f22 Q)))))))
def a3V(E:l9)(w0:o0)(N0:D→D→D→D→b7→Prop)(Q:D→b7→Prop)(x1 x4 x24 x25 x26 x30:D)(S:b7):Prop:=
 j0 x30
 (Q (.int .i64 3) S)
 (a9 (i9 S 3 x1) fun v26=>
 a9 (i9 S 5 x4) fun v27=>
 n9 Try.prog E w0 a1H [v26,v27] S fun v28 S29=>
 a9 (unD .not v28) fun v30=>
 j0 v30
 (Q (.int .i64 130) S29)
 (a9 (d9 .add x26 (.int .i64 1)) fun v31=>
 N0 x1 x24 x25 v31 S29))
def K1(E:l9)(w0:o0)(N0:D→D→D→D→b7→Prop)(Q:D→b7→Prop)(x1 x4 x24 x25 x26 x30:D)(S:b7):Prop:=j9 Try.prog E w0 b0Q (m9 87 [1,4,24,25,26,30] [x1,x4,x24,x25,x26,x30]) S (a9P E w0 N0 Q)
theorem a7o{E:l9}{w0:o0}{N0:D→D→D→D→b7→Prop}{Q:D→b7→Prop}{x1 x4 x24 x25 x26 x30:D}{S:b7}(h:a3V E w0 N0 Q x1 x4 x24 x25 x26 x30 S):K1 E w0 N0 Q x1 x4 x24 x25 x26 x30 S:=k9 A1 z9 A0 o7 (by kernel_rfl) h
noncomputable def b0d:Code:=(l8 [1,1,1,1,0,1,0,0,1,1,0,0,1,0,1] (Try.f22.body.getD .skip))
def a9L(E:l9)(w0:o0)(N1:D→D→D→D→b7→Prop)(Q:D→b7→Prop):r0→List D→b7→Prop:=
 (t7 5 (t7 4 (K4 Try.prog E w0 A1 z9 A0 (l8 [1,1,1,1,0,1,0,0,1,1,1] (Try.f22.body.getD .skip)) (D8 (fun T S=>N1 (T.getD 1 b8) (T.getD 52 b8) (T.getD 53 b8) (T.getD 54 b8) S) (t7 3 (K4 Try.prog E w0 A1 z9 A0 (l8 [1,1,1,1,1] (Try.f22.body.getD .skip)) (J6 Try.prog Try.f22 Q)))))))
def a3R(E:l9)(w0:o0)(N1:D→D→D→D→b7→Prop)(Q:D→b7→Prop)(x1 x6 x52 x53 x54 x58:D)(S:b7):Prop:=
 j0 x58
 (Q (.int .i64 3) S)
 (a9 (i9 S 3 x1) fun v58=>
 a9 (i9 S 6 x6) fun v59=>
 n9 Try.prog E w0 a1G [v58,v59] S fun v60 S61=>
 a9 (unD .not v60) fun v62=>
 j0 v62
 (Q (.int .i64 130) S61)
 (a9 (d9 .add x54 (.int .i64 1)) fun v63=>
 N1 x1 x52 x53 v63 S61))
def B8(E:l9)(w0:o0)(N1:D→D→D→D→b7→Prop)(Q:D→b7→Prop)(x1 x6 x52 x53 x54 x58:D)(S:b7):Prop:=j9 Try.prog E w0 b0d (m9 87 [1,6,52,53,54,58] [x1,x6,x52,x53,x54,x58]) S (a9L E w0 N1 Q)
theorem a7L{E:l9}{w0:o0}{N1:D→D→D→D→b7→Prop}{Q:D→b7→Prop}{x1 x6 x52 x53 x54 x58:D}{S:b7}(h:a3R E w0 N1 Q x1 x6 x52 x53 x54 x58 S):B8 E w0 N1 Q x1 x6 x52 x53 x54 x58 S:=k9 A1 z9 A0 o7 (by kernel_rfl) h
noncomputable def a1r:Code:=(l8 [1,1,1,1,0,1,0,0] (Try.f22.body.getD .skip))
def a1u(E:l9)(w0:o0)(Q:D→b7→Prop):r0→List D→b7→Prop:=
 (t7 3 (K4 Try.prog E w0 A1 z9 A0 (l8 [1,1,1,1,1] (Try.f22.body.getD .skip)) (J6 Try.prog Try.f22 Q)))
def a1w(E:l9)(w0:o0)(N1:D→D→D→D→b7→Prop)(Q:D→b7→Prop)(x1 x52 x53 x54:D)(S:b7):Prop:=
 a9 (d9 .lss x54 x53) fun v51=>
 j0 v51
 (a9 (D1 6 x52 x54) fun v52=>
 a9 (i9 S 6 v52) fun v53=>
 o4 S [(.str []), .nilSlc, .nilSlc,(.int .i64 0),(.int .i64 0), .nilSlc] fun v54 S55=>
 f0 S55 6 v54 v53 fun v56 S57=>
 a9 (m7 1 v54) fun v64=>
 a9 (c9 S57 v64) fun v65=>
 a9 (r6 v65) fun v66=>
 a9 (d9 .gtr v66 (.int .i64 32)) fun v67=>
 j0 v67
 (B8 E w0 N1 Q x1 v54 x52 x53 x54 v67 S57)
 (a9 (m7 2 v54) fun v68=>
 a9 (c9 S57 v68) fun v69=>
 a9 (r6 v69) fun v70=>
 a9 (d9 .gtr v70 (.int .i64 8)) fun v71=>
 j0 v71
 (B8 E w0 N1 Q x1 v54 x52 x53 x54 v71 S57)
 (a9 (m7 3 v54) fun v72=>
 a9 (c9 S57 v72) fun v73=>
 a9 (d9 .gtr v73 (.int .i64 256)) fun v74=>
 j0 v74
 (B8 E w0 N1 Q x1 v54 x52 x53 x54 v74 S57)
 (a9 (m7 4 v54) fun v75=>
 a9 (c9 S57 v75) fun v76=>
 a9 (d9 .gtr v76 (.int .i64 4096)) fun v77=>
 j0 v77
 (B8 E w0 N1 Q x1 v54 x52 x53 x54 v77 S57)
 (a9 (m7 5 v54) fun v78=>
 a9 (c9 S57 v78) fun v79=>
 a9 (r6 v79) fun v80=>
 a9 (d9 .gtr v80 (.int .i64 65536)) fun v81=>
 j0 v81
 (B8 E w0 N1 Q x1 v54 x52 x53 x54 v81 S57)
 (a9 (m7 0 v54) fun v82=>
 a9 (c9 S57 v82) fun v83=>
 a9 (a8l v83) fun v84=>
 a9 (d9 .gtr v84 (.int .i64 65536)) fun v85=>
 B8 E w0 N1 Q x1 v54 x52 x53 x54 v85 S57))))))
 (Q (.int .i64 0) S)
theorem a8J{E:l9}{w0:o0}{N1:D→D→D→D→b7→Prop}{Q:D→b7→Prop}{x1 x52 x53 x54:D}{S:b7}(h:a1w E w0 N1 Q x1 x52 x53 x54 S):
  j9 Try.prog E w0 a1r (m9 87 [1,52,53,54] [x1,x52,x53,x54]) S (D8 (fun T S=>N1 (T.getD 1 b8) (T.getD 52 b8) (T.getD 53 b8) (T.getD 54 b8) S) (a1u E w0 Q)):=k9 A1 z9 A0 o7 (by kernel_rfl) h
theorem a9n{E:l9}{w0:o0}{Q:D→b7→Prop}(I:Nat→D→D→D→D→b7→Prop)
  (step:∀n x1 x52 x53 x54 S,I n x1 x52 x53 x54 S→a1w E w0 (fun x1 x52 x53 x54 S=>∃m,m<n∧I m x1 x52 x53 x54 S) Q x1 x52 x53 x54 S)
  {n:Nat} {x1 x52 x53 x54:D} {S:b7} (h:I n x1 x52 x53 x54 S):j9 Try.prog E w0 (.loop a1r) (m9 87 [1,52,53,54] [x1,x52,x53,x54]) S (a1u E w0 Q):=
 s0 (k:=87) (n:=n) (I:=fun n T S=>I n (T.getD 1 b8) (T.getD 52 b8) (T.getD 53 b8) (T.getD 54 b8) S) (fun n T S hl hI=>s5 [1,52,53,54] hl (j9.mono (a8J (step n _ _ _ _ S hI)) fun ex T' S' _ hq=>by cases ex<;>exact hq)) (o8 ..) (Eq.mp (by kernel_rfl) h)
noncomputable def a1o:Code:=(l8 [1,1,0,1,0,0] (Try.f22.body.getD .skip))
def a1x(E:l9)(w0:o0)(Q:D→b7→Prop):r0→List D→b7→Prop:=
 (t7 0 (K4 Try.prog E w0 A1 z9 A0 (l8 [1,1,1] (Try.f22.body.getD .skip)) (J6 Try.prog Try.f22 Q)))
def a1s(E:l9)(w0:o0)(N0:D→D→D→D→b7→Prop)(Q:D→b7→Prop)(x1 x24 x25 x26:D)(S:b7):Prop:=
 a9 (d9 .lss x26 x25) fun v19=>
 j0 v19
 (a9 (D1 5 x24 x26) fun v20=>
 a9 (i9 S 5 v20) fun v21=>
 o4 S [(.int .u8 0),(.str []), .nilSlc,(.int .i64 0),(.int .i64 0)] fun v22 S23=>
 f0 S23 5 v22 v21 fun v24 S25=>
 a9 (m7 2 v22) fun v32=>
 a9 (c9 S25 v32) fun v33=>
 a9 (r6 v33) fun v34=>
 a9 (d9 .gtr v34 (.int .i64 32)) fun v35=>
 j0 v35
 (K1 E w0 N0 Q x1 v22 x24 x25 x26 v35 S25)
 (a9 (m7 1 v22) fun v36=>
 a9 (c9 S25 v36) fun v37=>
 a9 (a8l v37) fun v38=>
 a9 (d9 .gtr v38 (.int .i64 65536)) fun v39=>
 j0 v39
 (K1 E w0 N0 Q x1 v22 x24 x25 x26 v39 S25)
 (a9 (m7 2 v22) fun v40=>
 a9 (c9 S25 v40) fun v41=>
 n9 Try.prog E w0 B4 [v41,(.fn (.func a1v) [] [])] S25 fun v42 S43=>
 K1 E w0 N0 Q x1 v22 x24 x25 x26 v42 S43)))
 (a9 (m7 1 x1) fun v44=>
 a9 (c9 S v44) fun v45=>
 n9 Try.prog E w0 L4 [v45,(.fn (.func a1t) [] [])] S fun v46 S47=>
 j0 v46
 (Q (.int .i64 3) S47)
 (a9 (m7 2 x1) fun v48=>
 a9 (c9 S47 v48) fun v49=>
 a9 (r6 v49) fun v50=>
 j9 Try.prog E w0 (.loop a1r) (m9 87 [1,52,53,54] [x1,v49,v50,(.int .i64 0)]) S47 (a1u E w0 Q)))
theorem a8b{E:l9}{w0:o0}{N0:D→D→D→D→b7→Prop}{Q:D→b7→Prop}{x1 x24 x25 x26:D}{S:b7}(h:a1s E w0 N0 Q x1 x24 x25 x26 S):
  j9 Try.prog E w0 a1o (m9 87 [1,24,25,26] [x1,x24,x25,x26]) S (D8 (fun T S=>N0 (T.getD 1 b8) (T.getD 24 b8) (T.getD 25 b8) (T.getD 26 b8) S) (a1x E w0 Q)):=k9 A1 z9 A0 o7 (by kernel_rfl) h
theorem a8R{E:l9}{w0:o0}{Q:D→b7→Prop}(I:Nat→D→D→D→D→b7→Prop)
  (step:∀n x1 x24 x25 x26 S,I n x1 x24 x25 x26 S→a1s E w0 (fun x1 x24 x25 x26 S=>∃m,m<n∧I m x1 x24 x25 x26 S) Q x1 x24 x25 x26 S)
  {n:Nat} {x1 x24 x25 x26:D} {S:b7} (h:I n x1 x24 x25 x26 S):j9 Try.prog E w0 (.loop a1o) (m9 87 [1,24,25,26] [x1,x24,x25,x26]) S (a1x E w0 Q):=
 s0 (k:=87) (n:=n) (I:=fun n T S=>I n (T.getD 1 b8) (T.getD 24 b8) (T.getD 25 b8) (T.getD 26 b8) S) (fun n T S hl hI=>s5 [1,24,25,26] hl (j9.mono (a8b (step n _ _ _ _ S hI)) fun ex T' S' _ hq=>by cases ex<;>exact hq)) (o8 ..) (Eq.mp (by kernel_rfl) h)
def a6D(E:l9)(w0:o0)(Q:D→b7→Prop)(a0:D)(S:b7):Prop:=
 a9 (r4 a0) fun cs=>o4 S cs fun v0 S1=>
 a9 (m7 0 v0) fun v2=>
 a9 (c9 S1 v2) fun v3=>
 a9 (r6 v3) fun v4=>
 a9 (d9 .gtr v4 (.int .i64 256)) fun v5=>
 a9 (j8 (d6 v5 false) (m7 1 v0)) fun v6=>
 a9 (j8 (d6 v5 false) (c9 S1 v6)) fun v7=>
 a9 (j8 (d6 v5 false) (r6 v7)) fun v8=>
 a9 (j8 (d6 v5 false) (d9 .gtr v8 (.int .i64 32768))) fun v9=>
 a9 (w8 v5 (.bool true) v9) fun v10=>
 a9 (j8 (d6 v10 false) (m7 2 v0)) fun v11=>
 a9 (j8 (d6 v10 false) (c9 S1 v11)) fun v12=>
 a9 (j8 (d6 v10 false) (r6 v12)) fun v13=>
 a9 (j8 (d6 v10 false) (d9 .gtr v13 (.int .i64 256))) fun v14=>
 a9 (w8 v10 (.bool true) v14) fun v15=>
 j0 v15
 (Q (.int .i64 3) S1)
 (a9 (m7 0 v0) fun v16=>
 a9 (c9 S1 v16) fun v17=>
 a9 (r6 v17) fun v18=>
 j9 Try.prog E w0 (.loop a1o) (m9 87 [1,24,25,26] [v0,v17,v18,(.int .i64 0)]) S1 (a1x E w0 Q))
theorem b0B{E:l9}{w0:o0}{Q:D→b7→Prop}{a0:D}{S:b7}(h:a6D E w0 (d8 E Q) a0 S):n9 Try.prog E w0 P8 [a0] S Q:=
 m6 A1 z9 A0 (fn:=Try.f22) (c:=Try.f22.body.getD .skip) o7 Try.func22 (by kernel_rfl) (by kernel_rfl) h
def b1j:List (Nat×List Nat):=[]
def b1r:List (Nat×List Nat):=[]
def b0R:List (Nat×Arr):=[]
def a4l(E:l9)(w0:o0)(Q:D→b7→Prop)(a0:D)(S:b7):Prop:=
 a9 (r4 a0) fun cs=>o4 S cs fun v0 S1=>
 a9 (m7 0 v0) fun v2=>
 a9 (c9 S1 v2) fun v3=>
 a9 (a8l v3) fun v4=>
 a9 (d9 .gtr v4 (.int .i64 65536)) fun v5=>
 Q v5 S1
theorem a9c{E:l9}{w0:o0}{Q:D→b7→Prop}{a0:D}{S:b7}(h:a4l E w0 (d8 E Q) a0 S):n9 Try.prog E w0 a1v [a0] S Q:=
 m6 b1j b1r b0R (fn:=Try.f44) (c:=Try.f44.body.getD .skip) o7 Try.func44 (by kernel_rfl) (by kernel_rfl) h
def b0c:List (Nat×List Nat):=[]
def b1t:List (Nat×List Nat):=[]
def b1i:List (Nat×Arr):=[]
def a4n(E:l9)(w0:o0)(Q:D→b7→Prop)(a0:D)(S:b7):Prop:=
 a9 (a8l a0) fun v0=>
 a9 (d9 .gtr v0 (.int .i64 65536)) fun v1=>
 Q v1 S
theorem a8H{E:l9}{w0:o0}{Q:D→b7→Prop}{a0:D}{S:b7}(h:a4n E w0 (d8 E Q) a0 S):n9 Try.prog E w0 a1t [a0] S Q:=
 m6 b0c b1t b1i (fn:=Try.f47) (c:=Try.f47.body.getD .skip) o7 Try.func47 (by kernel_rfl) (by kernel_rfl) h
def a2t:List (Nat×List Nat):=[]
def a2w:List (Nat×List Nat):=[]
def a2z:List (Nat×Arr):=[]
def U8(E:l9)(w0:o0)(Q:D→b7→Prop)(a0 a1:D)(S:b7):Prop:=
 n9 Try.prog E w0 L5 [a0,a1] S fun v0 S1=>
 a9 (d9 .geq v0 (.int .i64 0)) fun v2=>
 Q v2 S1
theorem a1K{E:l9}{w0:o0}{Q:D→b7→Prop}{a0 a1:D}{S:b7}(h:U8 E w0 (d8 E Q) a0 a1 S):n9 Try.prog E w0 B4 [a0,a1] S Q:=
 m6 a2t a2w a2z (fn:=Try.f43) (c:=Try.f43.body.getD .skip) o7 Try.func43 (by kernel_rfl) (by kernel_rfl) h
def a4d:List (Nat×List Nat):=[]
def a3O:List (Nat×List Nat):=[]
def a3H:List (Nat×Arr):=[]
def a0k(E:l9)(w0:o0)(Q:D→b7→Prop)(a0 a1:D)(S:b7):Prop:=
 n9 Try.prog E w0 O9 [a0,a1] S fun v0 S1=>
 a9 (d9 .geq v0 (.int .i64 0)) fun v2=>
 Q v2 S1
theorem a2O{E:l9}{w0:o0}{Q:D→b7→Prop}{a0 a1:D}{S:b7}(h:a0k E w0 (d8 E Q) a0 a1 S):n9 Try.prog E w0 L4 [a0,a1] S Q:=
 m6 a4d a3O a3H (fn:=Try.f46) (c:=Try.f46.body.getD .skip) o7 Try.func46 (by kernel_rfl) (by kernel_rfl) h
def a4X:List (Nat×List Nat):=[]
def a5d:List (Nat×List Nat):=[]
def a5b:List (Nat×Arr):=[]
def a1k(E:l9)(w0:o0)(Q:D→b7→Prop)(a0 a1:D)(S:b7):Prop:=
 n9 Try.prog E w0 Z7 [a0,a1] S fun v0 S1=>
 a9 (d9 .geq v0 (.int .i64 0)) fun v2=>
 Q v2 S1
theorem a4j{E:l9}{w0:o0}{Q:D→b7→Prop}{a0 a1:D}{S:b7}(h:a1k E w0 (d8 E Q) a0 a1 S):n9 Try.prog E w0 H9 [a0,a1] S Q:=
 m6 a4X a5d a5b (fn:=Try.f73) (c:=Try.f73.body.getD .skip) o7 Try.func73 (by kernel_rfl) (by kernel_rfl) h
def a2m:List (Nat×List Nat):=[]
def a2C:List (Nat×List Nat):=[]
def a2u:List (Nat×Arr):=[]
def U9(E:l9)(w0:o0)(Q:D→b7→Prop)(a0 a1:D)(S:b7):Prop:=
 n9 Try.prog E w0 L3 [a0,a1] S fun v0 S1=>
 a9 (d9 .geq v0 (.int .i64 0)) fun v2=>
 Q v2 S1
theorem a1N{E:l9}{w0:o0}{Q:D→b7→Prop}{a0 a1:D}{S:b7}(h:U9 E w0 (d8 E Q) a0 a1 S):n9 Try.prog E w0 H8 [a0,a1] S Q:=
 m6 a2m a2C a2u (fn:=Try.f75) (c:=Try.f75.body.getD .skip) o7 Try.func75 (by kernel_rfl) (by kernel_rfl) h
def J7:List (Nat×List Nat):=[(4,[0,1,7,8])]
def K9:List (Nat×List Nat):=[]
def K2:List (Nat×Arr):=[]
noncomputable def I7:Code:=(l8 [1,0,1,0,0] (Try.f68.body.getD .skip))
def I8(E:l9)(w0:o0)(Q:D→b7→Prop):r0→List D→b7→Prop:=
 (t7 0 (K4 Try.prog E w0 J7 K9 K2 (l8 [1,1] (Try.f68.body.getD .skip)) (J6 Try.prog Try.f68 Q)))
def J1(E:l9)(w0:o0)(N0:D→D→D→D→b7→Prop)(Q:D→b7→Prop)(x0 x1 x7 x8:D)(S:b7):Prop:=
 a9 (d9 .lss x8 x7) fun v1=>
 j0 v1
 (a9 (D1 2 x0 x8) fun v2=>
 a9 (i9 S 2 v2) fun v3=>
 a1L Try.prog (n9 Try.prog E w0) S x1 [v3] fun v4 S5=>
 j0 v4
 (Q x8 S5)
 (a9 (d9 .add x8 (.int .i64 1)) fun v6=>
 N0 x0 x1 x7 v6 S5))
 (Q (.int .i64 (-1)) S)
theorem a2h{E:l9}{w0:o0}{N0:D→D→D→D→b7→Prop}{Q:D→b7→Prop}{x0 x1 x7 x8:D}{S:b7}(h:J1 E w0 N0 Q x0 x1 x7 x8 S):
  j9 Try.prog E w0 I7 (m9 19 [0,1,7,8] [x0,x1,x7,x8]) S (D8 (fun T S=>N0 (T.getD 0 b8) (T.getD 1 b8) (T.getD 7 b8) (T.getD 8 b8) S) (I8 E w0 Q)):=k9 J7 K9 K2 o7 (by kernel_rfl) h
theorem a2e{E:l9}{w0:o0}{Q:D→b7→Prop}(I:Nat→D→D→D→D→b7→Prop)
  (step:∀n x0 x1 x7 x8 S,I n x0 x1 x7 x8 S→J1 E w0 (fun x0 x1 x7 x8 S=>∃m,m<n∧I m x0 x1 x7 x8 S) Q x0 x1 x7 x8 S)
  {n:Nat} {x0 x1 x7 x8:D} {S:b7} (h:I n x0 x1 x7 x8 S):j9 Try.prog E w0 (.loop I7) (m9 19 [0,1,7,8] [x0,x1,x7,x8]) S (I8 E w0 Q):=
 s0 (k:=19) (n:=n) (I:=fun n T S=>I n (T.getD 0 b8) (T.getD 1 b8) (T.getD 7 b8) (T.getD 8 b8) S) (fun n T S hl hI=>s5 [0,1,7,8] hl (j9.mono (a2h (step n _ _ _ _ S hI)) fun ex T' S' _ hq=>by cases ex<;>exact hq)) (o8 ..) (Eq.mp (by kernel_rfl) h)
def a0f(E:l9)(w0:o0)(Q:D→b7→Prop)(a0 a1:D)(S:b7):Prop:=
 a9 (r6 a0) fun v0=>
 j9 Try.prog E w0 (.loop I7) (m9 19 [0,1,7,8] [a0,a1,v0,(.int .i64 0)]) S (I8 E w0 Q)
theorem a2Q{E:l9}{w0:o0}{Q:D→b7→Prop}{a0 a1:D}{S:b7}(h:a0f E w0 (d8 E Q) a0 a1 S):n9 Try.prog E w0 L5 [a0,a1] S Q:=
 m6 J7 K9 K2 (fn:=Try.f68) (c:=Try.f68.body.getD .skip) o7 Try.func68 (by kernel_rfl) (by kernel_rfl) h
def O6:List (Nat×List Nat):=[(4,[0,1,7,8])]
def O3:List (Nat×List Nat):=[]
def O0:List (Nat×Arr):=[]
noncomputable def M2:Code:=(l8 [1,0,1,0,0] (Try.f71.body.getD .skip))
def L9(E:l9)(w0:o0)(Q:D→b7→Prop):r0→List D→b7→Prop:=
 (t7 0 (K4 Try.prog E w0 O6 O3 O0 (l8 [1,1] (Try.f71.body.getD .skip)) (J6 Try.prog Try.f71 Q)))
def M6(E:l9)(w0:o0)(N0:D→D→D→D→b7→Prop)(Q:D→b7→Prop)(x0 x1 x7 x8:D)(S:b7):Prop:=
 a9 (d9 .lss x8 x7) fun v1=>
 j0 v1
 (a9 (D1 1 x0 x8) fun v2=>
 a9 (c9 S v2) fun v3=>
 a1L Try.prog (n9 Try.prog E w0) S x1 [v3] fun v4 S5=>
 j0 v4
 (Q x8 S5)
 (a9 (d9 .add x8 (.int .i64 1)) fun v6=>
 N0 x0 x1 x7 v6 S5))
 (Q (.int .i64 (-1)) S)
theorem a3o{E:l9}{w0:o0}{N0:D→D→D→D→b7→Prop}{Q:D→b7→Prop}{x0 x1 x7 x8:D}{S:b7}(h:M6 E w0 N0 Q x0 x1 x7 x8 S):
  j9 Try.prog E w0 M2 (m9 19 [0,1,7,8] [x0,x1,x7,x8]) S (D8 (fun T S=>N0 (T.getD 0 b8) (T.getD 1 b8) (T.getD 7 b8) (T.getD 8 b8) S) (L9 E w0 Q)):=k9 O6 O3 O0 o7 (by kernel_rfl) h
theorem a3t{E:l9}{w0:o0}{Q:D→b7→Prop}(I:Nat→D→D→D→D→b7→Prop)
  (step:∀n x0 x1 x7 x8 S,I n x0 x1 x7 x8 S→M6 E w0 (fun x0 x1 x7 x8 S=>∃m,m<n∧I m x0 x1 x7 x8 S) Q x0 x1 x7 x8 S)
  {n:Nat} {x0 x1 x7 x8:D} {S:b7} (h:I n x0 x1 x7 x8 S):j9 Try.prog E w0 (.loop M2) (m9 19 [0,1,7,8] [x0,x1,x7,x8]) S (L9 E w0 Q):=
 s0 (k:=19) (n:=n) (I:=fun n T S=>I n (T.getD 0 b8) (T.getD 1 b8) (T.getD 7 b8) (T.getD 8 b8) S) (fun n T S hl hI=>s5 [0,1,7,8] hl (j9.mono (a3o (step n _ _ _ _ S hI)) fun ex T' S' _ hq=>by cases ex<;>exact hq)) (o8 ..) (Eq.mp (by kernel_rfl) h)
def a1l(E:l9)(w0:o0)(Q:D→b7→Prop)(a0 a1:D)(S:b7):Prop:=
 a9 (r6 a0) fun v0=>
 j9 Try.prog E w0 (.loop M2) (m9 19 [0,1,7,8] [a0,a1,v0,(.int .i64 0)]) S (L9 E w0 Q)
theorem a4h{E:l9}{w0:o0}{Q:D→b7→Prop}{a0 a1:D}{S:b7}(h:a1l E w0 (d8 E Q) a0 a1 S):n9 Try.prog E w0 O9 [a0,a1] S Q:=
 m6 O6 O3 O0 (fn:=Try.f71) (c:=Try.f71.body.getD .skip) o7 Try.func71 (by kernel_rfl) (by kernel_rfl) h
def X5:List (Nat×List Nat):=[(4,[0,1,7,8])]
def X2:List (Nat×List Nat):=[]
def W7:List (Nat×Arr):=[]
noncomputable def U6:Code:=(l8 [1,0,1,0,0] (Try.f82.body.getD .skip))
def U4(E:l9)(w0:o0)(Q:D→b7→Prop):r0→List D→b7→Prop:=
 (t7 0 (K4 Try.prog E w0 X5 X2 W7 (l8 [1,1] (Try.f82.body.getD .skip)) (J6 Try.prog Try.f82 Q)))
def R8(E:l9)(w0:o0)(N0:D→D→D→D→b7→Prop)(Q:D→b7→Prop)(x0 x1 x7 x8:D)(S:b7):Prop:=
 a9 (d9 .lss x8 x7) fun v1=>
 j0 v1
 (a9 (D1 1 x0 x8) fun v2=>
 a9 (c9 S v2) fun v3=>
 a1L Try.prog (n9 Try.prog E w0) S x1 [v3] fun v4 S5=>
 j0 v4
 (Q x8 S5)
 (a9 (d9 .add x8 (.int .i64 1)) fun v6=>
 N0 x0 x1 x7 v6 S5))
 (Q (.int .i64 (-1)) S)
theorem a4z{E:l9}{w0:o0}{N0:D→D→D→D→b7→Prop}{Q:D→b7→Prop}{x0 x1 x7 x8:D}{S:b7}(h:R8 E w0 N0 Q x0 x1 x7 x8 S):
  j9 Try.prog E w0 U6 (m9 19 [0,1,7,8] [x0,x1,x7,x8]) S (D8 (fun T S=>N0 (T.getD 0 b8) (T.getD 1 b8) (T.getD 7 b8) (T.getD 8 b8) S) (U4 E w0 Q)):=k9 X5 X2 W7 o7 (by kernel_rfl) h
theorem a4I{E:l9}{w0:o0}{Q:D→b7→Prop}(I:Nat→D→D→D→D→b7→Prop)
  (step:∀n x0 x1 x7 x8 S,I n x0 x1 x7 x8 S→R8 E w0 (fun x0 x1 x7 x8 S=>∃m,m<n∧I m x0 x1 x7 x8 S) Q x0 x1 x7 x8 S)
  {n:Nat} {x0 x1 x7 x8:D} {S:b7} (h:I n x0 x1 x7 x8 S):j9 Try.prog E w0 (.loop U6) (m9 19 [0,1,7,8] [x0,x1,x7,x8]) S (U4 E w0 Q):=
 s0 (k:=19) (n:=n) (I:=fun n T S=>I n (T.getD 0 b8) (T.getD 1 b8) (T.getD 7 b8) (T.getD 8 b8) S) (fun n T S hl hI=>s5 [0,1,7,8] hl (j9.mono (a4z (step n _ _ _ _ S hI)) fun ex T' S' _ hq=>by cases ex<;>exact hq)) (o8 ..) (Eq.mp (by kernel_rfl) h)
def a2J(E:l9)(w0:o0)(Q:D→b7→Prop)(a0 a1:D)(S:b7):Prop:=
 a9 (r6 a0) fun v0=>
 j9 Try.prog E w0 (.loop U6) (m9 19 [0,1,7,8] [a0,a1,v0,(.int .i64 0)]) S (U4 E w0 Q)
theorem a6i{E:l9}{w0:o0}{Q:D→b7→Prop}{a0 a1:D}{S:b7}(h:a2J E w0 (d8 E Q) a0 a1 S):n9 Try.prog E w0 Z7 [a0,a1] S Q:=
 m6 X5 X2 W7 (fn:=Try.f82) (c:=Try.f82.body.getD .skip) o7 Try.func82 (by kernel_rfl) (by kernel_rfl) h
def K8:List (Nat×List Nat):=[(4,[0,1,7,8])]
def K6:List (Nat×List Nat):=[]
def J8:List (Nat×Arr):=[]
noncomputable def J0:Code:=(l8 [1,0,1,0,0] (Try.f84.body.getD .skip))
def I6(E:l9)(w0:o0)(Q:D→b7→Prop):r0→List D→b7→Prop:=
 (t7 0 (K4 Try.prog E w0 K8 K6 J8 (l8 [1,1] (Try.f84.body.getD .skip)) (J6 Try.prog Try.f84 Q)))
def I5(E:l9)(w0:o0)(N0:D→D→D→D→b7→Prop)(Q:D→b7→Prop)(x0 x1 x7 x8:D)(S:b7):Prop:=
 a9 (d9 .lss x8 x7) fun v1=>
 j0 v1
 (a9 (D1 4 x0 x8) fun v2=>
 a9 (i9 S 4 v2) fun v3=>
 a1L Try.prog (n9 Try.prog E w0) S x1 [v3] fun v4 S5=>
 j0 v4
 (Q x8 S5)
 (a9 (d9 .add x8 (.int .i64 1)) fun v6=>
 N0 x0 x1 x7 v6 S5))
 (Q (.int .i64 (-1)) S)
theorem a2j{E:l9}{w0:o0}{N0:D→D→D→D→b7→Prop}{Q:D→b7→Prop}{x0 x1 x7 x8:D}{S:b7}(h:I5 E w0 N0 Q x0 x1 x7 x8 S):
  j9 Try.prog E w0 J0 (m9 19 [0,1,7,8] [x0,x1,x7,x8]) S (D8 (fun T S=>N0 (T.getD 0 b8) (T.getD 1 b8) (T.getD 7 b8) (T.getD 8 b8) S) (I6 E w0 Q)):=k9 K8 K6 J8 o7 (by kernel_rfl) h
theorem a2i{E:l9}{w0:o0}{Q:D→b7→Prop}(I:Nat→D→D→D→D→b7→Prop)
  (step:∀n x0 x1 x7 x8 S,I n x0 x1 x7 x8 S→I5 E w0 (fun x0 x1 x7 x8 S=>∃m,m<n∧I m x0 x1 x7 x8 S) Q x0 x1 x7 x8 S)
  {n:Nat} {x0 x1 x7 x8:D} {S:b7} (h:I n x0 x1 x7 x8 S):j9 Try.prog E w0 (.loop J0) (m9 19 [0,1,7,8] [x0,x1,x7,x8]) S (I6 E w0 Q):=
 s0 (k:=19) (n:=n) (I:=fun n T S=>I n (T.getD 0 b8) (T.getD 1 b8) (T.getD 7 b8) (T.getD 8 b8) S) (fun n T S hl hI=>s5 [0,1,7,8] hl (j9.mono (a2j (step n _ _ _ _ S hI)) fun ex T' S' _ hq=>by cases ex<;>exact hq)) (o8 ..) (Eq.mp (by kernel_rfl) h)
def a0e(E:l9)(w0:o0)(Q:D→b7→Prop)(a0 a1:D)(S:b7):Prop:=
 a9 (r6 a0) fun v0=>
 j9 Try.prog E w0 (.loop J0) (m9 19 [0,1,7,8] [a0,a1,v0,(.int .i64 0)]) S (I6 E w0 Q)
theorem a2P{E:l9}{w0:o0}{Q:D→b7→Prop}{a0 a1:D}{S:b7}(h:a0e E w0 (d8 E Q) a0 a1 S):n9 Try.prog E w0 L3 [a0,a1] S Q:=
 m6 K8 K6 J8 (fn:=Try.f84) (c:=Try.f84.body.getD .skip) o7 Try.func84 (by kernel_rfl) (by kernel_rfl) h
end Go.Proofs.Ytchnpgddpaonhaa.d
end
