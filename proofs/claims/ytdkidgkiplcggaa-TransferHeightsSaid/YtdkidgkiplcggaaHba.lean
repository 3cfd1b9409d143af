/-
  TransferHeightsSaid: part Hba of its proof.
-/
import Derived.Test.YtdkidgkiplcggaaHaz
import Derived.Test.YtdkidgkiplcggaaRows
import Derived.Test.YtdkidgkiplcggaaHar
import Derived.KernelRfl
set_option linter.unusedVariables false
set_option linter.unusedSimpArgs false
set_option maxRecDepth 100000
section
open Go.Proofs Go Go.Am Go.Op
namespace Go.Proofs.Ytdkidgkiplcggaa.d
section
def TkQ(S:b8)(r:List Int×List Int×Int)(v:D)(S':b8):Prop:=∃c d,v= .tup [c,d, .int .i64 r.2.2]∧Two S c r.1 d r.2.1 S'
theorem d5k{y:In}(h:isS y=true):1≤y.op∧y.op≤52:=by
 have hs:(lay y.op).isSome=true:=by
  unfold isS at h
  simp only[Bool.and_eq_true]at h
  exact h.1.1
 by_cases c:1≤y.op∧y.op≤52
 ·exact c
 ·exfalso
  rw[←d3v]at hs
  unfold d4m at hs
  have ne:∀p:Int,1≤p→p≤52→(y.op==p)=false:=fun p h1 h2=>by
   rw[c7I];exact decide_eq_false (by omega)
  simp only[ne 6 (by decide) (by decide),ne 7 (by decide) (by decide),ne 8 (by decide) (by decide),ne 50 (by decide) (by decide),ne 36 (by decide) (by decide),ne 37 (by decide) (by decide),ne 38 (by decide) (by decide),ne 23 (by decide) (by decide),ne 24 (by decide) (by decide),ne 46 (by decide) (by decide),ne 47 (by decide) (by decide),ne 48 (by decide) (by decide),Bool.false_or]at hs
  rw[if_neg (by omega),if_neg (by omega),if_neg (by omega),if_neg (by simp;omega),if_neg (by simp),if_neg (by simp),if_neg (by simp;omega),if_neg (by omega),if_neg (by simp),if_neg (by omega),if_neg (by omega),if_neg (by simp;omega)]at hs
  cases hs
section
variable{E:j3}{w0:j8}
theorem c3E{l:List Int}{d:D}(hl:l.length<2^40)(he:c7e d .nilSlc=some false)(hr:∀S,rowsS S 1 d=some (iC l)){S:b8}:l8 Try.prog E w0 w9 [d] S fun d S'=>Own S d l S':=by
 refine a0q ?_
 unfold Y6
 rw[he,eqE,oD,cdF]
 refine c5v (rows:=[]) fun k acs n=> ?_
 simp only[u9,hr,a0w]
 by_cases hn:iC l=[]
 ·rw[if_pos hn]
  have:l=[]:=by
   cases l with
   |nil=>rfl
   |cons a l=>simp[iC,C6]at hn
  subst this
  exact i4.here (.inr ⟨k,acs,true,n,rfl,rfl⟩)
 ·rw[if_neg hn,b8.set_same]
  simp only
  rw[if_pos ⟨by trivial,by trivial,by simp⟩]
  refine⟨by simp;omega, .inr fun k' acs' hk'=> ?_⟩
  rw[b8.erase_set _ _ _ n]at hk' ⊢
  refine i4.here (.inr ⟨k',acs',false,hk', ?_, ?_⟩)<;>simp
theorem b4E{l:List Int}(hl:l.length<2^40){S:b8}:l8 Try.prog E w0 w9 [iD l] S fun d S'=>Own S d l S':=by
 cases l with
 |nil=>
  refine DF.split (pre:=[]) (post:=[]) (a0q ?_) (c3E (by decide) rfl fun S=>by simp[rowsS,K3,iC,C6])
  unfold Y6
  rw[show b9u .eql (c7e .nilSlc .nilSlc)=some (.bool true) from rfl,oD,cdT]
  exact i4.here (Own.nil _)
 |cons a l=>exact c3E hl rfl fun S=>b9I S _
variable{S B S':b8}{k8:Nat}{y:In}{m:Mo}
theorem c9f{r:List Int×List Int×Bool}{c d:D}{a:List AV}(hB:S.le B)(h8:B k8=some ⟨3,[[c,d, .bool r.2.2]],a⟩)(g:Two B c r.1 d r.2.1 S')(e:s9 y m=if r.2.2=true then(r.1,r.2.1,0) else([],[],2)):
  F7 E w0 (i4 E (TkQ S (s9 y m))) (.ptr k8 0) S':=by
 refine b6i ?_
 unfold b1u
 have h:=g.le _ _ h8
 simp only[D8,oD,Nat.zero_add,ldP h,List.getElem?_cons_zero,List.getElem?_cons_succ,unN]
 obtain⟨S'',l,g''⟩:=g.base hB
 cases hr:r.2.2 with
 |false=>
  rw[Bool.not_false,cdT]
  rw[hr,if_neg (by simp)]at e
  rw[e]
  exact i4.less (b8.le_trans hB g.le) (i4.here ⟨.nilSlc, .nilSlc,rfl,S,Own.nil _,Own.nil _⟩)
 |true=>
  rw[Bool.not_true,cdF]
  rw[hr,if_pos rfl]at e
  rw[e]
  exact i4.less l (i4.here ⟨c,d,rfl,g''⟩)
theorem c0l{r:List Int×List Int×Bool}{c d:D}{a:List AV}(hB:S.le B)(hn:S k8=none)(h8:B k8=some ⟨3,[[.nilSlc, .nilSlc, .bool false]],a⟩)(g:Two B c r.1 d r.2.1 S')(e:s9 y m=if r.2.2=true then(r.1,r.2.1,0) else([],[],2)):
  i7 S' 3 (.ptr k8 0) (efD c d r.2.2) fun _ S8=>F7 E w0 (i4 E (TkQ S (s9 y m))) (.ptr k8 0) S8:=by
 refine stP (ds:=[c,d, .bool r.2.2]) (g.le _ _ h8) (Q8 _) ⟨rfl,by decide,by simp⟩ fun a3=> ?_
 exact c9f (r:=r) (b8.le_set hB hn) (b8.set_same _ _ _) (g.upd h8) e
end
end
section
section
variable{E:j3}{w0:j8}
set_option maxHeartbeats 1000000 in
theorem b4Z{y:In}{m:Mo}(hy:y.Ok)(hm:m.Fits){S:b8}:l8 Try.prog E w0 a0Q [inD y,moD m] S (TkQ S (s9 y m)):=by
 refine b9V ?_
 unfold b7T
 rw[inD,Q8,oD]
 intro k a n
 rw[moD,Q8,oD]
 intro k2 a2 n2
 obtain⟨ne2,n2'⟩:=b8.fresh n2
 generalize hS3:(S.set k _).set k2 _=S3
 have h2:S3 k2=some ⟨3,[K5 m],a2⟩:=by rw[←hS3];exact b8.set_same _ _ _
 have h0:S3 k=some ⟨4,[O2 y],a⟩:=by rw[←hS3,b8.set_ne _ _ _ (Ne.symm ne2)];exact b8.set_same _ _ _
 have hle:S.le S3:=by rw[←hS3];exact b8.le_set (b8.le_new n) n2'
 clear hS3 n2
 have hok:=hm.ok
 rw[laP h0 (by simp[O2]),oD]
 refine(c5U hy).use ?_
 rw[a7k,oD,c7I]
 cases his:isS y with
 |false=>
  have e:c0h y=[]:=by unfold c0h;rw[if_neg (by rw[his];simp)]
  rw[e,decide_eq_true (by rfl),cdT]
  have et:s9 y m=([],[],120):=by unfold s9;rw[if_pos his]
  rw[et]
  exact i4.less hle (i4.here ⟨.nilSlc, .nilSlc,rfl,S,Own.nil _,Own.nil _⟩)
 |true=>
 have ns:¬isS y=false:=by rw[his];simp
 have hlen:¬(((c0h y).length:Nat):Int)=0:=by
  unfold c0h
  rw[if_pos his]
  unfold b2R
  simp
  omega
 rw[decide_eq_false hlen,cdF]
 intro k8 a8 n8
 have h8:(S3.set k8 ⟨3,[[.nilSlc, .nilSlc, .bool false]],a8⟩) k8=some ⟨3,[[.nilSlc, .nilSlc, .bool false]],a8⟩:=b8.set_same _ _ _
 have z8:S k8=none:=by
  cases e:S k8 with
  |none=>rfl
  |some o=>rw[hle _ _ e]at n8;cases n8
 have h0':(S3.set k8 ⟨3,[[.nilSlc, .nilSlc, .bool false]],a8⟩) k=some ⟨4,[O2 y],a⟩:=by rw[b8.set_ne _ _ _ (fun e=>by rw[←e,h0]at n8;cases n8)];exact h0
 have h2':(S3.set k8 ⟨3,[[.nilSlc, .nilSlc, .bool false]],a8⟩) k2=some ⟨3,[K5 m],a2⟩:=by rw[b8.set_ne _ _ _ (fun e=>by rw[←e,h2]at n8;cases n8)];exact h2
 have hle':S.le (S3.set k8 ⟨3,[[.nilSlc, .nilSlc, .bool false]],a8⟩):=b8.le_set hle z8
 have e3:([D.nilSlc, .nilSlc, .bool false]).length=3:=rfl
 rw[e3]
 clear h0 h2 hle
 generalize S3.set k8 ⟨3,[[.nilSlc, .nilSlc, .bool false]],a8⟩=S9 at h8 h0' h2' hle' ⊢
 have l0:c9 S9 (.ptr k 0)=some (.int .u8 y.op):=by rw[ldP h0'];rfl
 have l1:c9 S9 (.ptr k 1)=some (.int .i64 y.a):=by rw[ldP h0'];rfl
 have m1:c9 S9 (.ptr k2 1)=some (b0c m.texts):=by rw[ldP h2'];rfl
 have m2:c9 S9 (.ptr k2 2)=some (a5s m.funcs):=by rw[ldP h2'];rfl
 have li:i6 S9 4 (.ptr k 0)=some (inD y):=by rw[laP h0' (by simp[O2])];rfl
 have lm:i6 S9 3 (.ptr k2 0)=some (moD m):=by rw[laP h2' (by simp[K5])];rfl
 have lx:∀l:List Tx,m8 (b0c l)=some (.int .i64 (l.length:Int)):=fun l=>by simp[b0c]
 have lr:∀l:List Ro,m8 (a5s l)=some (.int .i64 (l.length:Int)):=fun l=>by simp[a5s]
 simp only[D8,oD,Nat.zero_add,l0]
 refine tEq ?_
 rw[K0]
 refine⟨fun h6=> ?_,fun h6=> ?_⟩
 ·have et:s9 y m=if decide (y.a<m.texts.length)=true then([],[5],0) else([],[],2):=by
   unfold s9
   rw[if_neg ns]
   by_cases d:y.a<m.texts.length
   ·rw[if_neg (by omega),if_neg (by omega),if_neg (by omega),if_pos (decide_eq_true d)]
    unfold r3
    rw[if_neg (by omega),if_neg (by omega),if_pos h6]
   ·rw[if_pos (by omega),if_neg (by rw[decide_eq_false d];simp)]
  simp only[oD,l1,m1,lx,H6]
  refine⟨?_, ?_⟩
  ·refine(B8 clN).use ⟨fwR _ _,fwR _ _,B3 (l:=[5]) fun v S4 g1=> ?_⟩
   have f1:o4 (.ptr k 1) S9 S4:=by rw[fwP,g1.le _ _ h0',h0']
   have f2:o4 (.ptr k2 1) S9 S4:=by rw[fwP,g1.le _ _ h2',h2']
   refine⟨f1,f2,(w5 (a:= .nilSlc) (b:= .nilSlc) (c:= .bool true) g1.cells).use ⟨f1,f2,(E5 (a:= .nilSlc) (b:=v) (c:= .bool true) (clB _)).use ?_⟩⟩
   exact c0l (E:=E) (w0:=w0) (r:=([],[5],decide (y.a<m.texts.length))) hle' z8 h8 ⟨S9,Own.nil _,g1⟩ et
  ·refine B3 (l:=[5]) fun v S4 g1=> ?_
   have f1:o4 (.ptr k 1) S9 S4:=by rw[fwP,g1.le _ _ h0',h0']
   have f2:o4 (.ptr k2 1) S9 S4:=by rw[fwP,g1.le _ _ h2',h2']
   refine⟨f1,f2,(B8 clN).use ⟨f1,f2,(w5 (a:= .nilSlc) (b:= .nilSlc) (c:= .bool true) g1.cells).use ⟨f1,f2,(E5 (a:= .nilSlc) (b:=v) (c:= .bool true) (clB _)).use ?_⟩⟩⟩
   exact c0l (E:=E) (w0:=w0) (r:=([],[5],decide (y.a<m.texts.length))) hle' z8 h8 ⟨S9,Own.nil _,g1⟩ et
 refine tEq ?_
 rw[K0]
 refine⟨fun h50=> ?_,fun h50=> ?_⟩
 ·simp only[oD,l1,m2,lr,H6]
  rw[K0]
  refine⟨fun hlt=> ?_,fun hlt=> ?_⟩
  ·obtain⟨ha1,ha2⟩:=d6e his h50
   obtain⟨i,hi⟩:∃i:Nat,i=y.a.toNat:=⟨_,rfl⟩
   have hi':y.a=(i:Int):=by omega
   have hil:i<m.funcs.length:=by omega
   obtain⟨r,hr⟩:∃r,r=m.funcs[i]:=⟨_,rfl⟩
   have ea:m.funcs[i]? =some r:=by rw[List.getElem?_eq_getElem hil,hr]
   obtain⟨p1,p2,_⟩:=hm.params r (by rw[hr];exact List.getElem_mem _)
   have ex:o7 6 (a5s m.funcs) (.int .i64 (i:Int))=some (.elt (K1 r) 0):=a9c ea
   have et:s9 y m=(r.params,r.results,0):=by
    unfold s9
    rw[if_neg ns,if_neg (by omega),if_pos h50, ←hi,ea]
   rw[hi',ex,oD,show i6 S9 6 (.elt (K1 r) 0)=some (.agg (K1 r)) from rfl,oD]
   intro k5 a5 n5
   refine stP (ds:=K1 r) (b8.set_same _ _ _) (Q8 _) ⟨rfl,by decide,by simp[K1]⟩ fun a6=> ?_
   rw[b8.set_set]
   have h5:(S9.set k5 ⟨6,[K1 r],a6⟩) k5=some ⟨6,[K1 r],a6⟩:=b8.set_same _ _ _
   have h8':(S9.set k5 ⟨6,[K1 r],a6⟩) k8=some ⟨3,[[.nilSlc, .nilSlc, .bool false]],a8⟩:=by rw[b8.set_ne _ _ _ (fun e=>by rw[←e,h8]at n5;cases n5)];exact h8
   have l5:S.le (S9.set k5 ⟨6,[K1 r],a6⟩):=b8.le_trans hle' (b8.le_new n5)
   show b7 (j1 1 (.ptr k5 0)) _
   generalize hS5:S9.set k5 _=S5
   have h5:S5 k5=some ⟨6,[K1 r],a6⟩:=by rw[←hS5];exact h5
   have h8':S5 k8=some ⟨3,[[.nilSlc, .nilSlc, .bool false]],a8⟩:=by rw[←hS5];exact h8'
   have l5:S.le S5:=by rw[←hS5];exact l5
   have q1:c9 S5 (.ptr k5 1)=some (iD r.params):=by rw[ldP h5];rfl
   have q2:c9 S5 (.ptr k5 2)=some (iD r.results):=by rw[ldP h5];rfl
   simp only[D8,oD,Nat.zero_add,q1,q2]
   refine(b4E (by omega)).use fun c S4 g1=> ?_
   have f1:o4 (.ptr k5 2) S5 S4:=by rw[fwP,g1.le _ _ h5,h5]
   refine⟨f1,(B8 g1.cells).use ⟨f1,(b4E (by omega)).use fun d S6 g2=>(w5 (a:=c) (b:= .nilSlc) (c:= .bool true) g2.cells).use ?_⟩⟩
   exact c0l (E:=E) (w0:=w0) (y:=y) (m:=m) (r:=(r.params,r.results,true)) l5 z8 h8' ⟨S4,g1,g2⟩ (by rw[et,if_pos rfl])
  ·exact c9f (r:=([],[],false)) hle' h8 ⟨S9,Own.nil _,Own.nil _⟩ (by unfold s9;rw[if_neg ns,if_pos (by omega),if_neg (by simp)])
 refine tIn l0 ?_
 rw[K0]
 refine⟨fun h36=> ?_,fun h36=> ?_⟩
 ·rw[li,oD,lm,oD]
  refine(c5Q hy hm (d5I his)).use ?_
  rintro v S' ⟨c,d,rfl,g⟩
  refine c0l (r:=P8 y m) hle' z8 h8 g ?_
  unfold s9
  rw[if_neg ns,if_neg (by omega),if_neg h50,if_pos h36]
 ·rw[li,oD]
  obtain⟨o1,o2⟩:=d5k his
  refine(c4k hy (by omega)).use ?_
  rintro v S' ⟨c,d,rfl,g⟩
  refine c0l (r:=((r3 y).1,(r3 y).2,true)) hle' z8 h8 g ?_
  unfold s9
  rw[if_neg ns,if_neg (by omega),if_neg h50,if_neg h36,if_pos rfl]
end
end
end Go.Proofs.Ytdkidgkiplcggaa.d
end
section
open Go.Proofs Go Go.Am
namespace Go.Proofs.Ytdkidgkiplcggaa.d
def c0s:List (Nat×List Nat):=[]
def c0d:List (Nat×List Nat):=[]
def c1V:List (Nat×V1):=[]
def b3r(E:j3)(w0:j8)(Q:D→b8→Prop)(a0 a1:D)(S:b8):Prop:=
 b7 (o5 a0) fun cs=>j6 S cs fun v0 S1=>
 b7 (i5 .leq (.int .i64 1) a1) fun v2=>
 b7 (d9 (d6 v2 true) (some a1)) fun v3=>
 b7 (d9 (d6 v2 true) (i5 .leq v3 (.int .i64 5))) fun v4=>
 b7 (q7 v2 v4 (.bool false)) fun v5=>
 b7 (d9 (d6 v5 false) (some a1)) fun v6=>
 b7 (d9 (d6 v5 false) (i5 .geq v6 (.int .i64 16))) fun v7=>
 b7 (d9 (d6 v5 false) (some v7)) fun v8=>
 b7 (d9 (d6 v8 true) (some a1)) fun v9=>
 b7 (d9 (d6 v8 true) (i5 .sub v9 (.int .i64 16))) fun v10=>
 b7 (d9 (d6 v8 true) (j1 0 v0)) fun v11=>
 b7 (d9 (d6 v8 true) (c9 S1 v11)) fun v12=>
 b7 (d9 (d6 v8 true) (m8 v12)) fun v13=>
 b7 (d9 (d6 v8 true) (i5 .lss v10 v13)) fun v14=>
 b7 (d9 (d6 v5 false) (q7 v8 v14 (.bool false))) fun v15=>
 b7 (q7 v5 (.bool true) v15) fun v16=>
 Q v16 S1
theorem b6Q{E:j3}{w0:j8}{Q:D→b8→Prop}{a0 a1:D}{S:b8}(h:b3r E w0 (i4 E Q) a0 a1 S):l8 Try.prog E w0 Q9 [a0,a1] S Q:=
 j5 c0s c0d c1V (fn:=Try.f134) (c:=Try.f134.body.getD .skip) mixed Try.func134 (by kernel_rfl) (by kernel_rfl) h
def b6W:List (Nat×List Nat):=[]
def b6z:List (Nat×List Nat):=[]
def b7x:List (Nat×V1):=[]
def a9J(E:j3)(w0:j8)(Q:D→b8→Prop)(a0 a1:D)(S:b8):Prop:=
 b7 (o5 a0) fun cs=>j6 S cs fun v0 S1=>
 b7 (o5 a1) fun cs=>j6 S1 cs fun v2 S3=>
 b7 (j1 1 v2) fun v4=>
 b7 (c9 S3 v4) fun v5=>
 b7 (c7w .eql v5 (.str [])) fun v6=>
 b7 (d9 (d6 v6 true) (j1 2 v2)) fun v7=>
 b7 (d9 (d6 v6 true) (c9 S3 v7)) fun v8=>
 b7 (d9 (d6 v6 true) (m8 v8)) fun v9=>
 b7 (d9 (d6 v6 true) (i5 .eql v9 (.int .i64 0))) fun v10=>
 b7 (q7 v6 v10 (.bool false)) fun v11=>
 b7 (d9 (d6 v11 true) (i6 S3 3 v0)) fun v12=>
 b7 (d9 (d6 v11 true) (j1 3 v2)) fun v13=>
 b7 (d9 (d6 v11 true) (c9 S3 v13)) fun v14=>
 V8 (d6 v11 true) (fun K=>l8 Try.prog E w0 Q9 [v12,v14] S3 K) S3 fun v15 S16=>
 b7 (q7 v11 v15 (.bool false)) fun v17=>
 b7 (j1 0 v2) fun v18=>
 b7 (c9 S16 v18) fun v19=>
 b7 (i5 .eql v19 (.int .u8 6)) fun v20=>
 i9 v20
 (b7 (j1 3 v2) fun v21=>
 b7 (c9 S16 v21) fun v22=>
 b7 (i5 .eql v22 (.int .i64 0)) fun v23=>
 b7 (d9 (d6 v23 true) (j1 4 v2)) fun v24=>
 b7 (d9 (d6 v23 true) (c9 S16 v24)) fun v25=>
 b7 (d9 (d6 v23 true) (i5 .eql v25 (.int .i64 0))) fun v26=>
 b7 (q7 v23 v26 (.bool false)) fun v27=>
 b7 (d9 (d6 v27 true) (j1 2 v2)) fun v28=>
 b7 (d9 (d6 v27 true) (c9 S16 v28)) fun v29=>
 b7 (d9 (d6 v27 true) (some (.fn (.func a0u) [] [v0]))) fun v30=>
 V8 (d6 v27 true) (fun K=>l8 Try.prog E w0 A6 [v29,v30] S16 K) S16 fun v31 S32=>
 b7 (d9 (d6 v27 true) (unD .not v31)) fun v33=>
 b7 (q7 v27 v33 (.bool false)) fun v34=>
 Q v34 S32)
 (b7 (i5 .eql v19 (.int .u8 7)) fun v35=>
 i9 v35
 (b7 (d9 (d6 v17 true) (j1 4 v2)) fun v36=>
 b7 (d9 (d6 v17 true) (c9 S16 v36)) fun v37=>
 b7 (d9 (d6 v17 true) (i5 .geq v37 (.int .i64 0))) fun v38=>
 b7 (q7 v17 v38 (.bool false)) fun v39=>
 b7 (d9 (d6 v39 true) (j1 4 v2)) fun v40=>
 b7 (d9 (d6 v39 true) (c9 S16 v40)) fun v41=>
 b7 (d9 (d6 v39 true) (i5 .leq v41 (.int .i64 65536))) fun v42=>
 b7 (q7 v39 v42 (.bool false)) fun v43=>
 Q v43 S16)
 (b7 (i5 .eql v19 (.int .u8 8)) fun v44=>
 i9 v44
 (b7 (d9 (d6 v17 true) (j1 4 v2)) fun v45=>
 b7 (d9 (d6 v17 true) (c9 S16 v45)) fun v46=>
 b7 (d9 (d6 v17 true) (i5 .eql v46 (.int .i64 0))) fun v47=>
 b7 (q7 v17 v47 (.bool false)) fun v48=>
 Q v48 S16)
 (Q (.bool false) S16)))
theorem b4f{E:j3}{w0:j8}{Q:D→b8→Prop}{a0 a1:D}{S:b8}(h:a9J E w0 (i4 E Q) a0 a1 S):l8 Try.prog E w0 a1I [a0,a1] S Q:=
 j5 b6W b6z b7x (fn:=Try.f119) (c:=Try.f119.body.getD .skip) mixed Try.func119 (by kernel_rfl) (by kernel_rfl) h
def b3D:List (Nat×List Nat):=[]
def b3O:List (Nat×List Nat):=[]
def b4d:List (Nat×V1):=[]
def a6M(E:j3)(w0:j8)(Q:D→b8→Prop)(a0 c0:D)(S:b8):Prop:=
 b7 (o5 a0) fun cs=>j6 S cs fun v0 S1=>
 b7 (i6 S1 3 c0) fun v2=>
 b7 (j1 1 v0) fun v3=>
 b7 (c9 S1 v3) fun v4=>
 l8 Try.prog E w0 Q9 [v2,v4] S1 fun v5 S6=>
 b7 (unD .not v5) fun v7=>
 Q v7 S6
theorem b1U{E:j3}{w0:j8}{Q:D→b8→Prop}{a0 c0:D}{S:b8}(h:a6M E w0 (i4 E Q) a0 c0 S):l8 Try.prog E w0 a0u [a0,c0] S Q:=
 j5 b3D b3O b4d (fn:=Try.f135) (c:=Try.f135.body.getD .skip) mixed Try.func135 (by kernel_rfl) (by kernel_rfl) h
def b6X:List (Nat×List Nat):=[]
def b6G:List (Nat×List Nat):=[]
def b6V:List (Nat×V1):=[]
def a9Q(E:j3)(w0:j8)(Q:D→b8→Prop)(a0 a1:D)(S:b8):Prop:=
 b7 (o5 a0) fun cs=>j6 S cs fun v0 S1=>
 b7 (o5 a1) fun cs=>j6 S1 cs fun v2 S3=>
 b7 (some (.fn (.func a2q) [] [v0])) fun v4=>
 b7 (j1 1 v2) fun v5=>
 b7 (c9 S3 v5) fun v6=>
 l8 Try.prog E w0 B7 [v6,v4] S3 fun v7 S8=>
 b7 (d9 (d6 v7 false) (j1 2 v2)) fun v9=>
 b7 (d9 (d6 v7 false) (c9 S8 v9)) fun v10=>
 b7 (d9 (d6 v7 false) (some v4)) fun v11=>
 V8 (d6 v7 false) (fun K=>l8 Try.prog E w0 B7 [v10,v11] S8 K) S8 fun v12 S13=>
 b7 (q7 v7 (.bool true) v12) fun v14=>
 b7 (d9 (d6 v14 false) (j1 3 v2)) fun v15=>
 b7 (d9 (d6 v14 false) (c9 S13 v15)) fun v16=>
 b7 (d9 (d6 v14 false) (j1 1 v2)) fun v17=>
 b7 (d9 (d6 v14 false) (c9 S13 v17)) fun v18=>
 b7 (d9 (d6 v14 false) (m8 v18)) fun v19=>
 b7 (d9 (d6 v14 false) (i5 .lss v16 v19)) fun v20=>
 b7 (q7 v14 (.bool true) v20) fun v21=>
 b7 (d9 (d6 v21 false) (j1 4 v2)) fun v22=>
 b7 (d9 (d6 v21 false) (c9 S13 v22)) fun v23=>
 b7 (d9 (d6 v21 false) (i5 .lss v23 (.int .i64 0))) fun v24=>
 b7 (q7 v21 (.bool true) v24) fun v25=>
 i9 v25
 (Q (.bool false) S13)
 (b7 (j1 5 v2) fun v26=>
 b7 (c9 S13 v26) fun v27=>
 l8 Try.prog E w0 a5k [v27] S13 fun v28 S29=>
 b7 (l9 v28 0) fun v30=>
 b7 (l9 v28 1) fun v31=>
 b7 (l9 v28 2) fun v32=>
 b7 (i5 .eql v32 (.int .i64 0)) fun v33=>
 b7 (d9 (d6 v33 true) (some v30)) fun v34=>
 b7 (d9 (d6 v33 true) (some (.fn (.func a2J) [] [v0,v2]))) fun v35=>
 V8 (d6 v33 true) (fun K=>l8 Try.prog E w0 G6 [v34,v35] S29 K) S29 fun v36 S37=>
 b7 (d9 (d6 v33 true) (unD .not v36)) fun v38=>
 b7 (q7 v33 v38 (.bool false)) fun v39=>
 Q v39 S37)
theorem b4s{E:j3}{w0:j8}{Q:D→b8→Prop}{a0 a1:D}{S:b8}(h:a9Q E w0 (i4 E Q) a0 a1 S):l8 Try.prog E w0 a1J [a0,a1] S Q:=
 j5 b6X b6G b6V (fn:=Try.f122) (c:=Try.f122.body.getD .skip) mixed Try.func122 (by kernel_rfl) (by kernel_rfl) h
def b4e:List (Nat×List Nat):=[]
def b3P:List (Nat×List Nat):=[]
def b3L:List (Nat×V1):=[]
def a6P(E:j3)(w0:j8)(Q:D→b8→Prop)(a0 c0:D)(S:b8):Prop:=
 b7 (i6 S 3 c0) fun v0=>
 l8 Try.prog E w0 Q9 [v0,a0] S fun v1 S2=>
 b7 (unD .not v1) fun v3=>
 Q v3 S2
theorem b0s{E:j3}{w0:j8}{Q:D→b8→Prop}{a0 c0:D}{S:b8}(h:a6P E w0 (i4 E Q) a0 c0 S):l8 Try.prog E w0 a2q [a0,c0] S Q:=
 j5 b4e b3P b3L (fn:=Try.f137) (c:=Try.f137.body.getD .skip) mixed Try.func137 (by kernel_rfl) (by kernel_rfl) h
def b3R:List (Nat×List Nat):=[]
def b3v:List (Nat×List Nat):=[]
def b3H:List (Nat×V1):=[]
def a6U(E:j3)(w0:j8)(Q:D→b8→Prop)(a0 c0 c1:D)(S:b8):Prop:=
 b7 (o5 a0) fun cs=>j6 S cs fun v0 S1=>
 b7 (i6 S1 4 v0) fun v2=>
 b7 (i6 S1 3 c0) fun v3=>
 l8 Try.prog E w0 a0Q [v2,v3] S1 fun v4 S5=>
 b7 (l9 v4 0) fun v6=>
 b7 (l9 v4 1) fun v7=>
 b7 (l9 v4 2) fun v8=>
 b7 (i5 .neq v8 (.int .i64 0)) fun v9=>
 b7 (d9 (d6 v9 false) (j1 0 v0)) fun v10=>
 b7 (d9 (d6 v9 false) (c9 S5 v10)) fun v11=>
 b7 (d9 (d6 v9 false) (i5 .eql v11 (.int .u8 7))) fun v12=>
 b7 (d9 (d6 v9 false) (some v12)) fun v13=>
 b7 (d9 (d6 v13 false) (j1 0 v0)) fun v14=>
 b7 (d9 (d6 v13 false) (c9 S5 v14)) fun v15=>
 b7 (d9 (d6 v13 false) (i5 .eql v15 (.int .u8 8))) fun v16=>
 b7 (d9 (d6 v9 false) (q7 v13 (.bool true) v16)) fun v17=>
 b7 (d9 (d6 v9 false) (some v17)) fun v18=>
 b7 (d9 (d6 v18 true) (j1 1 v0)) fun v19=>
 b7 (d9 (d6 v18 true) (c9 S5 v19)) fun v20=>
 b7 (d9 (d6 v18 true) (j1 3 c1)) fun v21=>
 b7 (d9 (d6 v18 true) (c9 S5 v21)) fun v22=>
 b7 (d9 (d6 v18 true) (i5 .geq v20 v22)) fun v23=>
 b7 (d9 (d6 v9 false) (q7 v18 v23 (.bool false))) fun v24=>
 b7 (q7 v9 (.bool true) v24) fun v25=>
 Q v25 S5
theorem b0y{E:j3}{w0:j8}{Q:D→b8→Prop}{a0 c0 c1:D}{S:b8}(h:a6U E w0 (i4 E Q) a0 c0 c1 S):l8 Try.prog E w0 a2J [a0,c0,c1] S Q:=
 j5 b3R b3v b3H (fn:=Try.f139) (c:=Try.f139.body.getD .skip) mixed Try.func139 (by kernel_rfl) (by kernel_rfl) h
def y0:List (Nat×List Nat):=[(8,[1,24,25,26]),(32,[1,52,53,54])]
def w8:List (Nat×List Nat):=[(37,[1,4,24,25,26,30]),(97,[1,6,52,53,54,58])]
def w6:List (Nat×V1):=[]
noncomputable def b0u:Code:=(j7 [1,1,0,1,0,0,1,1,0,0,1,0,1] (Try.f99.body.getD .skip))
def b0g(E:j3)(w0:j8)(N0:D→D→D→D→b8→Prop)(Q:D→b8→Prop):o9→List D→b8→Prop:=
 (q8 2 (q8 1 (G5 Try.prog E w0 y0 w8 w6 (j7 [1,1,0,1,0,0,1,1,1] (Try.f99.body.getD .skip)) (B1 (fun T S=>N0 (T.getD 1 b9) (T.getD 24 b9) (T.getD 25 b9) (T.getD 26 b9) S) (q8 0 (G5 Try.prog E w0 y0 w8 w6 (j7 [1,1,1] (Try.f99.body.getD .skip)) (E7 Try.prog Try.f99 Q)))))))
def a3X(E:j3)(w0:j8)(N0:D→D→D→D→b8→Prop)(Q:D→b8→Prop)(x1 x4 x24 x25 x26 x30:D)(S:b8):Prop:=
 i9 x30
 (Q (.int .i64 3) S)
 (b7 (i6 S 3 x1) fun v26=>
 b7 (i6 S 5 x4) fun v27=>
 l8 Try.prog E w0 a1I [v26,v27] S fun v28 S29=>
 b7 (unD .not v28) fun v30=>
 i9 v30
 (Q (.int .i64 130) S29)
 (b7 (i5 .add x26 (.int .i64 1)) fun v31=>
 N0 x1 x24 x25 v31 S29))
def J5(E:j3)(w0:j8)(N0:D→D→D→D→b8→Prop)(Q:D→b8→Prop)(x1 x4 x24 x25 x26 x30:D)(S:b8):Prop:=j2 Try.prog E w0 b0u (m6 87 [1,4,24,25,26,30] [x1,x4,x24,x25,x26,x30]) S (b0g E w0 N0 Q)
theorem a7E{E:j3}{w0:j8}{N0:D→D→D→D→b8→Prop}{Q:D→b8→Prop}{x1 x4 x24 x25 x26 x30:D}{S:b8}(h:a3X E w0 N0 Q x1 x4 x24 x25 x26 x30 S):J5 E w0 N0 Q x1 x4 x24 x25 x26 x30 S:=j4 y0 w8 w6 mixed (by kernel_rfl) h
noncomputable def b1I:Code:=(j7 [1,1,1,1,0,1,0,0,1,1,0,0,1,0,1] (Try.f99.body.getD .skip))
def b0n(E:j3)(w0:j8)(N1:D→D→D→D→b8→Prop)(Q:D→b8→Prop):o9→List D→b8→Prop:=
 (q8 5 (q8 4 (G5 Try.prog E w0 y0 w8 w6 (j7 [1,1,1,1,0,1,0,0,1,1,1] (Try.f99.body.getD .skip)) (B1 (fun T S=>N1 (T.getD 1 b9) (T.getD 52 b9) (T.getD 53 b9) (T.getD 54 b9) S) (q8 3 (G5 Try.prog E w0 y0 w8 w6 (j7 [1,1,1,1,1] (Try.f99.body.getD .skip)) (E7 Try.prog Try.f99 Q)))))))
def a4c(E:j3)(w0:j8)(N1:D→D→D→D→b8→Prop)(Q:D→b8→Prop)(x1 x6 x52 x53 x54 x58:D)(S:b8):Prop:=
 i9 x58
 (Q (.int .i64 3) S)
 (b7 (i6 S 3 x1) fun v58=>
 b7 (i6 S 6 x6) fun v59=>
 l8 Try.prog E w0 a1J [v58,v59] S fun v60 S61=>
 b7 (unD .not v60) fun v62=>
 i9 v62
 (Q (.int .i64 130) S61)
 (b7 (i5 .add x54 (.int .i64 1)) fun v63=>
 N1 x1 x52 x53 v63 S61))
def B6(E:j3)(w0:j8)(N1:D→D→D→D→b8→Prop)(Q:D→b8→Prop)(x1 x6 x52 x53 x54 x58:D)(S:b8):Prop:=j2 Try.prog E w0 b1I (m6 87 [1,6,52,53,54,58] [x1,x6,x52,x53,x54,x58]) S (b0n E w0 N1 Q)
theorem a7Y{E:j3}{w0:j8}{N1:D→D→D→D→b8→Prop}{Q:D→b8→Prop}{x1 x6 x52 x53 x54 x58:D}{S:b8}(h:a4c E w0 N1 Q x1 x6 x52 x53 x54 x58 S):B6 E w0 N1 Q x1 x6 x52 x53 x54 x58 S:=j4 y0 w8 w6 mixed (by kernel_rfl) h
noncomputable def a1s:Code:=(j7 [1,1,1,1,0,1,0,0] (Try.f99.body.getD .skip))
def a1t(E:j3)(w0:j8)(Q:D→b8→Prop):o9→List D→b8→Prop:=
 (q8 3 (G5 Try.prog E w0 y0 w8 w6 (j7 [1,1,1,1,1] (Try.f99.body.getD .skip)) (E7 Try.prog Try.f99 Q)))
def a1w(E:j3)(w0:j8)(N1:D→D→D→D→b8→Prop)(Q:D→b8→Prop)(x1 x52 x53 x54:D)(S:b8):Prop:=
 b7 (i5 .lss x54 x53) fun v51=>
 i9 v51
 (b7 (o7 6 x52 x54) fun v52=>
 b7 (i6 S 6 v52) fun v53=>
 j6 S [(.str []), .nilSlc, .nilSlc,(.int .i64 0),(.int .i64 0), .nilSlc] fun v54 S55=>
 i7 S55 6 v54 v53 fun v56 S57=>
 b7 (j1 1 v54) fun v64=>
 b7 (c9 S57 v64) fun v65=>
 b7 (m8 v65) fun v66=>
 b7 (i5 .gtr v66 (.int .i64 32)) fun v67=>
 i9 v67
 (B6 E w0 N1 Q x1 v54 x52 x53 x54 v67 S57)
 (b7 (j1 2 v54) fun v68=>
 b7 (c9 S57 v68) fun v69=>
 b7 (m8 v69) fun v70=>
 b7 (i5 .gtr v70 (.int .i64 8)) fun v71=>
 i9 v71
 (B6 E w0 N1 Q x1 v54 x52 x53 x54 v71 S57)
 (b7 (j1 3 v54) fun v72=>
 b7 (c9 S57 v72) fun v73=>
 b7 (i5 .gtr v73 (.int .i64 256)) fun v74=>
 i9 v74
 (B6 E w0 N1 Q x1 v54 x52 x53 x54 v74 S57)
 (b7 (j1 4 v54) fun v75=>
 b7 (c9 S57 v75) fun v76=>
 b7 (i5 .gtr v76 (.int .i64 4096)) fun v77=>
 i9 v77
 (B6 E w0 N1 Q x1 v54 x52 x53 x54 v77 S57)
 (b7 (j1 5 v54) fun v78=>
 b7 (c9 S57 v78) fun v79=>
 b7 (m8 v79) fun v80=>
 b7 (i5 .gtr v80 (.int .i64 65536)) fun v81=>
 i9 v81
 (B6 E w0 N1 Q x1 v54 x52 x53 x54 v81 S57)
 (b7 (j1 0 v54) fun v82=>
 b7 (c9 S57 v82) fun v83=>
 b7 (a3n v83) fun v84=>
 b7 (i5 .gtr v84 (.int .i64 65536)) fun v85=>
 B6 E w0 N1 Q x1 v54 x52 x53 x54 v85 S57))))))
 (Q (.int .i64 0) S)
theorem a9n{E:j3}{w0:j8}{N1:D→D→D→D→b8→Prop}{Q:D→b8→Prop}{x1 x52 x53 x54:D}{S:b8}(h:a1w E w0 N1 Q x1 x52 x53 x54 S):
  j2 Try.prog E w0 a1s (m6 87 [1,52,53,54] [x1,x52,x53,x54]) S (B1 (fun T S=>N1 (T.getD 1 b9) (T.getD 52 b9) (T.getD 53 b9) (T.getD 54 b9) S) (a1t E w0 Q)):=j4 y0 w8 w6 mixed (by kernel_rfl) h
theorem a9F{E:j3}{w0:j8}{Q:D→b8→Prop}(I:Nat→D→D→D→D→b8→Prop)
  (step:∀n x1 x52 x53 x54 S,I n x1 x52 x53 x54 S→a1w E w0 (fun x1 x52 x53 x54 S=>∃m,m<n∧I m x1 x52 x53 x54 S) Q x1 x52 x53 x54 S)
  {n:Nat} {x1 x52 x53 x54:D} {S:b8} (h:I n x1 x52 x53 x54 S):j2 Try.prog E w0 (.loop a1s) (m6 87 [1,52,53,54] [x1,x52,x53,x54]) S (a1t E w0 Q):=
 p8 (k:=87) (n:=n) (I:=fun n T S=>I n (T.getD 1 b9) (T.getD 52 b9) (T.getD 53 b9) (T.getD 54 b9) S) (fun n T S hl hI=>q9 [1,52,53,54] hl (j2.mono (a9n (step n _ _ _ _ S hI)) fun ex T' S' _ hq=>by cases ex<;>exact hq)) (o0 ..) (Eq.mp (by kernel_rfl) h)
noncomputable def a1v:Code:=(j7 [1,1,0,1,0,0] (Try.f99.body.getD .skip))
def a1x(E:j3)(w0:j8)(Q:D→b8→Prop):o9→List D→b8→Prop:=
 (q8 0 (G5 Try.prog E w0 y0 w8 w6 (j7 [1,1,1] (Try.f99.body.getD .skip)) (E7 Try.prog Try.f99 Q)))
def a1z(E:j3)(w0:j8)(N0:D→D→D→D→b8→Prop)(Q:D→b8→Prop)(x1 x24 x25 x26:D)(S:b8):Prop:=
 b7 (i5 .lss x26 x25) fun v19=>
 i9 v19
 (b7 (o7 5 x24 x26) fun v20=>
 b7 (i6 S 5 v20) fun v21=>
 j6 S [(.int .u8 0),(.str []), .nilSlc,(.int .i64 0),(.int .i64 0)] fun v22 S23=>
 i7 S23 5 v22 v21 fun v24 S25=>
 b7 (j1 2 v22) fun v32=>
 b7 (c9 S25 v32) fun v33=>
 b7 (m8 v33) fun v34=>
 b7 (i5 .gtr v34 (.int .i64 32)) fun v35=>
 i9 v35
 (J5 E w0 N0 Q x1 v22 x24 x25 x26 v35 S25)
 (b7 (j1 1 v22) fun v36=>
 b7 (c9 S25 v36) fun v37=>
 b7 (a3n v37) fun v38=>
 b7 (i5 .gtr v38 (.int .i64 65536)) fun v39=>
 i9 v39
 (J5 E w0 N0 Q x1 v22 x24 x25 x26 v39 S25)
 (b7 (j1 2 v22) fun v40=>
 b7 (c9 S25 v40) fun v41=>
 l8 Try.prog E w0 A6 [v41,(.fn (.func a1u) [] [])] S25 fun v42 S43=>
 J5 E w0 N0 Q x1 v22 x24 x25 x26 v42 S43)))
 (b7 (j1 1 x1) fun v44=>
 b7 (c9 S v44) fun v45=>
 l8 Try.prog E w0 K9 [v45,(.fn (.func a1r) [] [])] S fun v46 S47=>
 i9 v46
 (Q (.int .i64 3) S47)
 (b7 (j1 2 x1) fun v48=>
 b7 (c9 S47 v48) fun v49=>
 b7 (m8 v49) fun v50=>
 j2 Try.prog E w0 (.loop a1s) (m6 87 [1,52,53,54] [x1,v49,v50,(.int .i64 0)]) S47 (a1t E w0 Q)))
theorem a9y{E:j3}{w0:j8}{N0:D→D→D→D→b8→Prop}{Q:D→b8→Prop}{x1 x24 x25 x26:D}{S:b8}(h:a1z E w0 N0 Q x1 x24 x25 x26 S):
  j2 Try.prog E w0 a1v (m6 87 [1,24,25,26] [x1,x24,x25,x26]) S (B1 (fun T S=>N0 (T.getD 1 b9) (T.getD 24 b9) (T.getD 25 b9) (T.getD 26 b9) S) (a1x E w0 Q)):=j4 y0 w8 w6 mixed (by kernel_rfl) h
theorem a8q{E:j3}{w0:j8}{Q:D→b8→Prop}(I:Nat→D→D→D→D→b8→Prop)
  (step:∀n x1 x24 x25 x26 S,I n x1 x24 x25 x26 S→a1z E w0 (fun x1 x24 x25 x26 S=>∃m,m<n∧I m x1 x24 x25 x26 S) Q x1 x24 x25 x26 S)
  {n:Nat} {x1 x24 x25 x26:D} {S:b8} (h:I n x1 x24 x25 x26 S):j2 Try.prog E w0 (.loop a1v) (m6 87 [1,24,25,26] [x1,x24,x25,x26]) S (a1x E w0 Q):=
 p8 (k:=87) (n:=n) (I:=fun n T S=>I n (T.getD 1 b9) (T.getD 24 b9) (T.getD 25 b9) (T.getD 26 b9) S) (fun n T S hl hI=>q9 [1,24,25,26] hl (j2.mono (a9y (step n _ _ _ _ S hI)) fun ex T' S' _ hq=>by cases ex<;>exact hq)) (o0 ..) (Eq.mp (by kernel_rfl) h)
def a6T(E:j3)(w0:j8)(Q:D→b8→Prop)(a0:D)(S:b8):Prop:=
 b7 (o5 a0) fun cs=>j6 S cs fun v0 S1=>
 b7 (j1 0 v0) fun v2=>
 b7 (c9 S1 v2) fun v3=>
 b7 (m8 v3) fun v4=>
 b7 (i5 .gtr v4 (.int .i64 256)) fun v5=>
 b7 (d9 (d6 v5 false) (j1 1 v0)) fun v6=>
 b7 (d9 (d6 v5 false) (c9 S1 v6)) fun v7=>
 b7 (d9 (d6 v5 false) (m8 v7)) fun v8=>
 b7 (d9 (d6 v5 false) (i5 .gtr v8 (.int .i64 32768))) fun v9=>
 b7 (q7 v5 (.bool true) v9) fun v10=>
 b7 (d9 (d6 v10 false) (j1 2 v0)) fun v11=>
 b7 (d9 (d6 v10 false) (c9 S1 v11)) fun v12=>
 b7 (d9 (d6 v10 false) (m8 v12)) fun v13=>
 b7 (d9 (d6 v10 false) (i5 .gtr v13 (.int .i64 256))) fun v14=>
 b7 (q7 v10 (.bool true) v14) fun v15=>
 i9 v15
 (Q (.int .i64 3) S1)
 (b7 (j1 0 v0) fun v16=>
 b7 (c9 S1 v16) fun v17=>
 b7 (m8 v17) fun v18=>
 j2 Try.prog E w0 (.loop a1v) (m6 87 [1,24,25,26] [v0,v17,v18,(.int .i64 0)]) S1 (a1x E w0 Q))
theorem b1f{E:j3}{w0:j8}{Q:D→b8→Prop}{a0:D}{S:b8}(h:a6T E w0 (i4 E Q) a0 S):l8 Try.prog E w0 a2K [a0] S Q:=
 j5 y0 w8 w6 (fn:=Try.f99) (c:=Try.f99.body.getD .skip) mixed Try.func99 (by kernel_rfl) (by kernel_rfl) h
def b1r:List (Nat×List Nat):=[]
def b0Q:List (Nat×List Nat):=[]
def b1p:List (Nat×V1):=[]
def a4I(E:j3)(w0:j8)(Q:D→b8→Prop)(a0:D)(S:b8):Prop:=
 b7 (o5 a0) fun cs=>j6 S cs fun v0 S1=>
 b7 (j1 0 v0) fun v2=>
 b7 (c9 S1 v2) fun v3=>
 b7 (a3n v3) fun v4=>
 b7 (i5 .gtr v4 (.int .i64 65536)) fun v5=>
 Q v5 S1
theorem a9u{E:j3}{w0:j8}{Q:D→b8→Prop}{a0:D}{S:b8}(h:a4I E w0 (i4 E Q) a0 S):l8 Try.prog E w0 a1u [a0] S Q:=
 j5 b1r b0Q b1p (fn:=Try.f118) (c:=Try.f118.body.getD .skip) mixed Try.func118 (by kernel_rfl) (by kernel_rfl) h
def b1K:List (Nat×List Nat):=[]
def b0w:List (Nat×List Nat):=[]
def b0z:List (Nat×V1):=[]
def a4L(E:j3)(w0:j8)(Q:D→b8→Prop)(a0:D)(S:b8):Prop:=
 b7 (a3n a0) fun v0=>
 b7 (i5 .gtr v0 (.int .i64 65536)) fun v1=>
 Q v1 S
theorem a8N{E:j3}{w0:j8}{Q:D→b8→Prop}{a0:D}{S:b8}(h:a4L E w0 (i4 E Q) a0 S):l8 Try.prog E w0 a1r [a0] S Q:=
 j5 b1K b0w b0z (fn:=Try.f121) (c:=Try.f121.body.getD .skip) mixed Try.func121 (by kernel_rfl) (by kernel_rfl) h
def a2G:List (Nat×List Nat):=[]
def a2A:List (Nat×List Nat):=[]
def a2M:List (Nat×V1):=[]
def U9(E:j3)(w0:j8)(Q:D→b8→Prop)(a0 a1:D)(S:b8):Prop:=
 l8 Try.prog E w0 L0 [a0,a1] S fun v0 S1=>
 b7 (i5 .geq v0 (.int .i64 0)) fun v2=>
 Q v2 S1
theorem a1L{E:j3}{w0:j8}{Q:D→b8→Prop}{a0 a1:D}{S:b8}(h:U9 E w0 (i4 E Q) a0 a1 S):l8 Try.prog E w0 A6 [a0,a1] S Q:=
 j5 a2G a2A a2M (fn:=Try.f117) (c:=Try.f117.body.getD .skip) mixed Try.func117 (by kernel_rfl) (by kernel_rfl) h
def a4m:List (Nat×List Nat):=[]
def a4d:List (Nat×List Nat):=[]
def a3S:List (Nat×V1):=[]
def Z6(E:j3)(w0:j8)(Q:D→b8→Prop)(a0 a1:D)(S:b8):Prop:=
 l8 Try.prog E w0 P4 [a0,a1] S fun v0 S1=>
 b7 (i5 .geq v0 (.int .i64 0)) fun v2=>
 Q v2 S1
theorem a2Z{E:j3}{w0:j8}{Q:D→b8→Prop}{a0 a1:D}{S:b8}(h:Z6 E w0 (i4 E Q) a0 a1 S):l8 Try.prog E w0 K9 [a0,a1] S Q:=
 j5 a4m a4d a3S (fn:=Try.f120) (c:=Try.f120.body.getD .skip) mixed Try.func120 (by kernel_rfl) (by kernel_rfl) h
def a6k:List (Nat×List Nat):=[]
def a6s:List (Nat×List Nat):=[]
def a5M:List (Nat×V1):=[]
def a1n(E:j3)(w0:j8)(Q:D→b8→Prop)(a0 a1:D)(S:b8):Prop:=
 l8 Try.prog E w0 X5 [a0,a1] S fun v0 S1=>
 b7 (i5 .geq v0 (.int .i64 0)) fun v2=>
 Q v2 S1
theorem a4F{E:j3}{w0:j8}{Q:D→b8→Prop}{a0 a1:D}{S:b8}(h:a1n E w0 (i4 E Q) a0 a1 S):l8 Try.prog E w0 B7 [a0,a1] S Q:=
 j5 a6k a6s a5M (fn:=Try.f65) (c:=Try.f65.body.getD .skip) mixed Try.func65 (by kernel_rfl) (by kernel_rfl) h
def a2t:List (Nat×List Nat):=[]
def a2L:List (Nat×List Nat):=[]
def a2z:List (Nat×V1):=[]
def U8(E:j3)(w0:j8)(Q:D→b8→Prop)(a0 a1:D)(S:b8):Prop:=
 l8 Try.prog E w0 K4 [a0,a1] S fun v0 S1=>
 b7 (i5 .geq v0 (.int .i64 0)) fun v2=>
 Q v2 S1
theorem a1R{E:j3}{w0:j8}{Q:D→b8→Prop}{a0 a1:D}{S:b8}(h:U8 E w0 (i4 E Q) a0 a1 S):l8 Try.prog E w0 G6 [a0,a1] S Q:=
 j5 a2t a2L a2z (fn:=Try.f138) (c:=Try.f138.body.getD .skip) mixed Try.func138 (by kernel_rfl) (by kernel_rfl) h
def J3:List (Nat×List Nat):=[(4,[0,1,7,8])]
def J4:List (Nat×List Nat):=[]
def J0:List (Nat×V1):=[]
noncomputable def I4:Code:=(j7 [1,0,1,0,0] (Try.f133.body.getD .skip))
def I2(E:j3)(w0:j8)(Q:D→b8→Prop):o9→List D→b8→Prop:=
 (q8 0 (G5 Try.prog E w0 J3 J4 J0 (j7 [1,1] (Try.f133.body.getD .skip)) (E7 Try.prog Try.f133 Q)))
def I0(E:j3)(w0:j8)(N0:D→D→D→D→b8→Prop)(Q:D→b8→Prop)(x0 x1 x7 x8:D)(S:b8):Prop:=
 b7 (i5 .lss x8 x7) fun v1=>
 i9 v1
 (b7 (o7 2 x0 x8) fun v2=>
 b7 (i6 S 2 v2) fun v3=>
 a1S Try.prog (l8 Try.prog E w0) S x1 [v3] fun v4 S5=>
 i9 v4
 (Q x8 S5)
 (b7 (i5 .add x8 (.int .i64 1)) fun v6=>
 N0 x0 x1 x7 v6 S5))
 (Q (.int .i64 (-1)) S)
theorem a2l{E:j3}{w0:j8}{N0:D→D→D→D→b8→Prop}{Q:D→b8→Prop}{x0 x1 x7 x8:D}{S:b8}(h:I0 E w0 N0 Q x0 x1 x7 x8 S):
  j2 Try.prog E w0 I4 (m6 19 [0,1,7,8] [x0,x1,x7,x8]) S (B1 (fun T S=>N0 (T.getD 0 b9) (T.getD 1 b9) (T.getD 7 b9) (T.getD 8 b9) S) (I2 E w0 Q)):=j4 J3 J4 J0 mixed (by kernel_rfl) h
theorem a2n{E:j3}{w0:j8}{Q:D→b8→Prop}(I:Nat→D→D→D→D→b8→Prop)
  (step:∀n x0 x1 x7 x8 S,I n x0 x1 x7 x8 S→I0 E w0 (fun x0 x1 x7 x8 S=>∃m,m<n∧I m x0 x1 x7 x8 S) Q x0 x1 x7 x8 S)
  {n:Nat} {x0 x1 x7 x8:D} {S:b8} (h:I n x0 x1 x7 x8 S):j2 Try.prog E w0 (.loop I4) (m6 19 [0,1,7,8] [x0,x1,x7,x8]) S (I2 E w0 Q):=
 p8 (k:=19) (n:=n) (I:=fun n T S=>I n (T.getD 0 b9) (T.getD 1 b9) (T.getD 7 b9) (T.getD 8 b9) S) (fun n T S hl hI=>q9 [0,1,7,8] hl (j2.mono (a2l (step n _ _ _ _ S hI)) fun ex T' S' _ hq=>by cases ex<;>exact hq)) (o0 ..) (Eq.mp (by kernel_rfl) h)
def a0d(E:j3)(w0:j8)(Q:D→b8→Prop)(a0 a1:D)(S:b8):Prop:=
 b7 (m8 a0) fun v0=>
 j2 Try.prog E w0 (.loop I4) (m6 19 [0,1,7,8] [a0,a1,v0,(.int .i64 0)]) S (I2 E w0 Q)
theorem a2X{E:j3}{w0:j8}{Q:D→b8→Prop}{a0 a1:D}{S:b8}(h:a0d E w0 (i4 E Q) a0 a1 S):l8 Try.prog E w0 L0 [a0,a1] S Q:=
 j5 J3 J4 J0 (fn:=Try.f133) (c:=Try.f133.body.getD .skip) mixed Try.func133 (by kernel_rfl) (by kernel_rfl) h
def O3:List (Nat×List Nat):=[(4,[0,1,7,8])]
def O0:List (Nat×List Nat):=[]
def O9:List (Nat×V1):=[]
noncomputable def L8:Code:=(j7 [1,0,1,0,0] (Try.f136.body.getD .skip))
def M6(E:j3)(w0:j8)(Q:D→b8→Prop):o9→List D→b8→Prop:=
 (q8 0 (G5 Try.prog E w0 O3 O0 O9 (j7 [1,1] (Try.f136.body.getD .skip)) (E7 Try.prog Try.f136 Q)))
def M3(E:j3)(w0:j8)(N0:D→D→D→D→b8→Prop)(Q:D→b8→Prop)(x0 x1 x7 x8:D)(S:b8):Prop:=
 b7 (i5 .lss x8 x7) fun v1=>
 i9 v1
 (b7 (o7 1 x0 x8) fun v2=>
 b7 (c9 S v2) fun v3=>
 a1S Try.prog (l8 Try.prog E w0) S x1 [v3] fun v4 S5=>
 i9 v4
 (Q x8 S5)
 (b7 (i5 .add x8 (.int .i64 1)) fun v6=>
 N0 x0 x1 x7 v6 S5))
 (Q (.int .i64 (-1)) S)
theorem a3y{E:j3}{w0:j8}{N0:D→D→D→D→b8→Prop}{Q:D→b8→Prop}{x0 x1 x7 x8:D}{S:b8}(h:M3 E w0 N0 Q x0 x1 x7 x8 S):
  j2 Try.prog E w0 L8 (m6 19 [0,1,7,8] [x0,x1,x7,x8]) S (B1 (fun T S=>N0 (T.getD 0 b9) (T.getD 1 b9) (T.getD 7 b9) (T.getD 8 b9) S) (M6 E w0 Q)):=j4 O3 O0 O9 mixed (by kernel_rfl) h
theorem a3E{E:j3}{w0:j8}{Q:D→b8→Prop}(I:Nat→D→D→D→D→b8→Prop)
  (step:∀n x0 x1 x7 x8 S,I n x0 x1 x7 x8 S→M3 E w0 (fun x0 x1 x7 x8 S=>∃m,m<n∧I m x0 x1 x7 x8 S) Q x0 x1 x7 x8 S)
  {n:Nat} {x0 x1 x7 x8:D} {S:b8} (h:I n x0 x1 x7 x8 S):j2 Try.prog E w0 (.loop L8) (m6 19 [0,1,7,8] [x0,x1,x7,x8]) S (M6 E w0 Q):=
 p8 (k:=19) (n:=n) (I:=fun n T S=>I n (T.getD 0 b9) (T.getD 1 b9) (T.getD 7 b9) (T.getD 8 b9) S) (fun n T S hl hI=>q9 [0,1,7,8] hl (j2.mono (a3y (step n _ _ _ _ S hI)) fun ex T' S' _ hq=>by cases ex<;>exact hq)) (o0 ..) (Eq.mp (by kernel_rfl) h)
def a1q(E:j3)(w0:j8)(Q:D→b8→Prop)(a0 a1:D)(S:b8):Prop:=
 b7 (m8 a0) fun v0=>
 j2 Try.prog E w0 (.loop L8) (m6 19 [0,1,7,8] [a0,a1,v0,(.int .i64 0)]) S (M6 E w0 Q)
theorem a4G{E:j3}{w0:j8}{Q:D→b8→Prop}{a0 a1:D}{S:b8}(h:a1q E w0 (i4 E Q) a0 a1 S):l8 Try.prog E w0 P4 [a0,a1] S Q:=
 j5 O3 O0 O9 (fn:=Try.f136) (c:=Try.f136.body.getD .skip) mixed Try.func136 (by kernel_rfl) (by kernel_rfl) h
def W7:List (Nat×List Nat):=[(4,[0,1,7,8])]
def W3:List (Nat×List Nat):=[]
def W1:List (Nat×V1):=[]
noncomputable def R9:Code:=(j7 [1,0,1,0,0] (Try.f91.body.getD .skip))
def R6(E:j3)(w0:j8)(Q:D→b8→Prop):o9→List D→b8→Prop:=
 (q8 0 (G5 Try.prog E w0 W7 W3 W1 (j7 [1,1] (Try.f91.body.getD .skip)) (E7 Try.prog Try.f91 Q)))
def U5(E:j3)(w0:j8)(N0:D→D→D→D→b8→Prop)(Q:D→b8→Prop)(x0 x1 x7 x8:D)(S:b8):Prop:=
 b7 (i5 .lss x8 x7) fun v1=>
 i9 v1
 (b7 (o7 1 x0 x8) fun v2=>
 b7 (c9 S v2) fun v3=>
 a1S Try.prog (l8 Try.prog E w0) S x1 [v3] fun v4 S5=>
 i9 v4
 (Q x8 S5)
 (b7 (i5 .add x8 (.int .i64 1)) fun v6=>
 N0 x0 x1 x7 v6 S5))
 (Q (.int .i64 (-1)) S)
theorem a4X{E:j3}{w0:j8}{N0:D→D→D→D→b8→Prop}{Q:D→b8→Prop}{x0 x1 x7 x8:D}{S:b8}(h:U5 E w0 N0 Q x0 x1 x7 x8 S):
  j2 Try.prog E w0 R9 (m6 19 [0,1,7,8] [x0,x1,x7,x8]) S (B1 (fun T S=>N0 (T.getD 0 b9) (T.getD 1 b9) (T.getD 7 b9) (T.getD 8 b9) S) (R6 E w0 Q)):=j4 W7 W3 W1 mixed (by kernel_rfl) h
theorem a5d{E:j3}{w0:j8}{Q:D→b8→Prop}(I:Nat→D→D→D→D→b8→Prop)
  (step:∀n x0 x1 x7 x8 S,I n x0 x1 x7 x8 S→U5 E w0 (fun x0 x1 x7 x8 S=>∃m,m<n∧I m x0 x1 x7 x8 S) Q x0 x1 x7 x8 S)
  {n:Nat} {x0 x1 x7 x8:D} {S:b8} (h:I n x0 x1 x7 x8 S):j2 Try.prog E w0 (.loop R9) (m6 19 [0,1,7,8] [x0,x1,x7,x8]) S (R6 E w0 Q):=
 p8 (k:=19) (n:=n) (I:=fun n T S=>I n (T.getD 0 b9) (T.getD 1 b9) (T.getD 7 b9) (T.getD 8 b9) S) (fun n T S hl hI=>q9 [0,1,7,8] hl (j2.mono (a4X (step n _ _ _ _ S hI)) fun ex T' S' _ hq=>by cases ex<;>exact hq)) (o0 ..) (Eq.mp (by kernel_rfl) h)
def a2C(E:j3)(w0:j8)(Q:D→b8→Prop)(a0 a1:D)(S:b8):Prop:=
 b7 (m8 a0) fun v0=>
 j2 Try.prog E w0 (.loop R9) (m6 19 [0,1,7,8] [a0,a1,v0,(.int .i64 0)]) S (R6 E w0 Q)
theorem a6I{E:j3}{w0:j8}{Q:D→b8→Prop}{a0 a1:D}{S:b8}(h:a2C E w0 (i4 E Q) a0 a1 S):l8 Try.prog E w0 X5 [a0,a1] S Q:=
 j5 W7 W3 W1 (fn:=Try.f91) (c:=Try.f91.body.getD .skip) mixed Try.func91 (by kernel_rfl) (by kernel_rfl) h
def J7:List (Nat×List Nat):=[(4,[0,1,7,8])]
def J9:List (Nat×List Nat):=[]
def J6:List (Nat×V1):=[]
noncomputable def I3:Code:=(j7 [1,0,1,0,0] (Try.f142.body.getD .skip))
def I1(E:j3)(w0:j8)(Q:D→b8→Prop):o9→List D→b8→Prop:=
 (q8 0 (G5 Try.prog E w0 J7 J9 J6 (j7 [1,1] (Try.f142.body.getD .skip)) (E7 Try.prog Try.f142 Q)))
def H9(E:j3)(w0:j8)(N0:D→D→D→D→b8→Prop)(Q:D→b8→Prop)(x0 x1 x7 x8:D)(S:b8):Prop:=
 b7 (i5 .lss x8 x7) fun v1=>
 i9 v1
 (b7 (o7 4 x0 x8) fun v2=>
 b7 (i6 S 4 v2) fun v3=>
 a1S Try.prog (l8 Try.prog E w0) S x1 [v3] fun v4 S5=>
 i9 v4
 (Q x8 S5)
 (b7 (i5 .add x8 (.int .i64 1)) fun v6=>
 N0 x0 x1 x7 v6 S5))
 (Q (.int .i64 (-1)) S)
theorem a2k{E:j3}{w0:j8}{N0:D→D→D→D→b8→Prop}{Q:D→b8→Prop}{x0 x1 x7 x8:D}{S:b8}(h:H9 E w0 N0 Q x0 x1 x7 x8 S):
  j2 Try.prog E w0 I3 (m6 19 [0,1,7,8] [x0,x1,x7,x8]) S (B1 (fun T S=>N0 (T.getD 0 b9) (T.getD 1 b9) (T.getD 7 b9) (T.getD 8 b9) S) (I1 E w0 Q)):=j4 J7 J9 J6 mixed (by kernel_rfl) h
theorem a2i{E:j3}{w0:j8}{Q:D→b8→Prop}(I:Nat→D→D→D→D→b8→Prop)
  (step:∀n x0 x1 x7 x8 S,I n x0 x1 x7 x8 S→H9 E w0 (fun x0 x1 x7 x8 S=>∃m,m<n∧I m x0 x1 x7 x8 S) Q x0 x1 x7 x8 S)
  {n:Nat} {x0 x1 x7 x8:D} {S:b8} (h:I n x0 x1 x7 x8 S):j2 Try.prog E w0 (.loop I3) (m6 19 [0,1,7,8] [x0,x1,x7,x8]) S (I1 E w0 Q):=
 p8 (k:=19) (n:=n) (I:=fun n T S=>I n (T.getD 0 b9) (T.getD 1 b9) (T.getD 7 b9) (T.getD 8 b9) S) (fun n T S hl hI=>q9 [0,1,7,8] hl (j2.mono (a2k (step n _ _ _ _ S hI)) fun ex T' S' _ hq=>by cases ex<;>exact hq)) (o0 ..) (Eq.mp (by kernel_rfl) h)
def a0c(E:j3)(w0:j8)(Q:D→b8→Prop)(a0 a1:D)(S:b8):Prop:=
 b7 (m8 a0) fun v0=>
 j2 Try.prog E w0 (.loop I3) (m6 19 [0,1,7,8] [a0,a1,v0,(.int .i64 0)]) S (I1 E w0 Q)
theorem a2Y{E:j3}{w0:j8}{Q:D→b8→Prop}{a0 a1:D}{S:b8}(h:a0c E w0 (i4 E Q) a0 a1 S):l8 Try.prog E w0 K4 [a0,a1] S Q:=
 j5 J7 J9 J6 (fn:=Try.f142) (c:=Try.f142.body.getD .skip) mixed Try.func142 (by kernel_rfl) (by kernel_rfl) h
end Go.Proofs.Ytdkidgkiplcggaa.d
end
