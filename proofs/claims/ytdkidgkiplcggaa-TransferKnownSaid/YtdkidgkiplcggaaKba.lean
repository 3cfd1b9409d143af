/-
  TransferKnownSaid: part Kba of its proof.
-/
import Derived.Test.YtdkidgkiplcggaaKaz
import Derived.Test.YtdkidgkiplcggaaRows
import Derived.Test.YtdkidgkiplcggaaKar
import Derived.KernelRfl
set_option linter.unusedVariables false
set_option linter.unusedSimpArgs false
set_option maxRecDepth 100000
section
open Go.Proofs Go Go.Am Go.Op
namespace Go.Proofs.Ytdkidgkiplcggaa.d
section
def TkQ(S:b8)(r:List Int×List Int×Int)(v:D)(S':b8):Prop:=∃c d,v= .tup [c,d, .int .i64 r.2.2]∧Two S c r.1 d r.2.1 S'
theorem d5c{y:In}(h:isS y=true):1≤y.op∧y.op≤52:=by
 have hs:(lay y.op).isSome=true:=by
  unfold isS at h
  simp only[Bool.and_eq_true]at h
  exact h.1.1
 by_cases c:1≤y.op∧y.op≤52
 ·exact c
 ·exfalso
  rw[←d3d]at hs
  unfold d4w at hs
  have ne:∀p:Int,1≤p→p≤52→(y.op==p)=false:=fun p h1 h2=>by
   rw[c8K];exact decide_eq_false (by omega)
  simp only[ne 6 (by decide) (by decide),ne 7 (by decide) (by decide),ne 8 (by decide) (by decide),ne 50 (by decide) (by decide),ne 36 (by decide) (by decide),ne 37 (by decide) (by decide),ne 38 (by decide) (by decide),ne 23 (by decide) (by decide),ne 24 (by decide) (by decide),ne 46 (by decide) (by decide),ne 47 (by decide) (by decide),ne 48 (by decide) (by decide),Bool.false_or]at hs
  rw[if_neg (by omega),if_neg (by omega),if_neg (by omega),if_neg (by simp;omega),if_neg (by simp),if_neg (by simp),if_neg (by simp;omega),if_neg (by omega),if_neg (by simp),if_neg (by omega),if_neg (by omega),if_neg (by simp;omega)]at hs
  cases hs
section
variable{E:i9}{w0:j7}
theorem c3e{l:List Int}{d:D}(hl:l.length<2^40)(he:c7a d .nilSlc=some false)(hr:∀S,rowsS S 1 d=some (iC l)){S:b8}:j6 Try.prog E w0 y0 [d] S fun d S'=>Own S d l S':=by
 refine a0n ?_
 unfold Z2
 rw[he,eqE,oD,cdF]
 refine c5a (rows:=[]) fun k acs n=> ?_
 simp only[s8,hr,a0B]
 by_cases hn:iC l=[]
 ·rw[if_pos hn]
  have:l=[]:=by
   cases l with
   |nil=>rfl
   |cons a l=>simp[iC,A9]at hn
  subst this
  exact d9.here (.inr ⟨k,acs,true,n,rfl,rfl⟩)
 ·rw[if_neg hn,b8.set_same]
  simp only
  rw[if_pos ⟨by trivial,by trivial,by simp⟩]
  refine⟨by simp;omega, .inr fun k' acs' hk'=> ?_⟩
  rw[b8.erase_set _ _ _ n]at hk' ⊢
  refine d9.here (.inr ⟨k',acs',false,hk', ?_, ?_⟩)<;>simp
theorem b4Y{l:List Int}(hl:l.length<2^40){S:b8}:j6 Try.prog E w0 y0 [iD l] S fun d S'=>Own S d l S':=by
 cases l with
 |nil=>
  refine DF.split (pre:=[]) (post:=[]) (a0n ?_) (c3e (by decide) rfl fun S=>by simp[rowsS,J2,iC,A9])
  unfold Z2
  rw[show b8S .eql (c7a .nilSlc .nilSlc)=some (.bool true) from rfl,oD,cdT]
  exact d9.here (Own.nil _)
 |cons a l=>exact c3e hl rfl fun S=>b9y S _
variable{S B S':b8}{k8:Nat}{y:In}{m:Mo}
theorem c9I{r:List Int×List Int×Bool}{c d:D}{a:List AV}(hB:S.le B)(h8:B k8=some ⟨3,[[c,d, .bool r.2.2]],a⟩)(g:Two B c r.1 d r.2.1 S')(e:s7 y m=if r.2.2=true then(r.1,r.2.1,0) else([],[],2)):
  G7 E w0 (d9 E (TkQ S (s7 y m))) (.ptr k8 0) S':=by
 refine b4F ?_
 unfold b1s
 have h:=g.le _ _ h8
 simp only[F8,oD,Nat.zero_add,ldP h,List.getElem?_cons_zero,List.getElem?_cons_succ,unN]
 obtain⟨S'',l,g''⟩:=g.base hB
 cases hr:r.2.2 with
 |false=>
  rw[Bool.not_false,cdT]
  rw[hr,if_neg (by simp)]at e
  rw[e]
  exact d9.less (b8.le_trans hB g.le) (d9.here ⟨.nilSlc, .nilSlc,rfl,S,Own.nil _,Own.nil _⟩)
 |true=>
  rw[Bool.not_true,cdF]
  rw[hr,if_pos rfl]at e
  rw[e]
  exact d9.less l (d9.here ⟨c,d,rfl,g''⟩)
theorem c1p{r:List Int×List Int×Bool}{c d:D}{a:List AV}(hB:S.le B)(hn:S k8=none)(h8:B k8=some ⟨3,[[.nilSlc, .nilSlc, .bool false]],a⟩)(g:Two B c r.1 d r.2.1 S')(e:s7 y m=if r.2.2=true then(r.1,r.2.1,0) else([],[],2)):
  i7 S' 3 (.ptr k8 0) (efD c d r.2.2) fun _ S8=>G7 E w0 (d9 E (TkQ S (s7 y m))) (.ptr k8 0) S8:=by
 refine stP (ds:=[c,d, .bool r.2.2]) (g.le _ _ h8) (W3 _) ⟨rfl,by decide,by simp⟩ fun a3=> ?_
 exact c9I (r:=r) (b8.le_set hB hn) (b8.set_same _ _ _) (g.upd h8) e
end
end
section
section
variable{E:i9}{w0:j7}
set_option maxHeartbeats 1000000 in
theorem b5P{y:In}{m:Mo}(hy:y.Ok)(hm:m.Fits){S:b8}:j6 Try.prog E w0 a0Z [inD y,moD m] S (TkQ S (s7 y m)):=by
 refine c0y ?_
 unfold b7M
 rw[inD,W3,oD]
 intro k a n
 rw[moD,W3,oD]
 intro k2 a2 n2
 obtain⟨ne2,n2'⟩:=b8.fresh n2
 generalize hS3:(S.set k _).set k2 _=S3
 have h2:S3 k2=some ⟨3,[O9 m],a2⟩:=by rw[←hS3];exact b8.set_same _ _ _
 have h0:S3 k=some ⟨4,[O2 y],a⟩:=by rw[←hS3,b8.set_ne _ _ _ (Ne.symm ne2)];exact b8.set_same _ _ _
 have hle:S.le S3:=by rw[←hS3];exact b8.le_set (b8.le_new n) n2'
 clear hS3 n2
 have hok:=hm.ok
 rw[laP h0 (by simp[O2]),oD]
 refine(c6A hy).use ?_
 rw[a7J,oD,c8K]
 cases his:isS y with
 |false=>
  have e:c0G y=[]:=by unfold c0G;rw[if_neg (by rw[his];simp)]
  rw[e,decide_eq_true (by rfl),cdT]
  have et:s7 y m=([],[],120):=by unfold s7;rw[if_pos his]
  rw[et]
  exact d9.less hle (d9.here ⟨.nilSlc, .nilSlc,rfl,S,Own.nil _,Own.nil _⟩)
 |true=>
 have ns:¬isS y=false:=by rw[his];simp
 have hlen:¬(((c0G y).length:Nat):Int)=0:=by
  unfold c0G
  rw[if_pos his]
  unfold b2N
  simp
  omega
 rw[decide_eq_false hlen,cdF]
 intro k8 a8 n8
 have h8:(S3.set k8 ⟨3,[[.nilSlc, .nilSlc, .bool false]],a8⟩) k8=some ⟨3,[[.nilSlc, .nilSlc, .bool false]],a8⟩:=b8.set_same _ _ _
 have z8:S k8=none:=by
  cases e:S k8 with
  |none=>rfl
  |some o=>rw[hle _ _ e]at n8;cases n8
 have h0':(S3.set k8 ⟨3,[[.nilSlc, .nilSlc, .bool false]],a8⟩) k=some ⟨4,[O2 y],a⟩:=by rw[b8.set_ne _ _ _ (fun e=>by rw[←e,h0]at n8;cases n8)];exact h0
 have h2':(S3.set k8 ⟨3,[[.nilSlc, .nilSlc, .bool false]],a8⟩) k2=some ⟨3,[O9 m],a2⟩:=by rw[b8.set_ne _ _ _ (fun e=>by rw[←e,h2]at n8;cases n8)];exact h2
 have hle':S.le (S3.set k8 ⟨3,[[.nilSlc, .nilSlc, .bool false]],a8⟩):=b8.le_set hle z8
 have e3:([D.nilSlc, .nilSlc, .bool false]).length=3:=rfl
 rw[e3]
 clear h0 h2 hle
 generalize S3.set k8 ⟨3,[[.nilSlc, .nilSlc, .bool false]],a8⟩=S9 at h8 h0' h2' hle' ⊢
 have l0:d0 S9 (.ptr k 0)=some (.int .u8 y.op):=by rw[ldP h0'];rfl
 have l1:d0 S9 (.ptr k 1)=some (.int .i64 y.a):=by rw[ldP h0'];rfl
 have m1:d0 S9 (.ptr k2 1)=some (b0y m.texts):=by rw[ldP h2'];rfl
 have m2:d0 S9 (.ptr k2 2)=some (a8v m.funcs):=by rw[ldP h2'];rfl
 have li:i4 S9 4 (.ptr k 0)=some (inD y):=by rw[laP h0' (by simp[O2])];rfl
 have lm:i4 S9 3 (.ptr k2 0)=some (moD m):=by rw[laP h2' (by simp[O9])];rfl
 have lx:∀l:List Tx,m9 (b0y l)=some (.int .i64 (l.length:Int)):=fun l=>by simp[b0y]
 have lr:∀l:List Ro,m9 (a8v l)=some (.int .i64 (l.length:Int)):=fun l=>by simp[a8v]
 simp only[F8,oD,Nat.zero_add,l0]
 refine tEq ?_
 rw[M0]
 refine⟨fun h6=> ?_,fun h6=> ?_⟩
 ·have et:s7 y m=if decide (y.a<m.texts.length)=true then([],[5],0) else([],[],2):=by
   unfold s7
   rw[if_neg ns]
   by_cases d:y.a<m.texts.length
   ·rw[if_neg (by omega),if_neg (by omega),if_neg (by omega),if_pos (decide_eq_true d)]
    unfold q8
    rw[if_neg (by omega),if_neg (by omega),if_pos h6]
   ·rw[if_pos (by omega),if_neg (by rw[decide_eq_false d];simp)]
  simp only[oD,l1,m1,lx,L7]
  refine⟨?_, ?_⟩
  ·refine(C0 clN).use ⟨fwR _ _,fwR _ _,B4 (l:=[5]) fun v S4 g1=> ?_⟩
   have f1:r3 (.ptr k 1) S9 S4:=by rw[fwP,g1.le _ _ h0',h0']
   have f2:r3 (.ptr k2 1) S9 S4:=by rw[fwP,g1.le _ _ h2',h2']
   refine⟨f1,f2,(w6 (a:= .nilSlc) (b:= .nilSlc) (c:= .bool true) g1.cells).use ⟨f1,f2,(E8 (a:= .nilSlc) (b:=v) (c:= .bool true) (clB _)).use ?_⟩⟩
   exact c1p (E:=E) (w0:=w0) (r:=([],[5],decide (y.a<m.texts.length))) hle' z8 h8 ⟨S9,Own.nil _,g1⟩ et
  ·refine B4 (l:=[5]) fun v S4 g1=> ?_
   have f1:r3 (.ptr k 1) S9 S4:=by rw[fwP,g1.le _ _ h0',h0']
   have f2:r3 (.ptr k2 1) S9 S4:=by rw[fwP,g1.le _ _ h2',h2']
   refine⟨f1,f2,(C0 clN).use ⟨f1,f2,(w6 (a:= .nilSlc) (b:= .nilSlc) (c:= .bool true) g1.cells).use ⟨f1,f2,(E8 (a:= .nilSlc) (b:=v) (c:= .bool true) (clB _)).use ?_⟩⟩⟩
   exact c1p (E:=E) (w0:=w0) (r:=([],[5],decide (y.a<m.texts.length))) hle' z8 h8 ⟨S9,Own.nil _,g1⟩ et
 refine tEq ?_
 rw[M0]
 refine⟨fun h50=> ?_,fun h50=> ?_⟩
 ·simp only[oD,l1,m2,lr,L7]
  rw[M0]
  refine⟨fun hlt=> ?_,fun hlt=> ?_⟩
  ·obtain⟨ha1,ha2⟩:=d5Z his h50
   obtain⟨i,hi⟩:∃i:Nat,i=y.a.toNat:=⟨_,rfl⟩
   have hi':y.a=(i:Int):=by omega
   have hil:i<m.funcs.length:=by omega
   obtain⟨r,hr⟩:∃r,r=m.funcs[i]:=⟨_,rfl⟩
   have ea:m.funcs[i]? =some r:=by rw[List.getElem?_eq_getElem hil,hr]
   obtain⟨p1,p2,_⟩:=hm.params r (by rw[hr];exact List.getElem_mem _)
   have ex:p9 6 (a8v m.funcs) (.int .i64 (i:Int))=some (.elt (P1 r) 0):=b5X ea
   have et:s7 y m=(r.params,r.results,0):=by
    unfold s7
    rw[if_neg ns,if_neg (by omega),if_pos h50, ←hi,ea]
   rw[hi',ex,oD,show i4 S9 6 (.elt (P1 r) 0)=some (.agg (P1 r)) from rfl,oD]
   intro k5 a5 n5
   refine stP (ds:=P1 r) (b8.set_same _ _ _) (W3 _) ⟨rfl,by decide,by simp[P1]⟩ fun a6=> ?_
   rw[b8.set_set]
   have h5:(S9.set k5 ⟨6,[P1 r],a6⟩) k5=some ⟨6,[P1 r],a6⟩:=b8.set_same _ _ _
   have h8':(S9.set k5 ⟨6,[P1 r],a6⟩) k8=some ⟨3,[[.nilSlc, .nilSlc, .bool false]],a8⟩:=by rw[b8.set_ne _ _ _ (fun e=>by rw[←e,h8]at n5;cases n5)];exact h8
   have l5:S.le (S9.set k5 ⟨6,[P1 r],a6⟩):=b8.le_trans hle' (b8.le_new n5)
   show b7 (j5 1 (.ptr k5 0)) _
   generalize hS5:S9.set k5 _=S5
   have h5:S5 k5=some ⟨6,[P1 r],a6⟩:=by rw[←hS5];exact h5
   have h8':S5 k8=some ⟨3,[[.nilSlc, .nilSlc, .bool false]],a8⟩:=by rw[←hS5];exact h8'
   have l5:S.le S5:=by rw[←hS5];exact l5
   have q1:d0 S5 (.ptr k5 1)=some (iD r.params):=by rw[ldP h5];rfl
   have q2:d0 S5 (.ptr k5 2)=some (iD r.results):=by rw[ldP h5];rfl
   simp only[F8,oD,Nat.zero_add,q1,q2]
   refine(b4Y (by omega)).use fun c S4 g1=> ?_
   have f1:r3 (.ptr k5 2) S5 S4:=by rw[fwP,g1.le _ _ h5,h5]
   refine⟨f1,(C0 g1.cells).use ⟨f1,(b4Y (by omega)).use fun d S6 g2=>(w6 (a:=c) (b:= .nilSlc) (c:= .bool true) g2.cells).use ?_⟩⟩
   exact c1p (E:=E) (w0:=w0) (y:=y) (m:=m) (r:=(r.params,r.results,true)) l5 z8 h8' ⟨S4,g1,g2⟩ (by rw[et,if_pos rfl])
  ·exact c9I (r:=([],[],false)) hle' h8 ⟨S9,Own.nil _,Own.nil _⟩ (by unfold s7;rw[if_neg ns,if_pos (by omega),if_neg (by simp)])
 refine tIn l0 ?_
 rw[M0]
 refine⟨fun h36=> ?_,fun h36=> ?_⟩
 ·rw[li,oD,lm,oD]
  refine(c6z hy hm (d5Q his)).use ?_
  rintro v S' ⟨c,d,rfl,g⟩
  refine c1p (r:=Q2 y m) hle' z8 h8 g ?_
  unfold s7
  rw[if_neg ns,if_neg (by omega),if_neg h50,if_pos h36]
 ·rw[li,oD]
  obtain⟨o1,o2⟩:=d5c his
  refine(c3R hy (by omega)).use ?_
  rintro v S' ⟨c,d,rfl,g⟩
  refine c1p (r:=((q8 y).1,(q8 y).2,true)) hle' z8 h8 g ?_
  unfold s7
  rw[if_neg ns,if_neg (by omega),if_neg h50,if_neg h36,if_pos rfl]
end
end
end Go.Proofs.Ytdkidgkiplcggaa.d
end
section
open Go.Proofs Go Go.Am
namespace Go.Proofs.Ytdkidgkiplcggaa.d
def c1i:List (Nat×List Nat):=[]
def c1A:List (Nat×List Nat):=[]
def c1D:List (Nat×V5):=[]
def b3z(E:i9)(w0:j7)(Q:D→b8→Prop)(a0 a1:D)(S:b8):Prop:=
 b7 (o4 a0) fun cs=>j8 S cs fun v0 S1=>
 b7 (f9 .leq (.int .i64 1) a1) fun v2=>
 b7 (d8 (b9 v2 true) (some a1)) fun v3=>
 b7 (d8 (b9 v2 true) (f9 .leq v3 (.int .i64 5))) fun v4=>
 b7 (o0 v2 v4 (.bool false)) fun v5=>
 b7 (d8 (b9 v5 false) (some a1)) fun v6=>
 b7 (d8 (b9 v5 false) (f9 .geq v6 (.int .i64 16))) fun v7=>
 b7 (d8 (b9 v5 false) (some v7)) fun v8=>
 b7 (d8 (b9 v8 true) (some a1)) fun v9=>
 b7 (d8 (b9 v8 true) (f9 .sub v9 (.int .i64 16))) fun v10=>
 b7 (d8 (b9 v8 true) (j5 0 v0)) fun v11=>
 b7 (d8 (b9 v8 true) (d0 S1 v11)) fun v12=>
 b7 (d8 (b9 v8 true) (m9 v12)) fun v13=>
 b7 (d8 (b9 v8 true) (f9 .lss v10 v13)) fun v14=>
 b7 (d8 (b9 v5 false) (o0 v8 v14 (.bool false))) fun v15=>
 b7 (o0 v5 (.bool true) v15) fun v16=>
 Q v16 S1
theorem b6M{E:i9}{w0:j7}{Q:D→b8→Prop}{a0 a1:D}{S:b8}(h:b3z E w0 (d9 E Q) a0 a1 S):j6 Try.prog E w0 Q9 [a0,a1] S Q:=
 j4 c1i c1A c1D (fn:=Try.f134) (c:=Try.f134.body.getD .skip) mixed Try.func134 (by kernel_rfl) (by kernel_rfl) h
def b6D:List (Nat×List Nat):=[]
def b6F:List (Nat×List Nat):=[]
def b6T:List (Nat×V5):=[]
def a9S(E:i9)(w0:j7)(Q:D→b8→Prop)(a0 a1:D)(S:b8):Prop:=
 b7 (o4 a0) fun cs=>j8 S cs fun v0 S1=>
 b7 (o4 a1) fun cs=>j8 S1 cs fun v2 S3=>
 b7 (j5 1 v2) fun v4=>
 b7 (d0 S3 v4) fun v5=>
 b7 (c6O .eql v5 (.str [])) fun v6=>
 b7 (d8 (b9 v6 true) (j5 2 v2)) fun v7=>
 b7 (d8 (b9 v6 true) (d0 S3 v7)) fun v8=>
 b7 (d8 (b9 v6 true) (m9 v8)) fun v9=>
 b7 (d8 (b9 v6 true) (f9 .eql v9 (.int .i64 0))) fun v10=>
 b7 (o0 v6 v10 (.bool false)) fun v11=>
 b7 (d8 (b9 v11 true) (i4 S3 3 v0)) fun v12=>
 b7 (d8 (b9 v11 true) (j5 3 v2)) fun v13=>
 b7 (d8 (b9 v11 true) (d0 S3 v13)) fun v14=>
 p8 (b9 v11 true) (fun K=>j6 Try.prog E w0 Q9 [v12,v14] S3 K) S3 fun v15 S16=>
 b7 (o0 v11 v15 (.bool false)) fun v17=>
 b7 (j5 0 v2) fun v18=>
 b7 (d0 S16 v18) fun v19=>
 b7 (f9 .eql v19 (.int .u8 6)) fun v20=>
 i5 v20
 (b7 (j5 3 v2) fun v21=>
 b7 (d0 S16 v21) fun v22=>
 b7 (f9 .eql v22 (.int .i64 0)) fun v23=>
 b7 (d8 (b9 v23 true) (j5 4 v2)) fun v24=>
 b7 (d8 (b9 v23 true) (d0 S16 v24)) fun v25=>
 b7 (d8 (b9 v23 true) (f9 .eql v25 (.int .i64 0))) fun v26=>
 b7 (o0 v23 v26 (.bool false)) fun v27=>
 b7 (d8 (b9 v27 true) (j5 2 v2)) fun v28=>
 b7 (d8 (b9 v27 true) (d0 S16 v28)) fun v29=>
 b7 (d8 (b9 v27 true) (some (.fn (.func a0A) [] [v0]))) fun v30=>
 p8 (b9 v27 true) (fun K=>j6 Try.prog E w0 A8 [v29,v30] S16 K) S16 fun v31 S32=>
 b7 (d8 (b9 v27 true) (unD .not v31)) fun v33=>
 b7 (o0 v27 v33 (.bool false)) fun v34=>
 Q v34 S32)
 (b7 (f9 .eql v19 (.int .u8 7)) fun v35=>
 i5 v35
 (b7 (d8 (b9 v17 true) (j5 4 v2)) fun v36=>
 b7 (d8 (b9 v17 true) (d0 S16 v36)) fun v37=>
 b7 (d8 (b9 v17 true) (f9 .geq v37 (.int .i64 0))) fun v38=>
 b7 (o0 v17 v38 (.bool false)) fun v39=>
 b7 (d8 (b9 v39 true) (j5 4 v2)) fun v40=>
 b7 (d8 (b9 v39 true) (d0 S16 v40)) fun v41=>
 b7 (d8 (b9 v39 true) (f9 .leq v41 (.int .i64 65536))) fun v42=>
 b7 (o0 v39 v42 (.bool false)) fun v43=>
 Q v43 S16)
 (b7 (f9 .eql v19 (.int .u8 8)) fun v44=>
 i5 v44
 (b7 (d8 (b9 v17 true) (j5 4 v2)) fun v45=>
 b7 (d8 (b9 v17 true) (d0 S16 v45)) fun v46=>
 b7 (d8 (b9 v17 true) (f9 .eql v46 (.int .i64 0))) fun v47=>
 b7 (o0 v17 v47 (.bool false)) fun v48=>
 Q v48 S16)
 (Q (.bool false) S16)))
theorem b4p{E:i9}{w0:j7}{Q:D→b8→Prop}{a0 a1:D}{S:b8}(h:a9S E w0 (d9 E Q) a0 a1 S):j6 Try.prog E w0 a1M [a0,a1] S Q:=
 j4 b6D b6F b6T (fn:=Try.f119) (c:=Try.f119.body.getD .skip) mixed Try.func119 (by kernel_rfl) (by kernel_rfl) h
def b3J:List (Nat×List Nat):=[]
def b3B:List (Nat×List Nat):=[]
def b4h:List (Nat×V5):=[]
def a7m(E:i9)(w0:j7)(Q:D→b8→Prop)(a0 c0:D)(S:b8):Prop:=
 b7 (o4 a0) fun cs=>j8 S cs fun v0 S1=>
 b7 (i4 S1 3 c0) fun v2=>
 b7 (j5 1 v0) fun v3=>
 b7 (d0 S1 v3) fun v4=>
 j6 Try.prog E w0 Q9 [v2,v4] S1 fun v5 S6=>
 b7 (unD .not v5) fun v7=>
 Q v7 S6
theorem b0F{E:i9}{w0:j7}{Q:D→b8→Prop}{a0 c0:D}{S:b8}(h:a7m E w0 (d9 E Q) a0 c0 S):j6 Try.prog E w0 a0A [a0,c0] S Q:=
 j4 b3J b3B b4h (fn:=Try.f135) (c:=Try.f135.body.getD .skip) mixed Try.func135 (by kernel_rfl) (by kernel_rfl) h
def b6H:List (Nat×List Nat):=[]
def b7l:List (Nat×List Nat):=[]
def b6L:List (Nat×V5):=[]
def a9Z(E:i9)(w0:j7)(Q:D→b8→Prop)(a0 a1:D)(S:b8):Prop:=
 b7 (o4 a0) fun cs=>j8 S cs fun v0 S1=>
 b7 (o4 a1) fun cs=>j8 S1 cs fun v2 S3=>
 b7 (some (.fn (.func a2J) [] [v0])) fun v4=>
 b7 (j5 1 v2) fun v5=>
 b7 (d0 S3 v5) fun v6=>
 j6 Try.prog E w0 B9 [v6,v4] S3 fun v7 S8=>
 b7 (d8 (b9 v7 false) (j5 2 v2)) fun v9=>
 b7 (d8 (b9 v7 false) (d0 S8 v9)) fun v10=>
 b7 (d8 (b9 v7 false) (some v4)) fun v11=>
 p8 (b9 v7 false) (fun K=>j6 Try.prog E w0 B9 [v10,v11] S8 K) S8 fun v12 S13=>
 b7 (o0 v7 (.bool true) v12) fun v14=>
 b7 (d8 (b9 v14 false) (j5 3 v2)) fun v15=>
 b7 (d8 (b9 v14 false) (d0 S13 v15)) fun v16=>
 b7 (d8 (b9 v14 false) (j5 1 v2)) fun v17=>
 b7 (d8 (b9 v14 false) (d0 S13 v17)) fun v18=>
 b7 (d8 (b9 v14 false) (m9 v18)) fun v19=>
 b7 (d8 (b9 v14 false) (f9 .lss v16 v19)) fun v20=>
 b7 (o0 v14 (.bool true) v20) fun v21=>
 b7 (d8 (b9 v21 false) (j5 4 v2)) fun v22=>
 b7 (d8 (b9 v21 false) (d0 S13 v22)) fun v23=>
 b7 (d8 (b9 v21 false) (f9 .lss v23 (.int .i64 0))) fun v24=>
 b7 (o0 v21 (.bool true) v24) fun v25=>
 i5 v25
 (Q (.bool false) S13)
 (b7 (j5 5 v2) fun v26=>
 b7 (d0 S13 v26) fun v27=>
 j6 Try.prog E w0 a5u [v27] S13 fun v28 S29=>
 b7 (j2 v28 0) fun v30=>
 b7 (j2 v28 1) fun v31=>
 b7 (j2 v28 2) fun v32=>
 b7 (f9 .eql v32 (.int .i64 0)) fun v33=>
 b7 (d8 (b9 v33 true) (some v30)) fun v34=>
 b7 (d8 (b9 v33 true) (some (.fn (.func a2S) [] [v0,v2]))) fun v35=>
 p8 (b9 v33 true) (fun K=>j6 Try.prog E w0 G9 [v34,v35] S29 K) S29 fun v36 S37=>
 b7 (d8 (b9 v33 true) (unD .not v36)) fun v38=>
 b7 (o0 v33 v38 (.bool false)) fun v39=>
 Q v39 S37)
theorem b4n{E:i9}{w0:j7}{Q:D→b8→Prop}{a0 a1:D}{S:b8}(h:a9Z E w0 (d9 E Q) a0 a1 S):j6 Try.prog E w0 a1L [a0,a1] S Q:=
 j4 b6H b7l b6L (fn:=Try.f122) (c:=Try.f122.body.getD .skip) mixed Try.func122 (by kernel_rfl) (by kernel_rfl) h
def b4g:List (Nat×List Nat):=[]
def b3N:List (Nat×List Nat):=[]
def b4a:List (Nat×V5):=[]
def a7k(E:i9)(w0:j7)(Q:D→b8→Prop)(a0 c0:D)(S:b8):Prop:=
 b7 (i4 S 3 c0) fun v0=>
 j6 Try.prog E w0 Q9 [v0,a0] S fun v1 S2=>
 b7 (unD .not v1) fun v3=>
 Q v3 S2
theorem b1r{E:i9}{w0:j7}{Q:D→b8→Prop}{a0 c0:D}{S:b8}(h:a7k E w0 (d9 E Q) a0 c0 S):j6 Try.prog E w0 a2J [a0,c0] S Q:=
 j4 b4g b3N b4a (fn:=Try.f137) (c:=Try.f137.body.getD .skip) mixed Try.func137 (by kernel_rfl) (by kernel_rfl) h
def b4v:List (Nat×List Nat):=[]
def b4l:List (Nat×List Nat):=[]
def b3Z:List (Nat×V5):=[]
def a7i(E:i9)(w0:j7)(Q:D→b8→Prop)(a0 c0 c1:D)(S:b8):Prop:=
 b7 (o4 a0) fun cs=>j8 S cs fun v0 S1=>
 b7 (i4 S1 4 v0) fun v2=>
 b7 (i4 S1 3 c0) fun v3=>
 j6 Try.prog E w0 a0Z [v2,v3] S1 fun v4 S5=>
 b7 (j2 v4 0) fun v6=>
 b7 (j2 v4 1) fun v7=>
 b7 (j2 v4 2) fun v8=>
 b7 (f9 .neq v8 (.int .i64 0)) fun v9=>
 b7 (d8 (b9 v9 false) (j5 0 v0)) fun v10=>
 b7 (d8 (b9 v9 false) (d0 S5 v10)) fun v11=>
 b7 (d8 (b9 v9 false) (f9 .eql v11 (.int .u8 7))) fun v12=>
 b7 (d8 (b9 v9 false) (some v12)) fun v13=>
 b7 (d8 (b9 v13 false) (j5 0 v0)) fun v14=>
 b7 (d8 (b9 v13 false) (d0 S5 v14)) fun v15=>
 b7 (d8 (b9 v13 false) (f9 .eql v15 (.int .u8 8))) fun v16=>
 b7 (d8 (b9 v9 false) (o0 v13 (.bool true) v16)) fun v17=>
 b7 (d8 (b9 v9 false) (some v17)) fun v18=>
 b7 (d8 (b9 v18 true) (j5 1 v0)) fun v19=>
 b7 (d8 (b9 v18 true) (d0 S5 v19)) fun v20=>
 b7 (d8 (b9 v18 true) (j5 3 c1)) fun v21=>
 b7 (d8 (b9 v18 true) (d0 S5 v21)) fun v22=>
 b7 (d8 (b9 v18 true) (f9 .geq v20 v22)) fun v23=>
 b7 (d8 (b9 v9 false) (o0 v18 v23 (.bool false))) fun v24=>
 b7 (o0 v9 (.bool true) v24) fun v25=>
 Q v25 S5
theorem b1t{E:i9}{w0:j7}{Q:D→b8→Prop}{a0 c0 c1:D}{S:b8}(h:a7i E w0 (d9 E Q) a0 c0 c1 S):j6 Try.prog E w0 a2S [a0,c0,c1] S Q:=
 j4 b4v b4l b3Z (fn:=Try.f139) (c:=Try.f139.body.getD .skip) mixed Try.func139 (by kernel_rfl) (by kernel_rfl) h
def w9:List (Nat×List Nat):=[(8,[1,24,25,26]),(32,[1,52,53,54])]
def y8:List (Nat×List Nat):=[(37,[1,4,24,25,26,30]),(97,[1,6,52,53,54,58])]
def w8:List (Nat×V5):=[]
noncomputable def b1Z:Code:=(j9 [1,1,0,1,0,0,1,1,0,0,1,0,1] (Try.f99.body.getD .skip))
def b0g(E:i9)(w0:j7)(N0:D→D→D→D→b8→Prop)(Q:D→b8→Prop):o7→List D→b8→Prop:=
 (r8 2 (r8 1 (L3 Try.prog E w0 w9 y8 w8 (j9 [1,1,0,1,0,0,1,1,1] (Try.f99.body.getD .skip)) (D8 (fun T S=>N0 (T.getD 1 c9) (T.getD 24 c9) (T.getD 25 c9) (T.getD 26 c9) S) (r8 0 (L3 Try.prog E w0 w9 y8 w8 (j9 [1,1,1] (Try.f99.body.getD .skip)) (F3 Try.prog Try.f99 Q)))))))
def a4j(E:i9)(w0:j7)(N0:D→D→D→D→b8→Prop)(Q:D→b8→Prop)(x1 x4 x24 x25 x26 x30:D)(S:b8):Prop:=
 i5 x30
 (Q (.int .i64 3) S)
 (b7 (i4 S 3 x1) fun v26=>
 b7 (i4 S 5 x4) fun v27=>
 j6 Try.prog E w0 a1M [v26,v27] S fun v28 S29=>
 b7 (unD .not v28) fun v30=>
 i5 v30
 (Q (.int .i64 130) S29)
 (b7 (f9 .add x26 (.int .i64 1)) fun v31=>
 N0 x1 x24 x25 v31 S29))
def J7(E:i9)(w0:j7)(N0:D→D→D→D→b8→Prop)(Q:D→b8→Prop)(x1 x4 x24 x25 x26 x30:D)(S:b8):Prop:=j3 Try.prog E w0 b1Z (l9 87 [1,4,24,25,26,30] [x1,x4,x24,x25,x26,x30]) S (b0g E w0 N0 Q)
theorem a8f{E:i9}{w0:j7}{N0:D→D→D→D→b8→Prop}{Q:D→b8→Prop}{x1 x4 x24 x25 x26 x30:D}{S:b8}(h:a4j E w0 N0 Q x1 x4 x24 x25 x26 x30 S):J7 E w0 N0 Q x1 x4 x24 x25 x26 x30 S:=j0 w9 y8 w8 mixed (by kernel_rfl) h
noncomputable def b1C:Code:=(j9 [1,1,1,1,0,1,0,0,1,1,0,0,1,0,1] (Try.f99.body.getD .skip))
def b0t(E:i9)(w0:j7)(N1:D→D→D→D→b8→Prop)(Q:D→b8→Prop):o7→List D→b8→Prop:=
 (r8 5 (r8 4 (L3 Try.prog E w0 w9 y8 w8 (j9 [1,1,1,1,0,1,0,0,1,1,1] (Try.f99.body.getD .skip)) (D8 (fun T S=>N1 (T.getD 1 c9) (T.getD 52 c9) (T.getD 53 c9) (T.getD 54 c9) S) (r8 3 (L3 Try.prog E w0 w9 y8 w8 (j9 [1,1,1,1,1] (Try.f99.body.getD .skip)) (F3 Try.prog Try.f99 Q)))))))
def a4o(E:i9)(w0:j7)(N1:D→D→D→D→b8→Prop)(Q:D→b8→Prop)(x1 x6 x52 x53 x54 x58:D)(S:b8):Prop:=
 i5 x58
 (Q (.int .i64 3) S)
 (b7 (i4 S 3 x1) fun v58=>
 b7 (i4 S 6 x6) fun v59=>
 j6 Try.prog E w0 a1L [v58,v59] S fun v60 S61=>
 b7 (unD .not v60) fun v62=>
 i5 v62
 (Q (.int .i64 130) S61)
 (b7 (f9 .add x54 (.int .i64 1)) fun v63=>
 N1 x1 x52 x53 v63 S61))
def B7(E:i9)(w0:j7)(N1:D→D→D→D→b8→Prop)(Q:D→b8→Prop)(x1 x6 x52 x53 x54 x58:D)(S:b8):Prop:=j3 Try.prog E w0 b1C (l9 87 [1,6,52,53,54,58] [x1,x6,x52,x53,x54,x58]) S (b0t E w0 N1 Q)
theorem a8g{E:i9}{w0:j7}{N1:D→D→D→D→b8→Prop}{Q:D→b8→Prop}{x1 x6 x52 x53 x54 x58:D}{S:b8}(h:a4o E w0 N1 Q x1 x6 x52 x53 x54 x58 S):B7 E w0 N1 Q x1 x6 x52 x53 x54 x58 S:=j0 w9 y8 w8 mixed (by kernel_rfl) h
noncomputable def a1s:Code:=(j9 [1,1,1,1,0,1,0,0] (Try.f99.body.getD .skip))
def a1u(E:i9)(w0:j7)(Q:D→b8→Prop):o7→List D→b8→Prop:=
 (r8 3 (L3 Try.prog E w0 w9 y8 w8 (j9 [1,1,1,1,1] (Try.f99.body.getD .skip)) (F3 Try.prog Try.f99 Q)))
def a1y(E:i9)(w0:j7)(N1:D→D→D→D→b8→Prop)(Q:D→b8→Prop)(x1 x52 x53 x54:D)(S:b8):Prop:=
 b7 (f9 .lss x54 x53) fun v51=>
 i5 v51
 (b7 (p9 6 x52 x54) fun v52=>
 b7 (i4 S 6 v52) fun v53=>
 j8 S [(.str []), .nilSlc, .nilSlc,(.int .i64 0),(.int .i64 0), .nilSlc] fun v54 S55=>
 i7 S55 6 v54 v53 fun v56 S57=>
 b7 (j5 1 v54) fun v64=>
 b7 (d0 S57 v64) fun v65=>
 b7 (m9 v65) fun v66=>
 b7 (f9 .gtr v66 (.int .i64 32)) fun v67=>
 i5 v67
 (B7 E w0 N1 Q x1 v54 x52 x53 x54 v67 S57)
 (b7 (j5 2 v54) fun v68=>
 b7 (d0 S57 v68) fun v69=>
 b7 (m9 v69) fun v70=>
 b7 (f9 .gtr v70 (.int .i64 8)) fun v71=>
 i5 v71
 (B7 E w0 N1 Q x1 v54 x52 x53 x54 v71 S57)
 (b7 (j5 3 v54) fun v72=>
 b7 (d0 S57 v72) fun v73=>
 b7 (f9 .gtr v73 (.int .i64 256)) fun v74=>
 i5 v74
 (B7 E w0 N1 Q x1 v54 x52 x53 x54 v74 S57)
 (b7 (j5 4 v54) fun v75=>
 b7 (d0 S57 v75) fun v76=>
 b7 (f9 .gtr v76 (.int .i64 4096)) fun v77=>
 i5 v77
 (B7 E w0 N1 Q x1 v54 x52 x53 x54 v77 S57)
 (b7 (j5 5 v54) fun v78=>
 b7 (d0 S57 v78) fun v79=>
 b7 (m9 v79) fun v80=>
 b7 (f9 .gtr v80 (.int .i64 65536)) fun v81=>
 i5 v81
 (B7 E w0 N1 Q x1 v54 x52 x53 x54 v81 S57)
 (b7 (j5 0 v54) fun v82=>
 b7 (d0 S57 v82) fun v83=>
 b7 (a9l v83) fun v84=>
 b7 (f9 .gtr v84 (.int .i64 65536)) fun v85=>
 B7 E w0 N1 Q x1 v54 x52 x53 x54 v85 S57))))))
 (Q (.int .i64 0) S)
theorem a9y{E:i9}{w0:j7}{N1:D→D→D→D→b8→Prop}{Q:D→b8→Prop}{x1 x52 x53 x54:D}{S:b8}(h:a1y E w0 N1 Q x1 x52 x53 x54 S):
  j3 Try.prog E w0 a1s (l9 87 [1,52,53,54] [x1,x52,x53,x54]) S (D8 (fun T S=>N1 (T.getD 1 c9) (T.getD 52 c9) (T.getD 53 c9) (T.getD 54 c9) S) (a1u E w0 Q)):=j0 w9 y8 w8 mixed (by kernel_rfl) h
theorem a8S{E:i9}{w0:j7}{Q:D→b8→Prop}(I:Nat→D→D→D→D→b8→Prop)
  (step:∀n x1 x52 x53 x54 S,I n x1 x52 x53 x54 S→a1y E w0 (fun x1 x52 x53 x54 S=>∃m,m<n∧I m x1 x52 x53 x54 S) Q x1 x52 x53 x54 S)
  {n:Nat} {x1 x52 x53 x54:D} {S:b8} (h:I n x1 x52 x53 x54 S):j3 Try.prog E w0 (.loop a1s) (l9 87 [1,52,53,54] [x1,x52,x53,x54]) S (a1u E w0 Q):=
 q9 (k:=87) (n:=n) (I:=fun n T S=>I n (T.getD 1 c9) (T.getD 52 c9) (T.getD 53 c9) (T.getD 54 c9) S) (fun n T S hl hI=>s4 [1,52,53,54] hl (j3.mono (a9y (step n _ _ _ _ S hI)) fun ex T' S' _ hq=>by cases ex<;>exact hq)) (o5 ..) (Eq.mp (by kernel_rfl) h)
noncomputable def a1w:Code:=(j9 [1,1,0,1,0,0] (Try.f99.body.getD .skip))
def a1t(E:i9)(w0:j7)(Q:D→b8→Prop):o7→List D→b8→Prop:=
 (r8 0 (L3 Try.prog E w0 w9 y8 w8 (j9 [1,1,1] (Try.f99.body.getD .skip)) (F3 Try.prog Try.f99 Q)))
def a1x(E:i9)(w0:j7)(N0:D→D→D→D→b8→Prop)(Q:D→b8→Prop)(x1 x24 x25 x26:D)(S:b8):Prop:=
 b7 (f9 .lss x26 x25) fun v19=>
 i5 v19
 (b7 (p9 5 x24 x26) fun v20=>
 b7 (i4 S 5 v20) fun v21=>
 j8 S [(.int .u8 0),(.str []), .nilSlc,(.int .i64 0),(.int .i64 0)] fun v22 S23=>
 i7 S23 5 v22 v21 fun v24 S25=>
 b7 (j5 2 v22) fun v32=>
 b7 (d0 S25 v32) fun v33=>
 b7 (m9 v33) fun v34=>
 b7 (f9 .gtr v34 (.int .i64 32)) fun v35=>
 i5 v35
 (J7 E w0 N0 Q x1 v22 x24 x25 x26 v35 S25)
 (b7 (j5 1 v22) fun v36=>
 b7 (d0 S25 v36) fun v37=>
 b7 (a9l v37) fun v38=>
 b7 (f9 .gtr v38 (.int .i64 65536)) fun v39=>
 i5 v39
 (J7 E w0 N0 Q x1 v22 x24 x25 x26 v39 S25)
 (b7 (j5 2 v22) fun v40=>
 b7 (d0 S25 v40) fun v41=>
 j6 Try.prog E w0 A8 [v41,(.fn (.func a1v) [] [])] S25 fun v42 S43=>
 J7 E w0 N0 Q x1 v22 x24 x25 x26 v42 S43)))
 (b7 (j5 1 x1) fun v44=>
 b7 (d0 S v44) fun v45=>
 j6 Try.prog E w0 K8 [v45,(.fn (.func a1A) [] [])] S fun v46 S47=>
 i5 v46
 (Q (.int .i64 3) S47)
 (b7 (j5 2 x1) fun v48=>
 b7 (d0 S47 v48) fun v49=>
 b7 (m9 v49) fun v50=>
 j3 Try.prog E w0 (.loop a1s) (l9 87 [1,52,53,54] [x1,v49,v50,(.int .i64 0)]) S47 (a1u E w0 Q)))
theorem a9z{E:i9}{w0:j7}{N0:D→D→D→D→b8→Prop}{Q:D→b8→Prop}{x1 x24 x25 x26:D}{S:b8}(h:a1x E w0 N0 Q x1 x24 x25 x26 S):
  j3 Try.prog E w0 a1w (l9 87 [1,24,25,26] [x1,x24,x25,x26]) S (D8 (fun T S=>N0 (T.getD 1 c9) (T.getD 24 c9) (T.getD 25 c9) (T.getD 26 c9) S) (a1t E w0 Q)):=j0 w9 y8 w8 mixed (by kernel_rfl) h
theorem a9n{E:i9}{w0:j7}{Q:D→b8→Prop}(I:Nat→D→D→D→D→b8→Prop)
  (step:∀n x1 x24 x25 x26 S,I n x1 x24 x25 x26 S→a1x E w0 (fun x1 x24 x25 x26 S=>∃m,m<n∧I m x1 x24 x25 x26 S) Q x1 x24 x25 x26 S)
  {n:Nat} {x1 x24 x25 x26:D} {S:b8} (h:I n x1 x24 x25 x26 S):j3 Try.prog E w0 (.loop a1w) (l9 87 [1,24,25,26] [x1,x24,x25,x26]) S (a1t E w0 Q):=
 q9 (k:=87) (n:=n) (I:=fun n T S=>I n (T.getD 1 c9) (T.getD 24 c9) (T.getD 25 c9) (T.getD 26 c9) S) (fun n T S hl hI=>s4 [1,24,25,26] hl (j3.mono (a9z (step n _ _ _ _ S hI)) fun ex T' S' _ hq=>by cases ex<;>exact hq)) (o5 ..) (Eq.mp (by kernel_rfl) h)
def a7g(E:i9)(w0:j7)(Q:D→b8→Prop)(a0:D)(S:b8):Prop:=
 b7 (o4 a0) fun cs=>j8 S cs fun v0 S1=>
 b7 (j5 0 v0) fun v2=>
 b7 (d0 S1 v2) fun v3=>
 b7 (m9 v3) fun v4=>
 b7 (f9 .gtr v4 (.int .i64 256)) fun v5=>
 b7 (d8 (b9 v5 false) (j5 1 v0)) fun v6=>
 b7 (d8 (b9 v5 false) (d0 S1 v6)) fun v7=>
 b7 (d8 (b9 v5 false) (m9 v7)) fun v8=>
 b7 (d8 (b9 v5 false) (f9 .gtr v8 (.int .i64 32768))) fun v9=>
 b7 (o0 v5 (.bool true) v9) fun v10=>
 b7 (d8 (b9 v10 false) (j5 2 v0)) fun v11=>
 b7 (d8 (b9 v10 false) (d0 S1 v11)) fun v12=>
 b7 (d8 (b9 v10 false) (m9 v12)) fun v13=>
 b7 (d8 (b9 v10 false) (f9 .gtr v13 (.int .i64 256))) fun v14=>
 b7 (o0 v10 (.bool true) v14) fun v15=>
 i5 v15
 (Q (.int .i64 3) S1)
 (b7 (j5 0 v0) fun v16=>
 b7 (d0 S1 v16) fun v17=>
 b7 (m9 v17) fun v18=>
 j3 Try.prog E w0 (.loop a1w) (l9 87 [1,24,25,26] [v0,v17,v18,(.int .i64 0)]) S1 (a1t E w0 Q))
theorem b1m{E:i9}{w0:j7}{Q:D→b8→Prop}{a0:D}{S:b8}(h:a7g E w0 (d9 E Q) a0 S):j6 Try.prog E w0 a2N [a0] S Q:=
 j4 w9 y8 w8 (fn:=Try.f99) (c:=Try.f99.body.getD .skip) mixed Try.func99 (by kernel_rfl) (by kernel_rfl) h
def b0V:List (Nat×List Nat):=[]
def b0D:List (Nat×List Nat):=[]
def b1X:List (Nat×V5):=[]
def a4R(E:i9)(w0:j7)(Q:D→b8→Prop)(a0:D)(S:b8):Prop:=
 b7 (o4 a0) fun cs=>j8 S cs fun v0 S1=>
 b7 (j5 0 v0) fun v2=>
 b7 (d0 S1 v2) fun v3=>
 b7 (a9l v3) fun v4=>
 b7 (f9 .gtr v4 (.int .i64 65536)) fun v5=>
 Q v5 S1
theorem a8Y{E:i9}{w0:j7}{Q:D→b8→Prop}{a0:D}{S:b8}(h:a4R E w0 (d9 E Q) a0 S):j6 Try.prog E w0 a1v [a0] S Q:=
 j4 b0V b0D b1X (fn:=Try.f118) (c:=Try.f118.body.getD .skip) mixed Try.func118 (by kernel_rfl) (by kernel_rfl) h
def b0x:List (Nat×List Nat):=[]
def b0X:List (Nat×List Nat):=[]
def b0A:List (Nat×V5):=[]
def a4P(E:i9)(w0:j7)(Q:D→b8→Prop)(a0:D)(S:b8):Prop:=
 b7 (a9l a0) fun v0=>
 b7 (f9 .gtr v0 (.int .i64 65536)) fun v1=>
 Q v1 S
theorem a9E{E:i9}{w0:j7}{Q:D→b8→Prop}{a0:D}{S:b8}(h:a4P E w0 (d9 E Q) a0 S):j6 Try.prog E w0 a1A [a0] S Q:=
 j4 b0x b0X b0A (fn:=Try.f121) (c:=Try.f121.body.getD .skip) mixed Try.func121 (by kernel_rfl) (by kernel_rfl) h
def a2U:List (Nat×List Nat):=[]
def a2M:List (Nat×List Nat):=[]
def a2x:List (Nat×V5):=[]
def U8(E:i9)(w0:j7)(Q:D→b8→Prop)(a0 a1:D)(S:b8):Prop:=
 j6 Try.prog E w0 K5 [a0,a1] S fun v0 S1=>
 b7 (f9 .geq v0 (.int .i64 0)) fun v2=>
 Q v2 S1
theorem a1X{E:i9}{w0:j7}{Q:D→b8→Prop}{a0 a1:D}{S:b8}(h:U8 E w0 (d9 E Q) a0 a1 S):j6 Try.prog E w0 A8 [a0,a1] S Q:=
 j4 a2U a2M a2x (fn:=Try.f117) (c:=Try.f117.body.getD .skip) mixed Try.func117 (by kernel_rfl) (by kernel_rfl) h
def a4r:List (Nat×List Nat):=[]
def a4A:List (Nat×List Nat):=[]
def a4a:List (Nat×V5):=[]
def a0a(E:i9)(w0:j7)(Q:D→b8→Prop)(a0 a1:D)(S:b8):Prop:=
 j6 Try.prog E w0 P5 [a0,a1] S fun v0 S1=>
 b7 (f9 .geq v0 (.int .i64 0)) fun v2=>
 Q v2 S1
theorem a3c{E:i9}{w0:j7}{Q:D→b8→Prop}{a0 a1:D}{S:b8}(h:a0a E w0 (d9 E Q) a0 a1 S):j6 Try.prog E w0 K8 [a0,a1] S Q:=
 j4 a4r a4A a4a (fn:=Try.f120) (c:=Try.f120.body.getD .skip) mixed Try.func120 (by kernel_rfl) (by kernel_rfl) h
def a5N:List (Nat×List Nat):=[]
def a5R:List (Nat×List Nat):=[]
def a6r:List (Nat×V5):=[]
def a1r(E:i9)(w0:j7)(Q:D→b8→Prop)(a0 a1:D)(S:b8):Prop:=
 j6 Try.prog E w0 Y9 [a0,a1] S fun v0 S1=>
 b7 (f9 .geq v0 (.int .i64 0)) fun v2=>
 Q v2 S1
theorem a4B{E:i9}{w0:j7}{Q:D→b8→Prop}{a0 a1:D}{S:b8}(h:a1r E w0 (d9 E Q) a0 a1 S):j6 Try.prog E w0 B9 [a0,a1] S Q:=
 j4 a5N a5R a6r (fn:=Try.f65) (c:=Try.f65.body.getD .skip) mixed Try.func65 (by kernel_rfl) (by kernel_rfl) h
def a2O:List (Nat×List Nat):=[]
def a2Q:List (Nat×List Nat):=[]
def a2v:List (Nat×V5):=[]
def U9(E:i9)(w0:j7)(Q:D→b8→Prop)(a0 a1:D)(S:b8):Prop:=
 j6 Try.prog E w0 K6 [a0,a1] S fun v0 S1=>
 b7 (f9 .geq v0 (.int .i64 0)) fun v2=>
 Q v2 S1
theorem a1V{E:i9}{w0:j7}{Q:D→b8→Prop}{a0 a1:D}{S:b8}(h:U9 E w0 (d9 E Q) a0 a1 S):j6 Try.prog E w0 G9 [a0,a1] S Q:=
 j4 a2O a2Q a2v (fn:=Try.f138) (c:=Try.f138.body.getD .skip) mixed Try.func138 (by kernel_rfl) (by kernel_rfl) h
def J3:List (Nat×List Nat):=[(4,[0,1,7,8])]
def J5:List (Nat×List Nat):=[]
def J8:List (Nat×V5):=[]
noncomputable def I0:Code:=(j9 [1,0,1,0,0] (Try.f133.body.getD .skip))
def I5(E:i9)(w0:j7)(Q:D→b8→Prop):o7→List D→b8→Prop:=
 (r8 0 (L3 Try.prog E w0 J3 J5 J8 (j9 [1,1] (Try.f133.body.getD .skip)) (F3 Try.prog Try.f133 Q)))
def I6(E:i9)(w0:j7)(N0:D→D→D→D→b8→Prop)(Q:D→b8→Prop)(x0 x1 x7 x8:D)(S:b8):Prop:=
 b7 (f9 .lss x8 x7) fun v1=>
 i5 v1
 (b7 (p9 2 x0 x8) fun v2=>
 b7 (i4 S 2 v2) fun v3=>
 a1Q Try.prog (j6 Try.prog E w0) S x1 [v3] fun v4 S5=>
 i5 v4
 (Q x8 S5)
 (b7 (f9 .add x8 (.int .i64 1)) fun v6=>
 N0 x0 x1 x7 v6 S5))
 (Q (.int .i64 (-1)) S)
theorem a2s{E:i9}{w0:j7}{N0:D→D→D→D→b8→Prop}{Q:D→b8→Prop}{x0 x1 x7 x8:D}{S:b8}(h:I6 E w0 N0 Q x0 x1 x7 x8 S):
  j3 Try.prog E w0 I0 (l9 19 [0,1,7,8] [x0,x1,x7,x8]) S (D8 (fun T S=>N0 (T.getD 0 c9) (T.getD 1 c9) (T.getD 7 c9) (T.getD 8 c9) S) (I5 E w0 Q)):=j0 J3 J5 J8 mixed (by kernel_rfl) h
theorem a2q{E:i9}{w0:j7}{Q:D→b8→Prop}(I:Nat→D→D→D→D→b8→Prop)
  (step:∀n x0 x1 x7 x8 S,I n x0 x1 x7 x8 S→I6 E w0 (fun x0 x1 x7 x8 S=>∃m,m<n∧I m x0 x1 x7 x8 S) Q x0 x1 x7 x8 S)
  {n:Nat} {x0 x1 x7 x8:D} {S:b8} (h:I n x0 x1 x7 x8 S):j3 Try.prog E w0 (.loop I0) (l9 19 [0,1,7,8] [x0,x1,x7,x8]) S (I5 E w0 Q):=
 q9 (k:=19) (n:=n) (I:=fun n T S=>I n (T.getD 0 c9) (T.getD 1 c9) (T.getD 7 c9) (T.getD 8 c9) S) (fun n T S hl hI=>s4 [0,1,7,8] hl (j3.mono (a2s (step n _ _ _ _ S hI)) fun ex T' S' _ hq=>by cases ex<;>exact hq)) (o5 ..) (Eq.mp (by kernel_rfl) h)
def a0j(E:i9)(w0:j7)(Q:D→b8→Prop)(a0 a1:D)(S:b8):Prop:=
 b7 (m9 a0) fun v0=>
 j3 Try.prog E w0 (.loop I0) (l9 19 [0,1,7,8] [a0,a1,v0,(.int .i64 0)]) S (I5 E w0 Q)
theorem a3d{E:i9}{w0:j7}{Q:D→b8→Prop}{a0 a1:D}{S:b8}(h:a0j E w0 (d9 E Q) a0 a1 S):j6 Try.prog E w0 K5 [a0,a1] S Q:=
 j4 J3 J5 J8 (fn:=Try.f133) (c:=Try.f133.body.getD .skip) mixed Try.func133 (by kernel_rfl) (by kernel_rfl) h
def N8:List (Nat×List Nat):=[(4,[0,1,7,8])]
def O1:List (Nat×List Nat):=[]
def O0:List (Nat×V5):=[]
noncomputable def M7:Code:=(j9 [1,0,1,0,0] (Try.f136.body.getD .skip))
def M4(E:i9)(w0:j7)(Q:D→b8→Prop):o7→List D→b8→Prop:=
 (r8 0 (L3 Try.prog E w0 N8 O1 O0 (j9 [1,1] (Try.f136.body.getD .skip)) (F3 Try.prog Try.f136 Q)))
def L8(E:i9)(w0:j7)(N0:D→D→D→D→b8→Prop)(Q:D→b8→Prop)(x0 x1 x7 x8:D)(S:b8):Prop:=
 b7 (f9 .lss x8 x7) fun v1=>
 i5 v1
 (b7 (p9 1 x0 x8) fun v2=>
 b7 (d0 S v2) fun v3=>
 a1Q Try.prog (j6 Try.prog E w0) S x1 [v3] fun v4 S5=>
 i5 v4
 (Q x8 S5)
 (b7 (f9 .add x8 (.int .i64 1)) fun v6=>
 N0 x0 x1 x7 v6 S5))
 (Q (.int .i64 (-1)) S)
theorem a3x{E:i9}{w0:j7}{N0:D→D→D→D→b8→Prop}{Q:D→b8→Prop}{x0 x1 x7 x8:D}{S:b8}(h:L8 E w0 N0 Q x0 x1 x7 x8 S):
  j3 Try.prog E w0 M7 (l9 19 [0,1,7,8] [x0,x1,x7,x8]) S (D8 (fun T S=>N0 (T.getD 0 c9) (T.getD 1 c9) (T.getD 7 c9) (T.getD 8 c9) S) (M4 E w0 Q)):=j0 N8 O1 O0 mixed (by kernel_rfl) h
theorem a3H{E:i9}{w0:j7}{Q:D→b8→Prop}(I:Nat→D→D→D→D→b8→Prop)
  (step:∀n x0 x1 x7 x8 S,I n x0 x1 x7 x8 S→L8 E w0 (fun x0 x1 x7 x8 S=>∃m,m<n∧I m x0 x1 x7 x8 S) Q x0 x1 x7 x8 S)
  {n:Nat} {x0 x1 x7 x8:D} {S:b8} (h:I n x0 x1 x7 x8 S):j3 Try.prog E w0 (.loop M7) (l9 19 [0,1,7,8] [x0,x1,x7,x8]) S (M4 E w0 Q):=
 q9 (k:=19) (n:=n) (I:=fun n T S=>I n (T.getD 0 c9) (T.getD 1 c9) (T.getD 7 c9) (T.getD 8 c9) S) (fun n T S hl hI=>s4 [0,1,7,8] hl (j3.mono (a3x (step n _ _ _ _ S hI)) fun ex T' S' _ hq=>by cases ex<;>exact hq)) (o5 ..) (Eq.mp (by kernel_rfl) h)
def a1p(E:i9)(w0:j7)(Q:D→b8→Prop)(a0 a1:D)(S:b8):Prop:=
 b7 (m9 a0) fun v0=>
 j3 Try.prog E w0 (.loop M7) (l9 19 [0,1,7,8] [a0,a1,v0,(.int .i64 0)]) S (M4 E w0 Q)
theorem a4E{E:i9}{w0:j7}{Q:D→b8→Prop}{a0 a1:D}{S:b8}(h:a1p E w0 (d9 E Q) a0 a1 S):j6 Try.prog E w0 P5 [a0,a1] S Q:=
 j4 N8 O1 O0 (fn:=Try.f136) (c:=Try.f136.body.getD .skip) mixed Try.func136 (by kernel_rfl) (by kernel_rfl) h
def W6:List (Nat×List Nat):=[(4,[0,1,7,8])]
def W1:List (Nat×List Nat):=[]
def W0:List (Nat×V5):=[]
noncomputable def R9:Code:=(j9 [1,0,1,0,0] (Try.f91.body.getD .skip))
def U7(E:i9)(w0:j7)(Q:D→b8→Prop):o7→List D→b8→Prop:=
 (r8 0 (L3 Try.prog E w0 W6 W1 W0 (j9 [1,1] (Try.f91.body.getD .skip)) (F3 Try.prog Try.f91 Q)))
def U2(E:i9)(w0:j7)(N0:D→D→D→D→b8→Prop)(Q:D→b8→Prop)(x0 x1 x7 x8:D)(S:b8):Prop:=
 b7 (f9 .lss x8 x7) fun v1=>
 i5 v1
 (b7 (p9 1 x0 x8) fun v2=>
 b7 (d0 S v2) fun v3=>
 a1Q Try.prog (j6 Try.prog E w0) S x1 [v3] fun v4 S5=>
 i5 v4
 (Q x8 S5)
 (b7 (f9 .add x8 (.int .i64 1)) fun v6=>
 N0 x0 x1 x7 v6 S5))
 (Q (.int .i64 (-1)) S)
theorem a5d{E:i9}{w0:j7}{N0:D→D→D→D→b8→Prop}{Q:D→b8→Prop}{x0 x1 x7 x8:D}{S:b8}(h:U2 E w0 N0 Q x0 x1 x7 x8 S):
  j3 Try.prog E w0 R9 (l9 19 [0,1,7,8] [x0,x1,x7,x8]) S (D8 (fun T S=>N0 (T.getD 0 c9) (T.getD 1 c9) (T.getD 7 c9) (T.getD 8 c9) S) (U7 E w0 Q)):=j0 W6 W1 W0 mixed (by kernel_rfl) h
theorem a5m{E:i9}{w0:j7}{Q:D→b8→Prop}(I:Nat→D→D→D→D→b8→Prop)
  (step:∀n x0 x1 x7 x8 S,I n x0 x1 x7 x8 S→U2 E w0 (fun x0 x1 x7 x8 S=>∃m,m<n∧I m x0 x1 x7 x8 S) Q x0 x1 x7 x8 S)
  {n:Nat} {x0 x1 x7 x8:D} {S:b8} (h:I n x0 x1 x7 x8 S):j3 Try.prog E w0 (.loop R9) (l9 19 [0,1,7,8] [x0,x1,x7,x8]) S (U7 E w0 Q):=
 q9 (k:=19) (n:=n) (I:=fun n T S=>I n (T.getD 0 c9) (T.getD 1 c9) (T.getD 7 c9) (T.getD 8 c9) S) (fun n T S hl hI=>s4 [0,1,7,8] hl (j3.mono (a5d (step n _ _ _ _ S hI)) fun ex T' S' _ hq=>by cases ex<;>exact hq)) (o5 ..) (Eq.mp (by kernel_rfl) h)
def a2X(E:i9)(w0:j7)(Q:D→b8→Prop)(a0 a1:D)(S:b8):Prop:=
 b7 (m9 a0) fun v0=>
 j3 Try.prog E w0 (.loop R9) (l9 19 [0,1,7,8] [a0,a1,v0,(.int .i64 0)]) S (U7 E w0 Q)
theorem a6L{E:i9}{w0:j7}{Q:D→b8→Prop}{a0 a1:D}{S:b8}(h:a2X E w0 (d9 E Q) a0 a1 S):j6 Try.prog E w0 Y9 [a0,a1] S Q:=
 j4 W6 W1 W0 (fn:=Try.f91) (c:=Try.f91.body.getD .skip) mixed Try.func91 (by kernel_rfl) (by kernel_rfl) h
def K2:List (Nat×List Nat):=[(4,[0,1,7,8])]
def J4:List (Nat×List Nat):=[]
def J6:List (Nat×V5):=[]
noncomputable def I2:Code:=(j9 [1,0,1,0,0] (Try.f142.body.getD .skip))
def I1(E:i9)(w0:j7)(Q:D→b8→Prop):o7→List D→b8→Prop:=
 (r8 0 (L3 Try.prog E w0 K2 J4 J6 (j9 [1,1] (Try.f142.body.getD .skip)) (F3 Try.prog Try.f142 Q)))
def I4(E:i9)(w0:j7)(N0:D→D→D→D→b8→Prop)(Q:D→b8→Prop)(x0 x1 x7 x8:D)(S:b8):Prop:=
 b7 (f9 .lss x8 x7) fun v1=>
 i5 v1
 (b7 (p9 4 x0 x8) fun v2=>
 b7 (i4 S 4 v2) fun v3=>
 a1Q Try.prog (j6 Try.prog E w0) S x1 [v3] fun v4 S5=>
 i5 v4
 (Q x8 S5)
 (b7 (f9 .add x8 (.int .i64 1)) fun v6=>
 N0 x0 x1 x7 v6 S5))
 (Q (.int .i64 (-1)) S)
theorem a2p{E:i9}{w0:j7}{N0:D→D→D→D→b8→Prop}{Q:D→b8→Prop}{x0 x1 x7 x8:D}{S:b8}(h:I4 E w0 N0 Q x0 x1 x7 x8 S):
  j3 Try.prog E w0 I2 (l9 19 [0,1,7,8] [x0,x1,x7,x8]) S (D8 (fun T S=>N0 (T.getD 0 c9) (T.getD 1 c9) (T.getD 7 c9) (T.getD 8 c9) S) (I1 E w0 Q)):=j0 K2 J4 J6 mixed (by kernel_rfl) h
theorem a2r{E:i9}{w0:j7}{Q:D→b8→Prop}(I:Nat→D→D→D→D→b8→Prop)
  (step:∀n x0 x1 x7 x8 S,I n x0 x1 x7 x8 S→I4 E w0 (fun x0 x1 x7 x8 S=>∃m,m<n∧I m x0 x1 x7 x8 S) Q x0 x1 x7 x8 S)
  {n:Nat} {x0 x1 x7 x8:D} {S:b8} (h:I n x0 x1 x7 x8 S):j3 Try.prog E w0 (.loop I2) (l9 19 [0,1,7,8] [x0,x1,x7,x8]) S (I1 E w0 Q):=
 q9 (k:=19) (n:=n) (I:=fun n T S=>I n (T.getD 0 c9) (T.getD 1 c9) (T.getD 7 c9) (T.getD 8 c9) S) (fun n T S hl hI=>s4 [0,1,7,8] hl (j3.mono (a2p (step n _ _ _ _ S hI)) fun ex T' S' _ hq=>by cases ex<;>exact hq)) (o5 ..) (Eq.mp (by kernel_rfl) h)
def a0c(E:i9)(w0:j7)(Q:D→b8→Prop)(a0 a1:D)(S:b8):Prop:=
 b7 (m9 a0) fun v0=>
 j3 Try.prog E w0 (.loop I2) (l9 19 [0,1,7,8] [a0,a1,v0,(.int .i64 0)]) S (I1 E w0 Q)
theorem a3b{E:i9}{w0:j7}{Q:D→b8→Prop}{a0 a1:D}{S:b8}(h:a0c E w0 (d9 E Q) a0 a1 S):j6 Try.prog E w0 K6 [a0,a1] S Q:=
 j4 K2 J4 J6 (fn:=Try.f142) (c:=Try.f142.body.getD .skip) mixed Try.func142 (by kernel_rfl) (by kernel_rfl) h
end Go.Proofs.Ytdkidgkiplcggaa.d
end
