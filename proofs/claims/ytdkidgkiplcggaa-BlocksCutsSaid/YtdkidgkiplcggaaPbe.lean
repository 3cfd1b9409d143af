/-
  BlocksCutsSaid: part Pbe of its proof.
-/
import Derived.Test.YtdkidgkiplcggaaPbd
import Derived.Test.YtdkidgkiplcggaaPbc
import Derived.Test.YtdkidgkiplcggaaPbb
set_option linter.unusedVariables false
set_option linter.unusedSimpArgs false
set_option maxRecDepth 100000
section
open Go.Proofs Go Go.Am Go.Op
namespace Go.Proofs.Ytdkidgkiplcggaa.d
section
theorem c2C{a:Int}(h:a4a.may a=true):0<R3 (IntKind.u8.wrap a):=by
 have h:=of_decide_eq_true h
 have h1:1≤a∧a≤3:=h
 rw[c7P]
 unfold R3
 have:a=1∨a=2∨a=3:=by omega
 rcases this with rfl|rfl|rfl<;>decide
theorem c5K{bs:List Int}{f:Fld}{s:Nat×Int}(h:(w9 bs f s).2.2=0):f.may (w9 bs f s).1=true:=by
 have h0:=b2o h
 unfold w9 at h ⊢
 rw[if_neg (by simp[h0])]at h ⊢
 split at h
 ·cases h
 ·rename_i hl
  rw[if_neg hl]
  cases hr:rdN f (leN ((bs.drop s.1).take f.size)) with
  |none=>rw[hr]at h;cases h
  |some m=>
   unfold rdN at hr
   simp only[Option.ite_none_right_eq_some,Option.some.injEq]at hr
   obtain⟨g1,g2⟩:=hr
   simp only
   rw[←g2];exact g1
section
variable{E:g8}{w0:j0}
structure b1i (S:b5) (k4 k9 k10:Nat) (c:List D) (bs:List Int) (s:Nat×Int) (S':b5):Prop where
 le:S.le S'
 n4:S k4=none
 n9:S k9=none
 n10:S k10=none
 d410:k4≠k10
 h4:D3 S' k4 4 zC
 h9:a3X S' k9 bs s
 h10:D3 S' k10 4 c
section
variable{S S':b5}{k4 k9 k10:Nat}{c:List D}{bs:List Int}{s:Nat×Int}
theorem b1i.d49(h:b1i S k4 k9 k10 c bs s S'):k4≠k9:=h.h9.ne h.h4 (by decide)
theorem b1i.d109(h:b1i S k4 k9 k10 c bs s S'):k10≠k9:=h.h9.ne h.h10 (by decide)
theorem b1i.set10(h:b1i S k4 k9 k10 c bs s S'){c':List D}{a:List AV}:b1i S k4 k9 k10 c' bs s (S'.set k10 ⟨4,[c'],a⟩):=
 ⟨b5.le_set h.le h.n10,h.n4,h.n9,h.n10,h.d410,h.h4.set_ne h.d410,h.h9.of (b5.set_ne _ _ _ (Ne.symm h.d109)),D3.new⟩
theorem b1i.read(h:b1i S k4 k9 k10 c bs s S'){s':Nat×Int}{S2:b5}(hr:a3X S2 k9 bs s')(e:∀j,j≠k9→S' j≠none→S2 j=S' j):b1i S k4 k9 k10 c bs s' S2:=by
 refine⟨fun j o ho=> ?_,h.n4,h.n9,h.n10,h.d410,h.h4.of (e _ h.d49 h.h4.there),hr,h.h10.of (e _ h.d109 h.h10.there)⟩
 have hj:j≠k9:=fun e'=>by rw[e',h.n9]at ho;cases ho
 have:=h.le _ _ ho
 rw[e j hj (by rw[this];simp)];exact this
end
theorem b4U{bs:List Int}(hb:∀b∈bs,J0 b)(hl:bs.length<2^30){n:Int}:U2 Try.prog E w0 a3T [bD bs, .int .i64 n] (b0j (s4 bs n)):=fun S=>by
 refine b1n ?_
 unfold a8i
 intro k4 a4 n4
 have h4:D3 (S.set k4 ⟨4,[zC],a4⟩) k4 4 zC:=D3.new
 change b4 _ _
 have le4:S.le (S.set k4 ⟨4,[zC],a4⟩):=b5.le_new n4
 have zero:∀(e:Int) (T:b5) (h:D3 T k4 4 zC) (hle:S.le T),s4 bs n=(b8p,(0,e))→j1 T 4 (.ptr k4 0) (.agg zC) fun v9 S10=>b4 (l9 S10 4 (.ptr k4 0)) fun v11=>b9 E (fun d' S'=>d'=b0j (s4 bs n)∧S'=S) (.tup [v11,(.int .i64 0),(.int .i64 e)]) S10:=fun e T h hle he=>by
  refine h.st (clA _) ⟨rfl,by decide,by decide⟩ fun a=> ?_
  rw[(D3.new).all (n:=4) (by decide) rfl,oD]
  refine b9.less (b5.le_set hle n4) (b9.weak (d':=b0j (s4 bs n)) ?_ b9.pure)
  rw[he]
  exact Wk.tup ⟨Wk.agg ⟨Wk.refl _,Wk.refl _,Wk.refl _,Wk.nil 2,trivial⟩,Wk.refl _,Wk.refl _,trivial⟩
 have fz:B3 (l8 [(D.int .u8 0),(.int .i64 0),(.int .i64 0), .nilSlc] [])=some (.agg zC):=rfl
 by_cases hn:n<0∨n≥bs.length
 ·have e:s4 bs n=(b8p,(0,2)):=by unfold s4;rw[if_pos hn]
  rw[M7,oD]
  by_cases h1:n<0
  ·rw[decide_eq_true h1]
   simp only[wdB,vdF,oD,pdB,if_true,cdT,show((true==false)=false) from rfl]
   rw[fz,oD]
   exact zero 2 _ h4 le4 e
  ·have h2:decide (n≥(bs.length:Int))=true:=decide_eq_true (hn.resolve_left h1)
   rw[decide_eq_false h1]
   simp only[wdB,vdT,oD,pdB,Bool.false_eq_true,if_false,a2u,c1u,h2,cdT,show((false==false)=true) from rfl]
   rw[fz,oD]
   exact zero 2 _ h4 le4 e
 have hn0:¬n<0:=fun h=>hn (.inl h)
 have hn1:¬n≥(bs.length:Int):=fun h=>hn (.inr h)
 obtain⟨p,rfl⟩:∃p:Nat,n=(p:Int):=⟨n.toNat,by omega⟩
 have hp:p<bs.length:=by omega
 have edT:s4 bs (p:Int)=b1Z bs p:=by unfold s4;rw[if_neg hn];rfl
 obtain⟨op,hop⟩:∃op,op=bs[p]:=⟨_,rfl⟩
 have hj:bs[p]? =some op:=by rw[List.getElem?_eq_getElem hp,hop]
 have egd:bs.getD p 0=op:=by rw[List.getD_eq_getElem?_getD,hj];rfl
 rw[M7,oD,decide_eq_false hn0]
 simp only[wdB,vdT,oD,pdB,Bool.false_eq_true,if_false,a2u,c1u,decide_eq_false hn1,cdF,show((false==false)=true) from rfl]
 rw[b8B hj,oD,lsE,List.getElem?_cons_zero,oD]
 refine b5s.use ?_
 simp only[exD,List.getElem?_cons_zero,List.getElem?_cons_succ,oD,unN]
 cases hlay:lay op with
 |none=>
  rw[show(!(none:Option (List Fld)).isSome)=true from rfl,cdT,fz,oD]
  exact zero 120 _ h4 le4 (by rw[edT];unfold b1Z;rw[egd,if_pos hlay])
 |some l=>
 rw[show(!(some l).isSome)=false from rfl,cdF,C4,oD,i6 (by omega) (by omega)]
 have hag2:B3 (l8 [.nilSlc,(D.int .i64 0),(.int .i64 0)] [(0,1,bD bs),(1,1, .int .i64 ((p:Int)+1))])=some (.agg (rrC bs ((p:Int)+1) 0)):=rfl
 rw[hag2,oD,clA,oD]
 intro k9 a9 n9
 have h9:D3 ((S.set k4 ⟨4,[zC],a4⟩).set k9 ⟨3,[rrC bs ((p:Int)+1) 0],a9⟩) k9 3 (rrC bs ((p:Int)+1) 0):=D3.new
 have h4':=h4.set (o:=⟨3,[rrC bs ((p:Int)+1) 0],a9⟩) n9
 have n9':S k9=none:=b5.none_of le4 n9
 have le9:S.le ((S.set k4 ⟨4,[zC],a4⟩).set k9 ⟨3,[rrC bs ((p:Int)+1) 0],a9⟩):=b5.le_set le4 n9'
 change b4 _ _
 rw[lsE,List.getElem?_cons_zero,oD]
 have hag:B3 (l8 [(D.int .u8 0),(.int .i64 0),(.int .i64 0), .nilSlc] [(0,1, .int .u8 op)])=some (.agg (E3 op 0 0 .nilSlc)):=rfl
 rw[hag,oD]
 change o6 ((S.set k4 ⟨4,[zC],a4⟩).set k9 ⟨3,[rrC bs ((p:Int)+1) 0],a9⟩) _ _
 generalize (S.set k4 ⟨4,[zC],a4⟩).set k9 ⟨3,[rrC bs ((p:Int)+1) 0],a9⟩=T9 at*
 intro k10 a10 n10
 have h10z:D3 (T9.set k10 ⟨4,[zC],a10⟩) k10 4 zC:=D3.new
 refine h10z.st (ds:=E3 op 0 0 .nilSlc) (clA _) ⟨rfl,by decide,by decide⟩ fun a10=> ?_
 rw[b5.set_set,show j4 zC 0 (E3 op 0 0 .nilSlc)=E3 op 0 0 .nilSlc from rfl]
 have d410:k4≠k10:=h4'.none n10
 have hl2:l.length≤2:=by have:=b0o (op:=op);rw[hlay]at this;exact this
 have hgood:∀f∈l,a4y f:=by have:=b3w op;rw[hlay]at this;exact this
 have hgd:(lay op).getD []=l:=by rw[hlay];rfl
 have hst:∀ {a10:List AV},b1i S k4 k9 k10 (E3 op 0 0 .nilSlc) bs (p+1,0) (T9.set k10 ⟨4,[E3 op 0 0 .nilSlc],a10⟩):=fun{a10}=>
  ⟨b5.le_set le9 (b5.none_of le9 n10),n4,n9',b5.none_of le9 n10,d410,h4'.set n10,⟨_,h9.set n10,fun _=>by simp⟩,D3.new⟩
 rw[show(some l).getD []=l from rfl]
 have hs0:((p+1,0):Nat×Int).1≤bs.length:=by show p+1≤bs.length;omega
 have edS:b1Z bs p=if(a5l bs p).2.2≠0 then(b8p,(0,(a5l bs p).2.2)) else a5l bs p:=by
  unfold b1Z;rw[egd,if_neg (by rw[hlay];simp)]
 have hend:∀ {T:b5} {a b:Int} {s:Nat×Int},s.1≤bs.length→b1i S k4 k9 k10 (E3 op a b .nilSlc) bs s T→I5 bs l (p+1,0)=(a,b,s)→(s.2=0→op=49→a4a.may a=true)→
   V1 E w0 (b9 E fun d' S'=>d'=b0j (s4 bs (p:Int))∧S'=S) (.ptr k4 0) (.ptr k9 0) (.ptr k10 0) T:=fun{T a b s} hs hd hf hm=>by
  refine a7u ?_
  unfold a4x
  rw[ofP,oD,hd.h10.ld,show(E3 op a b .nilSlc)[0+0]? =some (.int .u8 op) from rfl,oD,a2Z,oD,cdB]
  have fin:∀ {T':b5} {b':Int} {arms:List (Int×Int)} {s':Nat×Int} {c:List D},b1i S k4 k9 k10 c bs s' T'→c=E3 op a b' .nilSlc∧arms=[]∨c=E3 op a b' (a5e arms)→a5l bs p=((op,a,b',arms),s')→
    U6 E w0 (b9 E fun d' S'=>d'=b0j (s4 bs (p:Int))∧S'=S) (.ptr k4 0) (.ptr k9 0) (.ptr k10 0) T':=fun{T' b' arms s' c} hd' hc hX=>by
   have hv:b0j (s4 bs (p:Int))=if s'.2=0 then .tup [.agg (E3 op a b' (a5e arms)), .int .i64 (s'.1:Int), .int .i64 0]else .tup [.agg (E3 0 0 0 (a5e [])), .int .i64 0, .int .i64 s'.2]:=by
    rw[edT,edS,hX]
    by_cases he:s'.2=0
    ·rw[if_neg (by simp[he]),if_pos he];unfold b0j;rw[he];rfl
    ·rw[if_pos (by simpa using he),if_neg he];rfl
   refine a8o ?_
   unfold a4C
   obtain⟨q,c9,hq⟩:=hd'.h9
   have lc:c.length=4:=by rcases hc with ⟨rfl,_⟩|rfl<;>rfl
   have wk:Wk (.agg c) (.agg (E3 op a b' (a5e arms))):=by
    rcases hc with ⟨rfl,rfl⟩|rfl
    ·exact Wk.agg ⟨Wk.refl _,Wk.refl _,Wk.refl _,Wk.nil 2,trivial⟩
    ·exact Wk.refl _
   have cl:s5 (.agg c)=some c:=clA _
   have ld2:(rrC bs q s'.2)[2]? =some (.int .i64 s'.2):=rfl
   have ld1:(rrC bs q s'.2)[1]? =some (.int .i64 q):=rfl
   simp only[ndP,ofP,oD,Nat.zero_add,c9.ld,ld2,ld1,a9c,fiN,agS]
   rw[b9v,V7]
   refine⟨fun he=> ?_,fun he=> ?_⟩
   ·refine hd'.h4.st (clA _) ⟨rfl,by decide,by decide⟩ fun a4=>⟨?_, ?_⟩
    ·rw[fwP,b5.set_ne _ _ _ (Ne.symm hd'.d49)]
    rw[(D3.new).all (n:=4) (by decide) rfl,oD]
    refine b9.less (b5.le_set hd'.le hd'.n4) (b9.weak (d':=b0j (s4 bs (p:Int))) ?_ b9.pure)
    rw[hv,if_neg he]
    exact Wk.tup ⟨Wk.agg ⟨Wk.refl _,Wk.refl _,Wk.refl _,Wk.nil 2,trivial⟩,Wk.refl _,Wk.refl _,trivial⟩
   ·have he:s'.2=0:=Classical.not_not.1 he
    rw[hd'.h10.all (n:=4) (by decide) lc.symm,oD]
    refine hd'.h4.st (ds:=c) (clA _) ⟨lc,by decide,by decide⟩ fun a4=>⟨?_, ?_⟩
    ·rw[fwP,b5.set_ne _ _ _ (Ne.symm hd'.d49)]
    have hset:j4 zC 0 c=c:=by
     rcases hc with ⟨rfl,rfl⟩|rfl<;>rfl
    rw[hset,(D3.new).all (n:=4) (by decide) lc.symm,oD]
    refine b9.less (b5.le_set hd'.le hd'.n4) (b9.weak (d':=b0j (s4 bs (p:Int))) ?_ b9.pure)
    rw[hv,if_pos he, ←hq he]
    exact Wk.tup ⟨wk,Wk.refl _,Wk.refl _,trivial⟩
  refine⟨fun h49=> ?_,fun h49=> ?_⟩
  ·have h49:op=49:=by simpa using h49
   have hX:a5l bs p=a4A bs 49 a s:=by unfold a5l;rw[egd,if_pos h49,hgd,hf]
   rw[ofP,oD,hd.h10.ld,show(E3 op a b .nilSlc)[0+1]? =some (.int .i64 a) from rfl,oD]
   refine(b7C hb hl hs (a:=a) (fun h=>c2C (hm h h49)) hd.h9).use ?_
   rintro v T2 ⟨_,rfl,r2,e2,_⟩
   have hd2:=hd.read r2 e2
   have hsA:(A5 bs (IntKind.u8.wrap a) (w9 bs fIx s).1.toNat (w9 bs fIx s).2 []).2.1≤bs.length:=b8S _ _ _ (a2z hs)
   rw[ofP,oD]
   refine hd2.h10.st (clL _ _) ⟨rfl,by decide,by simp[E3]⟩ fun a'=> ?_
   have hd3:=hd2.set10 (c':=E3 op a b (a5e (A5 bs (IntKind.u8.wrap a) (w9 bs fIx s).1.toNat (w9 bs fIx s).2 []).1)) (a:=a')
   refine a5g.use ((K0 hb hl hsA a6y hd3.h9).use ?_)
   rintro v T4 ⟨rfl,r4,e4⟩
   have hd4:=hd3.read r4 fun j hj _=>e4 j hj
   rw[ofP,oD]
   refine hd4.h10.st (clI _ _) ⟨rfl,by decide,by simp[E3]⟩ fun a''=> ?_
   exact fin (hd4.set10 (c':=E3 op a (w9 bs E1 (A5 bs (IntKind.u8.wrap a) (w9 bs fIx s).1.toNat (w9 bs fIx s).2 []).2).1 (a5e (A5 bs (IntKind.u8.wrap a) (w9 bs fIx s).1.toNat (w9 bs fIx s).2 []).1))) (.inr rfl) (by rw[hX,h49];rfl)
  ·have h49:¬op=49:=by simpa using h49
   exact fin hd (.inl ⟨rfl,rfl⟩) (by unfold a5l;rw[egd,if_neg h49,hgd,hf])
 have h20:∀ {T:b5} {a:Int} {s:Nat×Int},s.1≤bs.length→b1i S k4 k9 k10 (E3 op a 0 .nilSlc) bs s T→(l=[]→I5 bs l (p+1,0)=(a,0,s))→(∀f l',l=f::l'→a=(w9 bs f (p+1,0)).1∧s=(w9 bs f (p+1,0)).2)→
   V4 E w0 (b9 E fun d' S'=>d'=b0j (s4 bs (p:Int))∧S'=S) (.ptr k4 0) (.lst (l.map a2e) 4) (.ptr k9 0) (.ptr k10 0) T:=fun{T a s} hs hd hnil hcons=>by
  refine a7m ?_
  unfold a4w
  have hm:s.2=0→op=49→a4a.may a=true:=fun h0 h49=>by
   have hl1:=c4w hlay h49
   obtain⟨e1,e2⟩:=hcons _ _ hl1
   rw[e1]
   exact c5K (by rw[←e2];exact h0)
  rw[lnL,oD,List.length_map,a8g,oD,V7]
  refine⟨fun h1=> ?_,fun h1=> ?_⟩
  ·have h1:1<l.length:=by omega
   obtain⟨f,g,rfl⟩:∃f g,l=[f,g]:=by
    match l,hl2,h1 with
    | [f,g],_,_=>exact⟨f,g,rfl⟩
   obtain⟨e1,e2⟩:=hcons f [g] rfl
   rw[List.map_cons,List.map_cons,d1a,oD,c8C,oD]
   refine(K0 hb hl hs (hgood g (by simp)) hd.h9).use ?_
   rintro v T2 ⟨rfl,r2,e2'⟩
   have hd2:=hd.read r2 fun j hj _=>e2' j hj
   rw[ofP,oD]
   refine hd2.h10.st (clI _ _) ⟨rfl,by decide,by simp[E3]⟩ fun a'=> ?_
   exact hend (a2z hs) (hd2.set10 (c':=E3 op a (w9 bs g s).1 .nilSlc)) (by rw[e1,e2];rfl) fun h0 h49=>by
    have:=c4w hlay h49
    simp at this
  ·rcases(show l=[]∨∃f,l=[f] by
    match l,h1 with
    | [],_=>exact .inl rfl
    | [f],_=>exact .inr ⟨f,rfl⟩
    |_::_::_,h1=>exact(h1 (by simp;omega)).elim) with rfl|⟨f,rfl⟩
   ·exact hend hs hd (hnil rfl) hm
   ·obtain⟨e1,e2⟩:=hcons f [] rfl
    exact hend hs hd (by rw[e1,e2];rfl) hm
 rw[lnL,oD,List.length_map,a8g,oD,V7]
 refine⟨fun h1=> ?_,fun h1=> ?_⟩
 ·obtain⟨f,l',rfl⟩:∃f l',l=f::l':=by
   match l,h1 with
   | [],h1=>simp at h1
   |f::l',_=>exact⟨f,l',rfl⟩
  rw[List.map_cons,d1g,oD,c8C,oD]
  refine(K0 hb hl hs0 (hgood f (by simp)) (hst (a10:=a10)).h9).use ?_
  rintro v T2 ⟨rfl,r2,e2⟩
  have hd2:=(hst (a10:=a10)).read r2 fun j hj _=>e2 j hj
  rw[ofP,oD]
  refine hd2.h10.st (clI _ _) ⟨rfl,by decide,by simp[E3]⟩ fun a'=> ?_
  exact h20 (a2z hs0) (hd2.set10 (c':=E3 op (w9 bs f (p+1,0)).1 0 .nilSlc)) (fun h=>by cases h) fun f' l'' h=>by cases h;exact⟨rfl,rfl⟩
 ·have hnil:l=[]:=List.length_eq_zero_iff.1 (by omega)
  exact h20 hs0 hst (fun _=>by rw[hnil];rfl) fun f l' h=>by rw[hnil]at h;cases h
theorem c0L{bs:List Int}(hb:∀b∈bs,J0 b)(hl:bs.length<2^30):U2 Try.prog E w0 a4l [bD bs] (c7u (a5v bs)):=fun S=>by
 refine b5S ?_
 unfold b3Y
 refine b2t (I:=fun n x0 x5 x6 x7 T=>x0=bD bs∧∃(p:Nat) (done:List (Dat×Nat)),x7= .int .i64 (p:Int)∧p≤bs.length∧bs.length<p+n∧done.length≤p∧GrP S [] x5 ((t8 done).map N7) 4 x6 (iC (C5 done)) 1 T∧a5v bs=c0W done (a2r bs n p)) ?_ (n:=bs.length+1)
  ⟨rfl,0,[],rfl,by omega,by omega,by simp,GrP.nil,by unfold a5v;cases a2r bs (bs.length+1) 0<;>rfl⟩
 rintro n _ x5 x6 _ T ⟨rfl,p,done,rfl,hp,hpn,hdl,hg,hrun⟩
 unfold a4G
 rw[a2u,oD,M7,oD,V7]
 obtain⟨n,rfl⟩:∃m,n=m+1:=⟨n - 1,by omega⟩
 refine⟨fun hlt=> ?_,fun hge=> ?_⟩
 ·have hlt:p<bs.length:=by omega
  rw[a2W hlt]at hrun
  refine(b4U hb hl).use ?_
  unfold b0j
  simp only[exD,List.getElem?_cons_zero,List.getElem?_cons_succ,oD]
  intro k a nk
  refine(D3.new (sz:=4) (c:=[.int .u8 0, .int .i64 0, .int .i64 0, .nilSlc])).st (ds:=N7 (a0H (s4 bs p).1)) (clA _) ⟨rfl,by decide,by decide⟩ fun a'=> ?_
  rw[b5.set_set,show j4 [.int .u8 0, .int .i64 0, .int .i64 0, .nilSlc] 0 (N7 (a0H (s4 bs p).1))=N7 (a0H (s4 bs p).1) from rfl,a9c,oD,b9v,V7]
  have hg2:=hg.set (o:=⟨4,[N7 (a0H (s4 bs p).1)],a'⟩) nk
  refine⟨fun he=> ?_,fun he=> ?_⟩
  ·rw[if_neg he]at hrun
   rw[hrun]
   refine b9.less hg2.1 (b9.weak (d':= .tup [H6 [],iD [], .int .i64 (s4 bs p).2.2]) (Wk.tup ⟨Wk.nil 4,Wk.nil 1,Wk.refl _,trivial⟩) b9.pure)
  ·have he:(s4 bs p).2.2=0:=Classical.not_not.1 he
   obtain⟨_,h1,h2⟩:=b5T hb he
   rw[if_pos he,b8G]at hrun
   rw[(D3.new).all (n:=4) (by decide) rfl,oD,show o7 4 (List.replicate 1 [(D.int .u8 0),(.int .i64 0),(.int .i64 0), .nilSlc]) [(0, .agg (N7 (a0H (s4 bs p).1)))]=some [N7 (a0H (s4 bs p).1)]from rfl]
   refine E8 rfl ?_
   refine hg2.push (news:=[N7 (a0H (s4 bs p).1)]) (by simp[rowsS,C1]) (by simp) (by simp[t8];omega) fun t' T' _ hg3=> ?_
   rw[show o7 1 (List.replicate 1 [D.int .i64 0]) [(0, .int .i64 (p:Int))]=some (iC [(p:Int)]) from rfl]
   refine E8 rfl ?_
   refine hg3.swap.push (news:=iC [(p:Int)]) (by simp[rowsS,C1]) (by simp[iC,J5]) (by simp[C5];omega) fun u' T2 _ hg4=> ?_
   refine⟨n,by omega,by trivial,(s4 bs p).2.1,done++[((s4 bs p).1,p)],rfl,h2,by omega,by simp;omega, ?_,hrun⟩
   have e1:(t8 (done++[((s4 bs p).1,p)])).map N7=(t8 done).map N7++[N7 (a0H (s4 bs p).1)]:=by simp[t8]
   have e2:iC (C5 (done++[((s4 bs p).1,p)]))=iC (C5 done)++iC [(p:Int)]:=by rw[←a0S];simp[C5]
   rw[e1,e2]
   exact hg4.swap
 ·have e0:a2r bs (n+1) p= .ok []:=by rw[a2r,if_pos (by omega)]
  rw[e0]at hrun
  rw[hrun]
  refine hg.fin ?_
  have:c7u (c0W done (.ok []))= .tup [.lst ((t8 done).map N7) 4, .lst (iC (C5 done)) 1, .int .i64 0]:=by simp[c7u,c0W,H6,iD]
  rw[this]
  exact b9.pure
end
end
section
set_option linter.unusedSectionVars false
theorem c7c(a:Int):a4d a []=[a]:=rfl
def a8b(l:List Int)(ns:List Int):List Int:=ns.foldl (fun l n=>a4d n l) l
theorem b7r:∀(ns l:List Int),l.Pairwise (· < ·)→(a8b l ns).Pairwise (· < ·)∧∀q,q∈a8b l ns↔q∈l∨q∈ns
 | [],l,h=>⟨h,fun q=>by simp[a8b]⟩
 |n::ns,l,h=>by
  obtain⟨h1,h2⟩:=b7r ns (a4d n l) (L7 n l h)
  refine⟨h1,fun q=> ?_⟩
  show q∈a8b (a4d n l) ns↔_
  rw[h2,a0r,List.mem_cons]
  constructor
  ·rintro((h|h)|h)
   ·exact .inr (.inl h)
   ·exact .inl h
   ·exact .inr (.inr h)
  ·rintro(h|h|h)
   ·exact .inl (.inr h)
   ·exact .inl (.inl h)
   ·exact .inr h
theorem b9f:∀(ns l:List Int),(a8b l ns).length≤l.length+ns.length
 | [],l=>by simp[a8b]
 |n::ns,l=>by
  have:=b9f ns (a4d n l)
  have h2:∀l:List Int,(a4d n l).length≤l.length+1:=fun l=>by
   induction l with
   |nil=>simp[a4d]
   |cons b l ih=>
    unfold a4d
    split
    ·simp
    ·split
     ·simp
     ·simp only[List.length_cons];omega
  have:=h2 l
  show(a8b (a4d n l) ns).length≤_
  rw[List.length_cons]
  omega
theorem c3J(l ns:List Int){i:Nat}{n:Int}(h:ns[i]? =some n):a8b l (ns.take (i+1))=a4d n (a8b l (ns.take i)):=by
 unfold a8b
 rw[List.take_add_one,h,List.foldl_append]
 rfl
section
variable{E:g8}{w0:j0}
theorem b7V{y:In}:U2 Try.prog E w0 a2J [.int .u8 y.op] (.bool (a0l y)):=fun S=>by
 refine b4C ?_
 unfold b1I a0l
 generalize y.op=q
 have hh:∀b:Bool,b=decide (46≤q∧q≤49∨q=51∨q=52)→b9 E (fun d' S'=>d'=D.bool (decide (46≤q∧q≤49∨q=51∨q=52))∧S'=S) (.bool b) S:=fun b h=>by rw[h];exact b9.pure
 rw[O7,oD]
 by_cases c1:q=46
 ·simp only[decide_eq_true c1,wdB,t1,vdF,oD,pdB,if_true]
  exact hh _ (decide_eq_true (by omega)).symm
 by_cases c2:q=47
 ·simp only[decide_eq_false c1,decide_eq_true c2,wdB,t1,t2,vdF,vdT,oD,O7,pdB,Bool.false_eq_true,if_false,if_true]
  exact hh _ (decide_eq_true (by omega)).symm
 by_cases c3:q=48
 ·simp only[decide_eq_false c1,decide_eq_false c2,decide_eq_true c3,wdB,t1,t2,vdF,vdT,oD,O7,pdB,Bool.false_eq_true,if_false,if_true]
  exact hh _ (decide_eq_true (by omega)).symm
 by_cases c4:q=49
 ·simp only[decide_eq_false c1,decide_eq_false c2,decide_eq_false c3,decide_eq_true c4,wdB,t1,t2,vdF,vdT,oD,O7,pdB,Bool.false_eq_true,if_false,if_true]
  exact hh _ (decide_eq_true (by omega)).symm
 by_cases c5:q=51
 ·simp only[decide_eq_false c1,decide_eq_false c2,decide_eq_false c3,decide_eq_false c4,decide_eq_true c5,wdB,t1,t2,vdF,vdT,oD,O7,pdB,Bool.false_eq_true,if_false,if_true]
  exact hh _ (decide_eq_true (by omega)).symm
 simp only[decide_eq_false c1,decide_eq_false c2,decide_eq_false c3,decide_eq_false c4,decide_eq_false c5,wdB,t1,t2,vdF,vdT,oD,O7,pdB,Bool.false_eq_true,if_false,if_true]
 refine hh _ ?_
 by_cases c6:q=52
 ·rw[decide_eq_true c6,decide_eq_true (by omega)]
 ·rw[decide_eq_false c6,decide_eq_false (by omega)]
theorem a7x{y:In}(hal:y.arms.length≤65535){next:Int}:U2 Try.prog E w0 R6 [inD y, .int .i64 next] (iD (p4 y next)):=fun S=>by
 refine b2z ?_
 unfold a9y
 refine c8F fun k a n=> ?_
 have hk:D3 (S.set k ⟨4,[N7 y],a⟩) k 4 (N7 y):=D3.new
 have l1:S.le (S.set k ⟨4,[N7 y],a⟩):=b5.le_new n
 generalize (S.set k ⟨4,[N7 y],a⟩)=B at hk l1
 have g0:(N7 y)[0+0]? =some (.int .u8 y.op):=rfl
 have g1:(N7 y)[0+1]? =some (.int .i64 y.a):=rfl
 have g2:(N7 y)[0+2]? =some (.int .i64 y.b):=rfl
 have g3:(N7 y)[0+3]? =some (a5e y.arms):=rfl
 have one:∀ {T:b5} {a:Int},S.le T→p4 y next=[a]→∀ {K:D→b5→Prop},(∀d T',b9 E (fun d' S'=>d'=iD (p4 y next)∧S'=S) d T'→K d T')→C7 T 1 (o7 1 (List.replicate 1 [D.int .i64 0]) [(0, .int .i64 a)]) 1 K:=fun{T a} hle he {K} hK=>
  a8O fun d T' hT=>hK d T' (hT.fin (b9.less hle (b9.here ⟨by rw[he],rfl⟩)))
 have nilC:p4 y next=[]→b9 E (fun d' S'=>d'=iD (p4 y next)∧S'=S) .nilSlc B:=fun he=>b9.less l1 (b9.weak (d':=iD []) (Wk.nil 1) (b9.here ⟨by rw[he],rfl⟩))
 have av:∀j∈[k],B j≠none:=fun j hj=>by rw[List.mem_singleton.1 hj];exact hk.there
 have c29:∀ {b:Bool},y.op≠46→b=decide (y.op=47∨y.op=48)→Y9 E w0 (b9 E fun d' S'=>d'=iD (p4 y next)∧S'=S) (.int .i64 next) (.ptr k 0) .nilSlc (.int .u8 y.op) (.bool b) B:=by
  intro b h46 hb
  subst hb
  refine a9j ?_
  unfold a5s
  rw[V7]
  refine⟨fun h=> ?_,fun h=> ?_⟩
  ·rw[ofP,oD,hk.ld,g1,oD]
   refine R5 (S0:=S) (av:=[k]) (l:=[]) (.inl ⟨rfl,rfl⟩) l1 av List.Pairwise.nil (by decide) fun d1 T1 l2 s1 h1=> ?_
   refine R5 h1 l2 (fun j hj=>by rw[s1 j hj];exact av j hj) (L7 _ _ List.Pairwise.nil) (by rw[c7c];simp) fun d2 T2 l3 s2 h2=> ?_
   refine h2.fin l3 (b9.here ⟨?_,rfl⟩)
   congr 1
   unfold p4
   rw[if_neg (by omega),if_neg h46,if_pos h]
   exact O1 (L7 _ _ (L7 _ _ List.Pairwise.nil)) (D4 _).1 fun q=>by rw[(D4 _).2,a0r,a0r];simp
  ·rw[O7,oD,V7]
   refine⟨fun h49=> ?_,fun h49=> ?_⟩
   ·rw[ofP,oD,hk.ld,g2,oD]
    refine R5 (S0:=S) (av:=[k]) (l:=[]) (.inl ⟨rfl,rfl⟩) l1 av List.Pairwise.nil (by decide) fun d1 T1 l2 s1 h1=> ?_
    refine a9W (I:=fun m x2 x5 x6 T=>x2= .ptr k 0∧∃i:Nat,x6= .int .i64 (i:Int)∧i+m=y.arms.length∧S.le T∧T k=B k∧Sl S [k] x5 (a8b [y.b] ((y.arms.map (·.2)).take i)) T) ?_ (n:=y.arms.length) ⟨rfl,0,rfl,by omega,l2,s1 k (by simp),h1⟩
    rintro m _ x5 _ T ⟨rfl,i,rfl,hi,hle,hkk,hs⟩
    have hk:=hk.of hkk
    unfold a2q
    rw[ofP,oD,hk.ld,g3,oD,c1e,oD,M7,oD,V7]
    refine⟨fun hlt=> ?_,fun hge=> ?_⟩
    ·have hlt':i<y.arms.length:=by omega
     have ha:y.arms[i]? =some y.arms[i]:=List.getElem?_eq_getElem hlt'
     have hm:(y.arms.map (·.2))[i]? =some y.arms[i].2:=by rw[List.getElem?_map,ha];rfl
     generalize y.arms[i]=arm at ha hm
     have hlen:=b9f ((y.arms.map (·.2)).take i) [y.b]
     simp at hlen
     rw[oD,hk.ld,g3,oD,c4R ha,oD,ofE,oD,lsE,show(Y1 arm)[0+1]? =some (.int .i64 arm.2) from rfl,oD]
     refine R5 hs hle (fun j hj=>by rw[List.mem_singleton.1 hj];exact hk.there) (b7r _ _ (List.pairwise_singleton _ _)).1 (by omega) fun d2 T2 l3 s2 h2=> ?_
     rw[C4,oD,i6 (by omega) (by omega)]
     refine⟨m - 1,by omega,by trivial,i+1,by simp,by omega,l3,by rw[s2 k (by simp),hkk], ?_⟩
     rw[c3J _ _ hm]
     exact h2
    ·rw[List.take_of_length_le (by simp;omega)]at hs
     refine hs.fin hle (b9.here ⟨?_,rfl⟩)
     congr 1
     unfold p4
     rw[if_neg (by omega),if_neg h46,if_neg h,if_pos h49]
     obtain⟨q1,q2⟩:=b7r (y.arms.map (·.2)) [y.b] (List.pairwise_singleton _ _)
     exact O1 q1 (D4 _).1 fun q=>by rw[(D4 _).2,q2];simp
   ·have hd:y.op≠51→y.op≠52→p4 y next=[next]:=fun h1 h2=>by
     unfold p4
     rw[if_neg (by omega),if_neg h46,if_neg h,if_neg h49]
     exact c2k _
    have hn:y.op=51∨y.op=52→p4 y next=[]:=fun h1=>by
     unfold p4
     rw[if_pos h1]
    rw[O7,oD]
    by_cases c51:y.op=51
    ·rw[decide_eq_true c51,cdT,cdT]
     exact nilC (hn (.inl c51))
    ·rw[decide_eq_false c51,cdF,O7,oD]
     by_cases c52:y.op=52
     ·rw[decide_eq_true c52,cdT]
      exact nilC (hn (.inr c52))
     ·rw[decide_eq_false c52,cdF]
      exact one l1 (hd c51 c52) fun d T' h=>h
 rw[ofP,oD,hk.ld,g0,oD,O7,oD,V7]
 refine⟨fun h46=> ?_,fun h46=> ?_⟩
 ·rw[ofP,oD,hk.ld,g1,oD]
  exact one l1 (by unfold p4;rw[if_neg (by omega),if_pos h46]) fun d T' h=>h
 ·rw[O7,oD]
  by_cases h47:y.op=47
  ·rw[decide_eq_true h47,cdT]
   exact c29 h46 (decide_eq_true (.inl h47)).symm
  ·rw[decide_eq_false h47,cdF,O7,oD]
   exact c29 h46 (by by_cases h48:y.op=48<;>simp[h47,h48])
end
end
section
set_option linter.unusedSectionVars false
def C3(ys:List In):List Int:=ys.flatMap a6E
def P4:Nat→List In→List Int
 |_,[]=>[]
 |p,y::ys=>(p:Int)::P4 (p+(a6E y).length) ys
theorem b7z(y:In)(ys:List In):C3 (y::ys)=a6E y++C3 ys:=rfl
theorem b9J(a b:List In):C3 (a++b)=C3 a++C3 b:=List.flatMap_append
theorem a8U:∀ys:List In,ys.length≤(C3 ys).length
 | []=>Nat.le_refl _
 |y::ys=>by
  rw[b7z,List.length_append,List.length_cons]
  have:=a8U ys
  have:=c0Y y
  omega
theorem c7G{bs:List Int}(hb:∀b∈bs,J0 b):∀(n p:Nat) (L:List (Dat×Nat)),a2r bs n p= .ok L→p≤bs.length→bs.length≤p+n→bs.drop p=C3 (t8 L)∧C5 L=P4 p (t8 L)∧∀y∈t8 L,isS y=true
 |0,p,L,h,hp,hn=>by
  cases h
  exact⟨List.drop_of_length_le (by omega),rfl,by simp[t8]⟩
 |n+1,p,L,h,hp,hn=>by
  by_cases hlt:p<bs.length
  ·rw[a2W hlt]at h
   by_cases he:(s4 bs p).2.2=0
   ·rw[if_pos he]at h
    cases hr:a2r bs n (s4 bs p).2.1 with
    |error e=>rw[hr]at h;cases h
    |ok l=>
     rw[hr]at h
     cases h
     obtain⟨_,_,_,h4,h5,h6⟩:=c0S hb he (b7j _)
     rw[Int.toNat_natCast]at h5 h6
     obtain⟨h51,h52⟩:=h5
     have hpos:=c0Y (a0H (s4 bs p).1)
     obtain⟨i1,i2,i3⟩:=c7G hb n _ l hr (by rw[h6];exact h51) (by omega)
     have hcat:bs.drop p=a6E (a0H (s4 bs p).1)++bs.drop (p+(a6E (a0H (s4 bs p).1)).length):=by
      conv=>lhs;rw[←List.take_append_drop (a6E (a0H (s4 bs p).1)).length (bs.drop p)]
      rw[h52,List.drop_drop]
     refine⟨?_, ?_,fun y hy=> ?_⟩
     ·show _=a6E (a0H (s4 bs p).1)++C3 (t8 l)
      rw[hcat, ←i1,h6]
     ·show(p:Int)::C5 l=(p:Int)::P4 (p+(a6E (a0H (s4 bs p).1)).length) (t8 l)
      rw[i2,h6]
     ·rcases List.mem_cons.1 hy with rfl|hy
      ·exact h4
      ·exact i3 y hy
   ·rw[if_neg he]at h;cases h
  ·rw[a2r,if_pos (by omega)]at h
   cases h
   exact⟨List.drop_of_length_le (by omega),rfl,by simp[t8]⟩
def V9(ys:List In)(i:Nat):Int:=((C3 (ys.take i)).length:Int)
theorem a3N:∀(ys:List In) (p i:Nat),i<ys.length→(P4 p ys)[i]? =some ((p:Int)+V9 ys i)
 | [],p,i,h=>by simp at h
 |y::ys,p,0,h=>by simp[P4,V9,C3]
 |y::ys,p,i+1,h=>by
  simp only[P4,List.getElem?_cons_succ]
  rw[a3N ys _ i (by simpa using h)]
  unfold V9
  rw[List.take_succ_cons,b7z,List.length_append]
  congr 1
  omega
theorem a2d:∀(ys:List In) (p:Nat),(P4 p ys).length=ys.length
 | [],_=>rfl
 |y::ys,p=>by simp[P4,a2d ys]
theorem c0z{ys:List In}{i:Nat}(h:i≤ys.length):(P4 0 ys++[((C3 ys).length:Int)]).getD i 0=V9 ys i:=by
 rw[List.getD_eq_getElem?_getD]
 by_cases e:i<ys.length
 ·rw[List.getElem?_append_left (by rw[a2d];exact e),a3N ys 0 i e,Option.getD_some];simp
 ·rw[List.getElem?_append_right (by rw[a2d];omega),a2d,show i - ys.length=0 by omega]
  unfold V9
  rw[List.take_of_length_le (by omega)];rfl
theorem b6l{ys:List In}{i j:Nat}(h:i<j)(hj:j≤ys.length):V9 ys i<V9 ys j:=by
 unfold V9
 have e:ys.take j=ys.take i++(ys.drop i).take (j - i):=by
  rw[←List.take_append_drop i (ys.take j),List.take_take,List.drop_take,Nat.min_eq_left (by omega)]
 rw[e,b9J,List.length_append]
 have:=a8U ((ys.drop i).take (j - i))
 rw[List.length_take,List.length_drop]at this
 omega
theorem c7Q{ys:List In}{i j:Nat}(hi:i≤ys.length)(hj:j≤ys.length)(h:V9 ys i=V9 ys j):i=j:=by
 rcases Nat.lt_trichotomy i j with hl|hl|hl
 ·have:=b6l hl hj;omega
 ·exact hl
 ·have:=b6l hl hi;omega
def chn:Nat→List (Nat×Nat)→Nat→Prop
 |a,[],b=>a=b
 |a,(s,t)::l,b=>s=a∧s<t∧chn t l b
theorem b1R{s t:Nat}:∀ {l:List (Nat×Nat)} {a b:Nat},chn a (l++[(s,t)]) b↔chn a l s∧s<t∧t=b
 | [],a,b=>by simp only[List.nil_append,chn];constructor<;>(rintro⟨h1,h2,h3⟩;exact⟨h1.symm,h2,h3⟩)
 |(u,v)::l,a,b=>by
  simp only[List.cons_append,chn,b1R (l:=l)]
  constructor
  ·rintro⟨h1,h2,h3,h4⟩;exact⟨⟨h1,h2,h3⟩,h4⟩
  ·rintro⟨⟨h1,h2,h3⟩,h4⟩;exact⟨h1,h2,h3,h4⟩
theorem c0D:∀ {l:List (Nat×Nat)} {a b:Nat},chn a l b→a≤b∧∀c∈l,a≤c.1∧c.1<c.2∧c.2≤b
 | [],a,b,h=>⟨Nat.le_of_eq h,fun c hc=>by cases hc⟩
 |(s,t)::l,a,b,⟨h1,h2,h3⟩=>by
  obtain⟨i1,i2⟩:=c0D h3
  refine⟨by omega,fun c hc=> ?_⟩
  rcases List.mem_cons.1 hc with rfl|hc
  ·exact⟨by simp only;omega,h2,i1⟩
  ·have:=i2 c hc;omega
def mkB(ys:List In)(c:Nat×Nat):L9:=⟨V9 ys c.1,V9 ys c.2,match ys[c.2 - 1]? with|some y=>p4 y (V9 ys c.2)|none=>[]⟩
def L3(ys:List In)(tops:List Int):Nat→List Int×List L9
 |0=>(tops,[])
 |n+1=>match ys[n]? with
  |some y=>if(L3 ys tops n).1.head? =some (V9 ys n) then((L3 ys tops n).1.tail,(L3 ys tops n).2++[⟨V9 ys n,V9 ys (n+1),p4 y (V9 ys (n+1))⟩])
   else((L3 ys tops n).1,a0D (L3 ys tops n).2 (V9 ys (n+1)) (p4 y (V9 ys (n+1))))
  |none=>L3 ys tops n
theorem c0h{ys:List In}{tops:List Int}:∀n,n≤ys.length→s6 ys (P4 0 ys++[((C3 ys).length:Int)]) tops n=L3 ys tops n
 |0,_=>rfl
 |n+1,h=>by
  rw[s6,c0h n (by omega),L3,b7s,c0z (show n≤ys.length by omega),c0z h]
  cases ys[n]? <;>rfl
theorem b0R{ys:List In}{tops:List Int}(h0:tops.head? =some (V9 ys 0)):∀n,n≤ys.length→∃cuts,chn 0 cuts n∧(L3 ys tops n).2=cuts.map (mkB ys)∧tops=cuts.map (fun c=>V9 ys c.1)++(L3 ys tops n).1
 |0,_=>⟨[],rfl,rfl,rfl⟩
 |n+1,h=>by
  obtain⟨cuts,c1,c2,c3⟩:=b0R h0 n (by omega)
  have ey:ys[n]? =some ys[n]:=List.getElem?_eq_getElem (by omega)
  simp only[L3,ey]
  by_cases hh:(L3 ys tops n).1.head? =some (V9 ys n)
  ·rw[if_pos hh]
   refine⟨cuts++[(n,n+1)],b1R.2 ⟨c1,by omega,rfl⟩, ?_, ?_⟩
   ·rw[c2,List.map_append]
    simp only[List.map_cons,List.map_nil,mkB,Nat.add_sub_cancel,ey]
   ·rw[List.map_append,List.append_assoc]
    conv=>lhs;rw[c3]
    congr 1
    cases hl:(L3 ys tops n).1 with
    |nil=>rw[hl]at hh;cases hh
    |cons a l=>rw[hl]at hh;cases hh;rfl
  ·rw[if_neg hh]
   have hne:cuts≠[]:=fun e=>by
    subst e
    have hn0:0=n:=c1
    subst hn0
    exact hh h0
   obtain⟨cs,⟨s,t⟩,rfl⟩:∃cs c,cuts=cs++[c]:=⟨_,_,(List.dropLast_concat_getLast hne).symm⟩
   obtain⟨d1,d2,rfl⟩:=b1R.1 c1
   refine⟨cs++[(s,t+1)],b1R.2 ⟨d1,by omega,rfl⟩, ?_, ?_⟩
   ·rw[c2,List.map_append,List.map_append]
    simp only[List.map_cons,List.map_nil]
    rw[a1h]
    simp only[mkB,Nat.add_sub_cancel,ey]
   ·rw[List.map_append]at c3 ⊢
    exact c3
theorem b2P{ys:List In}{tops:List Int}(hr:tops.Pairwise (· < ·))(ht:∀q∈tops,∃k,k<ys.length∧q=V9 ys k)(h0:tops.head? =some (V9 ys 0)):∀n,n≤ys.length→∀j,j<n→V9 ys j ∉ (L3 ys tops n).1
 |0,_,j,hj=>by omega
 |n+1,h,j,hj=>by
  have ih:=b2P hr ht h0 n (by omega)
  obtain⟨cuts,_,_,c3⟩:=b0R h0 n (by omega)
  have hr':(L3 ys tops n).1.Pairwise (· < ·):=by rw[c3]at hr;exact(List.pairwise_append.1 hr).2.1
  have hsub:∀q∈(L3 ys tops n).1,q∈tops:=fun q hq=>by rw[c3];exact List.mem_append.2 (.inr hq)
  have ey:ys[n]? =some ys[n]:=List.getElem?_eq_getElem (by omega)
  simp only[L3,ey]
  by_cases hh:(L3 ys tops n).1.head? =some (V9 ys n)
  ·rw[if_pos hh]
   cases hl:(L3 ys tops n).1 with
   |nil=>rw[hl]at hh;cases hh
   |cons a l=>
    rw[hl]at hh hr' ih
    cases hh
    simp only[List.tail_cons]
    intro hm
    have:=(List.pairwise_cons.1 hr').1 _ hm
    by_cases e:j=n
    ·subst e;omega
    ·exact ih j (by omega) (List.mem_cons_of_mem _ hm)
  ·rw[if_neg hh]
   intro hm
   by_cases e:j=n
   ·subst e
    have hjl:j<ys.length:=by omega
    cases hl:(L3 ys tops j).1 with
    |nil=>rw[hl]at hm;cases hm
    |cons a l=>
     rw[hl]at hm hr' ih hh hsub
     obtain⟨k,hk,rfl⟩:=ht a (hsub a List.mem_cons_self)
     rcases List.mem_cons.1 hm with e|hm
     ·exact hh (by rw[e];rfl)
     ·have h1:=(List.pairwise_cons.1 hr').1 _ hm
      have hkj:k<j:=by
       rcases Nat.lt_trichotomy k j with hl|hl|hl
       ·exact hl
       ·subst hl;omega
       ·have:=b6l hl (Nat.le_of_lt hk);omega
      exact ih k hkj List.mem_cons_self
   ·exact ih j (by omega) hm
def c3z(ys:List In)(q:Int):Prop:=q=0∨∃i y,ys[i]? =some y∧a0l y=true∧(q∈p4 y (V9 ys (i+1))∨(i+1<ys.length∧q=V9 ys (i+1)))
theorem c6z{ys:List In}{q:Int}:q∈l7 ys (P4 0 ys++[((C3 ys).length:Int)]) ys.length↔c3z ys q:=by
 unfold l7 c3z
 simp only[List.mem_cons,List.mem_flatMap,List.mem_range]
 constructor
 ·rintro(h|⟨i,hi,h⟩)
  ·exact .inl h
  ·have ey:ys[i]? =some ys[i]:=List.getElem?_eq_getElem hi
   refine .inr ⟨i,ys[i],ey, ?_⟩
   unfold b1x at h
   rw[ey]at h
   simp only at h
   rw[c0z (show i+1≤ys.length by omega)]at h
   split at h
   ·rename_i he
    refine⟨he, ?_⟩
    rcases List.mem_append.1 h with h|h
    ·exact .inl h
    ·split at h
     ·rename_i hl;exact .inr ⟨hl,List.mem_singleton.1 h⟩
     ·cases h
   ·cases h
 ·rintro(h|⟨i,y,ey,he,h⟩)
  ·exact .inl h
  ·have hi:=(List.getElem?_eq_some_iff.1 ey).1
   refine .inr ⟨i,hi, ?_⟩
   unfold b1x
   rw[ey]
   simp only
   rw[c0z (show i+1≤ys.length by omega),if_pos he]
   refine List.mem_append.2 (h.imp id fun⟨h1,h2⟩=> ?_)
   rw[if_pos h1,h2]
   exact List.mem_singleton.2 rfl
structure Cut (ys:List In) (cuts:List (Nat×Nat)):Prop where
 chain:chn 0 cuts ys.length
 pos:ys≠[]
 heads:∀q,q∈cuts.map (fun c=>V9 ys c.1)↔c3z ys q
 last:∀y,ys.getLast? =some y→V9 ys ys.length ∉ p4 y (V9 ys ys.length)
theorem c5D(ys:List In):((C3 ys).length:Int)=V9 ys ys.length:=by unfold V9;rw[List.take_length]
theorem c6Y(ys:List In):V9 ys 0=0:=rfl
theorem b6v{ys:List In}:∀ {cuts:List (Nat×Nat)} {a:Nat},chn a cuts ys.length→(cuts.map fun c=>V9 ys c.1).Pairwise (· < ·)
 | [],_,_=>List.Pairwise.nil
 |(s,t)::l,a,⟨h1,h2,h3⟩=>by
  refine List.pairwise_cons.2 ⟨fun q hq=> ?_,b6v h3⟩
  obtain⟨c,hc,rfl⟩:=List.mem_map.1 hq
  have:=(c0D h3).2 c hc
  exact b6l (by simp only;omega) (by omega)
theorem c8m{code:List Int}(hb:∀b∈code,J0 b){L:List (Dat×Nat)}(h:a5v code= .ok L):code=C3 (t8 L)∧C5 L=P4 0 (t8 L)∧∀y∈t8 L,isS y=true:=by
 have:=c7G hb _ _ L h (Nat.zero_le _) (by omega)
 rwa [List.drop_zero]at this
theorem Cut.tops{ys:List In}{cuts:List (Nat×Nat)}(h:Cut ys cuts):X8 (l7 ys (P4 0 ys++[((C3 ys).length:Int)]) ys.length)=cuts.map fun c=>V9 ys c.1:=
 O1 (D4 _).1 (b6v h.chain) fun q=>by rw[(D4 _).2,c6z,h.heads]
theorem Cut.ne{ys:List In}{cuts:List (Nat×Nat)}(h:Cut ys cuts):cuts≠[]:=fun e=>by
 have:=h.chain
 rw[e]at this
 exact h.pos (List.length_eq_zero_iff.1 (show 0=ys.length from this).symm)
end
end Go.Proofs.Ytdkidgkiplcggaa.d
end
