/-
  TransferKnownSaid: part Kag of its proof.
-/
import Derived.Test.YtdkidgkiplcggaaKaf
import Derived.WalkKit
import Derived.ProofKit
import Derived.OpenShut
set_option linter.unusedVariables false
set_option linter.unusedSimpArgs false
set_option maxRecDepth 100000
section
namespace Go.Am
section
section
variable(P:Program)(E:i9)(call:b3f)(ops:Array Oper)
def Ev(M:AHeap)(d:s0):Prop:=∃H',b6e P E call ops d.T (atN M d.lo) d.o=some (d.v,H')∧H'.next=d.hi∧c6P d.lo d.hi H'=d.kv
structure a6O (H:AHeap) (T0:List AV) (ds:List s0) (T:List AV) (n:Nat):Prop where
 ch:Ch H.next ds n
 row:T=B8 (fun _=>true) 0 ds T0
 op:∀(i:Nat) (d:s0),ds[i]? =some d→ops[i]? =some d.o
 anc:∀(i:Nat) (d:s0),ds[i]? =some d→b1Q (ds.take i) d.o.after.toList 0=some d.anc
 old:∀(i:Nat) (d:s0),ds[i]? =some d→d.T=B8 (fun _=>true) 0 (ds.take i) T0
 apart:∀(i j:Nat) (d e:s0),j<i→ds[i]? =some d→ds[j]? =some e→d.anc.testBit j=true∨d.o.apart ops e.o=true
 ev:∀(i:Nat) (d:s0),ds[i]? =some d→Ev P E call ops (a6A d.lo (fun j _=>d.anc.testBit j) 0 (ds.take i) H) d
 wrs:∀(i m:Nat) (d e:s0),ds[i]? =some d→ds[m]? =some e→e.wr=true→m≠i→d.anc.testBit m=false→(i<m→e.anc.testBit i=false)→
  d.wr=false∧Ev P E call ops (a6A d.lo (fun x f=>d.anc.testBit x||(f.wr&&decide (x≤m))) 0 (ds.take (max i (m+1))) H) d∧(i<m→∀k∈e.kv.map (·.1),k<d.lo∨d.hi≤k)
end
section
variable{P:Program}{E:i9}{call:b3f}{ops:Array Oper}
theorem c3w{M:AHeap}{d:s0}(h:c4v P E call ops M d=true):Ev P E call ops M d:=by
 unfold c4v at h
 split at h
 ·rename_i v H' h1
  simp only[Bool.and_eq_true,beq_iff_eq]at h
  obtain⟨⟨⟨a,b⟩,c⟩,e⟩:=h
  rw[←c1V _ _ a]at h1
  exact⟨H',h1,b,(c3L e).symm⟩
 ·cases h
theorem F4{α:Type}{ds:List α}{d x:α}{i:Nat}(h:(ds++[d])[i]? =some x):(i<ds.length∧ds[i]? =some x)∨(i=ds.length∧x=d):=by
 rw[List.getElem?_append]at h
 split at h
 ·rename_i hl;exact .inl ⟨hl,h⟩
 ·rename_i hl
  right
  by_cases e:i=ds.length
  ·subst e;simp at h;exact⟨rfl,h.symm⟩
  ·rw[List.getElem?_eq_none (by simp;omega)]at h;cases h
theorem a6g{D:Nat→Bool}:∀(ds:List s0) (j:Nat) (d:s0) (T:List AV),B8 D j (ds++[d]) T=(if D (j+ds.length) then a2C (B8 D j ds T) d.o.dst d.v else B8 D j ds T)
 | [],j,d,T=>by simp[B8]
 |e::ds,j,d,T=>by
  simp only[List.cons_append,B8,List.length_cons]
  rw[a6g ds,show j+1+ds.length=j+(ds.length+1) by omega]
theorem a6O.snoc{H:AHeap}{T0:List AV}{ds:List s0}{T:List AV}{n:Nat}(hw:Wf H)(hc:c9y call)(G:a6O P E call ops H T0 ds T n){o:Oper}(ho:ops[ds.length]? =some o){anc:Nat}
  (hanc:b1Q ds o.after.toList 0=some anc) (hap:c8B (fun j e=>anc.testBit j||o.apart ops e.o) 0 ds=true) {v:AV} {H':AHeap}
  (hst:b6e P E call ops T (atN (a6A n (fun j _=>anc.testBit j) 0 ds H) n) o=some (v,H')) {d:s0}
  (hd:d=⟨o,anc,T,v,n,H'.next, !(H'.log.all fun k=>decide (n≤k)),c6P n H'.next H'⟩) (hchk:c4j P E call ops H ds d=true):
  a6O P E call ops H T0 (ds++[d]) (a2C T o.dst v) H'.next:=by
 have hle:=G.ch.le
 have hwm:=d2L hw hle (fun j _=>anc.testBit j) 0 ds
 obtain⟨ts,e1,e2,e3,_⟩:=d0a hc hwm hst
 have hn:n≤H'.next:=by rw[e1];exact e2.1
 have hlog:∀k∈H'.log,k<H'.next:=by
  intro k hk
  rw[e1,c9q]at hk
  rcases hk with hk|⟨x,hk⟩
  ·simp[atN]at hk
  ·rw[e1];exact(e2.2 _ _ _ hk).2
 have hkeys:∀k∈(c6P n H'.next H').map (·.1),k<H'.next:=by
  intro k hk
  rcases c7r.1 hk with hk|hk
  ·exact hlog k hk.1
  ·exact hk.2.1
 have okd:Ok d:=by
  subst hd
  refine⟨hn,⟨H'.get,c5M⟩,hkeys, ?_, ?_⟩
  ·intro hwr k hk
   simp only[Bool.not_eq_false']at hwr
   rcases c7r.1 hk with hk|hk
   ·exact of_decide_eq_true (List.all_eq_true.1 hwr k hk.1)
   ·exact hk.1
  ·intro k x hx p hp
   have:=c5M _ hx
   exact e3.2 k x this.symm p hp
 have hlo:d.lo=n:=by rw[hd]
 have hhi:d.hi=H'.next:=by rw[hd]
 have hdo:d.o=o:=by rw[hd]
 have hdv:d.v=v:=by rw[hd]
 have hdanc:d.anc=anc:=by rw[hd]
 have hdT:d.T=T:=by rw[hd]
 refine⟨?_, ?_, ?_, ?_, ?_, ?_, ?_, ?_⟩
 ·rw[←hhi];exact Ch.snoc (by rw[hlo];exact G.ch) okd
 ·rw[a6g,if_pos rfl, ←G.row,hdo,hdv]
 ·intro i x hx
  rcases F4 hx with ⟨_,h⟩|⟨rfl,rfl⟩
  ·exact G.op i x h
  ·rw[hdo];exact ho
 ·intro i x hx
  rcases F4 hx with ⟨hl,h⟩|⟨rfl,rfl⟩
  ·rw[List.take_append_of_le_length (by omega)];exact G.anc i x h
  ·rw[List.take_append_of_le_length (Nat.le_refl _),List.take_length,hdo,hdanc];exact hanc
 ·intro i x hx
  rcases F4 hx with ⟨hl,h⟩|⟨rfl,rfl⟩
  ·rw[List.take_append_of_le_length (by omega)];exact G.old i x h
  ·rw[List.take_append_of_le_length (Nat.le_refl _),List.take_length,hdT];exact G.row
 ·intro i j x y hij hx hy
  rcases F4 hx with ⟨hl,h⟩|⟨rfl,rfl⟩
  ·rcases F4 hy with ⟨hl',h'⟩|⟨rfl,rfl⟩
   ·exact G.apart i j x y hij h h'
   ·omega
  ·rcases F4 hy with ⟨hl',h'⟩|⟨rfl,rfl⟩
   ·have:=a5t hap j y h'
    simp only[Nat.zero_add,Bool.or_eq_true]at this
    rw[hdanc,hdo];exact this
   ·omega
 ·intro i x hx
  rcases F4 hx with ⟨hl,h⟩|⟨rfl,rfl⟩
  ·rw[List.take_append_of_le_length (by omega)];exact G.ev i x h
  ·rw[List.take_append_of_le_length (Nat.le_refl _),List.take_length,hlo,hdanc]
   refine⟨H', ?_,hhi.symm, ?_⟩
   ·rw[hdT,hlo,hdo,hdv];exact hst
   ·rw[hlo,hhi,hd]
 ·intro i m x y hx hy hyw hmi hanx hany
  rcases F4 hx with ⟨hl,h⟩|⟨rfl,rfl⟩
  ·rcases F4 hy with ⟨hl',h'⟩|⟨rfl,rfl⟩
   ·rw[List.take_append_of_le_length (by omega)];exact G.wrs i m x y h h' hyw hmi hanx hany
   ·have hany':=hany hl
    unfold c4j at hchk
    rw[if_pos hyw]at hchk
    have:=a5t hchk i x h
    simp only[Nat.zero_add,Bool.or_eq_true,Bool.and_eq_true,Bool.not_eq_true',hany',Bool.false_eq_true,false_or]at this
    obtain⟨⟨a1,a2⟩,a3⟩:=this
    refine⟨a1, ?_,fun _ k hk=> ?_⟩
    ·have hmax:max i (ds.length+1)=ds.length+1:=by omega
     have htake:(ds++[y]).take (ds.length+1)=ds++[y]:=List.take_of_length_le (by simp)
     rw[hmax,htake]
     rw[b7L (p:=fun x_1 f=>x.anc.testBit x_1||(f.wr&&decide (x_1≤ds.length))) (q:=fun x_1 f=>x.anc.testBit x_1||f.wr)]
     ·exact c3w a3
     ·intro i' e' he'
      have hi':i'≤ds.length:=by
       rcases F4 he' with ⟨q,_⟩|⟨q,_⟩<;>omega
      simp[hi']
    ·simp only[List.mem_map]at hk
     obtain⟨z,hz,rfl⟩:=hk
     have:=List.all_eq_true.1 a2 z hz
     simpa using this
  ·rcases F4 hy with ⟨hl',h'⟩|⟨rfl,rfl⟩
   ·cases hxw:x.wr with
    |true=>
     unfold c4j at hchk
     rw[if_pos hxw]at hchk
     have:=a5t hchk m y h'
     simp only[Nat.zero_add,Bool.or_eq_true,Bool.and_eq_true,Bool.not_eq_true',hanx,hyw,Bool.false_eq_true,false_or,Bool.true_eq_false,false_and]at this
    |false=>
     unfold c4j at hchk
     rw[if_neg (by rw[hxw];exact Bool.false_ne_true)]at hchk
     have:=a5t hchk m y h'
     simp only[Nat.zero_add,Bool.or_eq_true,Bool.not_eq_true',hanx,hyw,Bool.false_eq_true,Bool.true_eq_false,false_or]at this
     refine⟨rfl, ?_,fun q=>by omega⟩
     have hmax:max ds.length (m+1)=ds.length:=by omega
     rw[hmax,List.take_append_of_le_length (Nat.le_refl _),List.take_length]
     exact c3w this
   ·exact(hmi rfl).elim
end
end
section
section
variable{P:Program}{E:i9}{call:b3f}
theorem a6O.nil{ops:Array Oper}(H:AHeap)(T:List AV):a6O P E call ops H T [] T H.next:=by
 refine⟨rfl,rfl, ?_, ?_, ?_, ?_, ?_, ?_⟩<;>intros<;>simp_all
end
end
section
section
variable{E:i9}{w0:World}{P:Program}
theorem b7J{ρ:B1}{T:List AV}{vs:Array Value}(h:s5 ρ T vs.toList)(t:Nat):rel ρ (T.getD t B6) (vs.getD t undef):=by
 have hl:=A2 h
 simp only[Array.length_toList]at hl
 by_cases ht:t<T.length
 ·obtain⟨v,h1,h2⟩:=a4f h t (List.getElem?_eq_getElem ht)
  have h1':vs[t]? =some v:=by simpa using h1
  rw[List.getD_eq_getElem?_getD,List.getElem?_eq_getElem ht]
  rw[Array.getD_eq_getD_getElem?,h1']
  exact h2
 ·rw[List.getD_eq_getElem?_getD,List.getElem?_eq_none (by omega),Array.getD_eq_getD_getElem?,Array.getElem?_eq_none (by omega)]
  exact b2f
theorem b5g{ρ:B1}{T:List AV}{a:Act}(h:s5 ρ T a.tmps.toList):∀x,rel ρ (l8 T x) (a.eval x)
 | .tmp t=>b7J h t
 | .const v=>b7q v
 | .global g=>by simp only[l8,Act.eval,rel,K9];exact⟨g,0,rfl,rfl⟩
 | .func f=>by
  simp only[l8,Act.eval,rel]
  exact⟨#[], #[],rfl,r0.2 rfl,r0.2 rfl⟩
theorem c5f{ρ:B1}{T:List AV}{a:Act}{dst:Option Tmp}{v:AV}{vv:Value}(h:s5 ρ T a.tmps.toList)(hv:rel ρ v vv):s5 ρ (a2C T dst v) (a.put dst vv).tmps.toList:=by
 cases dst with
 |none=>exact h
 |some d=>
  simp only[a2C,Act.put,Array.toList_setIfInBounds]
  exact c6M h d hv
theorem c1M{ρ:B1}{ops:Array Oper}{T:List AV}{tmps:Array Value}{o:Oper}{b:Bool}(h:a0F ops T o=some b)(hr:s5 ρ T tmps.toList):
  Region.wanted o (yielded ops tmps)=b:=by
 have hl:=A2 hr
 simp only[Array.length_toList]at hl
 unfold a0F at h
 unfold Region.wanted
 split at h
 ·rename_i hg;rw[hg];cases h;rfl
 ·rename_i j want hg
  rw[hg]
  simp only
  split at h
  ·rename_i hd
   cases h
   simp[yielded,hd]
  ·rename_i d hd
   have hy:yielded ops tmps j=(match tmps[d]? with|some (.bool b)=>some b|_=>none):=by
    unfold yielded
    rw[hd]
    rfl
   rw[hy]
   split at h
   ·rename_i b' hb
    cases h
    obtain⟨v,h1,h2⟩:=a4f hr d hb
    simp only[rel]at h2;subst h2
    rw[show tmps[d]? =some (.bool b') by simpa using h1]
    simp only
    cases b'<;>cases want<;>rfl
   ·cases h
   ·rename_i h1 h2
    cases h
    cases hT:T[d]? with
    |none=>
     have:tmps[d]? =none:=by
      rw[Array.getElem?_eq_none_iff]
      have:=List.getElem?_eq_none_iff.1 hT
      omega
     rw[this];cases want<;>rfl
    |some x=>
     obtain⟨v,g1,g2⟩:=a4f hr d hT
     rw[show tmps[d]? =some v by simpa using g1]
     cases v with
     |bool bb=>
      cases x<;>simp[rel]at g2
      ·subst g2;exact(h1 _ hT).elim
      ·subst g2;exact(h2 _ hT).elim
     |_=>cases want<;>rfl
structure Und (M H:AHeap) (n:Nat):Prop where
 wf:Wf M
 sub:Sub M H
 free:c5H H M.next n
theorem Und.head{M H:AHeap}{m n:Nat}(h:Und M H n)(hm:m≤n):Und M H m:=⟨h.wf,h.sub,h.free.sub h.wf (Nat.le_refl _) hm⟩
theorem Und.step{M H:AHeap}{n:Nat}{ts:List Tr}(h:Und M H n)(ht:X2 M ts)(hw:Wf (aps ts M)):Und (aps ts M) (aps ts H) n:=
 ⟨hw,h.sub.aps ts,ht.free (Nat.le_refl _) (h.free.sub h.wf ht.1 (Nat.le_refl _))⟩
theorem Und.le{M H:AHeap}{n:Nat}{ts:List Tr}(h:Und M H n)(ht:X2 M ts):H.next≤(aps ts H).next:=by
 rw[b8l ts h.sub.next,h.sub.next];exact ht.1
variable{call:b3f}
def St(E:i9)(w0:World)(H0:AHeap)(ρ0:B1)(ds:List Deferred)(T:List AV)(H:AHeap)(a:Act)(w:World):Prop:=
 ∃ρ,Ext ρ0 ρ∧(∀k,¬(H0.next≤k∧k<H.next)→ρ k=ρ0 k)∧s5 ρ T a.tmps.toList∧H3 E w0 H w ρ∧H0.next≤H.next∧a.defers=ds
theorem St.trans{H0 H1 H2:AHeap}{ρ0 ρ1:B1}{ds:List Deferred}{T:List AV}{a:Act}{w:World}(h1:Ext ρ0 ρ1)(h2:∀k,¬(H0.next≤k∧k<H1.next)→ρ1 k=ρ0 k)(h3:H0.next≤H1.next)
  (h:St E w0 H1 ρ1 ds T H2 a w):St E w0 H0 ρ0 ds T H2 a w:=by
 obtain⟨ρ,g1,g2,g3,g4,g5,g6⟩:=h
 refine⟨ρ,h1.trans g1,fun k hk=> ?_,g3,g4,by omega,g6⟩
 rw[g2 k (by omega),h2 k (by omega)]
theorem a3l.tail{H0 H1 H2:AHeap}{ρ0 ρ1:B1}(h:a3l ρ0 H0 H2)(h2:∀k,¬(H0.next≤k∧k<H1.next)→ρ1 k=ρ0 k)(h3:H0.next≤H1.next):a3l ρ1 H1 H2:=by
 intro k hk1 hk2
 rw[h2 k (by omega)]
 exact h k (by omega) hk2
theorem a3l.head{H0 H1 H2:AHeap}{ρ0:B1}(h:a3l ρ0 H0 H2)(h3:H1.next≤H2.next):a3l ρ0 H0 H1:=fun k hk1 hk2=>h k hk1 (by omega)
theorem a9M(a:Act)(dst:Option Tmp)(v:Value):(a.put dst v).defers=a.defers:=by cases dst<;>rfl
end
end
section
section
variable{E:i9}{w0:World}{P:Program}
def d3x:o7→Exit
 | .normal=> .normal
 | .exit id=> .exit id
 | .ret=> .ret
variable{call:b3f}
theorem St.log{H0 H H':AHeap}{ρ:B1}{ds:List Deferred}{T:List AV}{a:Act}{w:World}(h:St E w0 H0 ρ ds T H a w)(ho:H'.objs=H.objs)(hn:H'.next=H.next):St E w0 H0 ρ ds T H' a w:=by
 obtain⟨ρ',g1,g2,g3,g4,g5,g6⟩:=h
 exact⟨ρ',g1,by rw[hn];exact g2,g3,g4.log_eq ho,by omega,g6⟩
theorem c3p{α:Type}{f:α→Option AV}{g:α→Sem Value}{w:World}{ρ:B1}(hfg:∀x a,f x=some a→∃v,(g x).run P w= .ok v w∧rel ρ a v):∀ {l:List α} {r:List AV},l.mapM f=some r→
  ∃vs,(l.mapM g).run P w= .ok vs w∧s5 ρ r vs
 | [],r,h=>by simp at h;subst h;exact⟨[],rfl,r0.2 rfl⟩
 |x::l,r,h=>by
  simp only[List.mapM_cons,Option.bind_eq_bind,Option.bind_eq_some_iff]at h
  obtain⟨a,ha,as,has,h⟩:=h
  cases h
  obtain⟨v,h1,h2⟩:=hfg x a ha
  obtain⟨vs,g1,g2⟩:=c3p hfg has
  exact⟨v::vs,by simp[List.mapM_cons,h1,g1],o6.2 ⟨h2,g2⟩⟩
theorem c1S{H:AHeap}{w:World}{ρ:B1}(R:H3 E w0 H w ρ){fn:Func}{T:List AV}{v:AV}{tmps:Array Value}(h:b5w P E H fn T=some v)(hT:s5 ρ T tmps.toList):
  ∃u,(results fn tmps).run P w= .ok u w∧rel ρ v u:=by
 unfold b5w at h
 simp only[Option.bind_eq_bind,Option.bind_eq_some_iff]at h
 obtain⟨r,hr,h⟩:=h
 obtain⟨vs,g1,g2⟩:=c3p (P:=P) (w:=w) (ρ:=ρ) (g:=fun
  | .tmp t=>pure (tmps.getD t undef)
  | .cell a t=>do loadVar t (←asAddr (tmps.getD a undef))) (by
   intro x a hx
   cases x with
   |tmp t=>simp only at hx;cases hx;exact⟨_,rfl,b7J hT t⟩
   |cell a t=>
    simp only at hx
    split at hx
    ·rename_i o i ha
     have hr:=b7J hT a
     rw[ha]at hr
     simp only[rel]at hr
     obtain⟨b,d,hb,hv⟩:=hr
     obtain⟨b',d',u,k1,k2,k3⟩:=a6c (P:=P) R hx
     rw[hb]at k1;cases k1
     refine⟨u, ?_,k3⟩
     simp only[hv,asAddr,Sem.run_bind,Sem.run_pure,Result.andThen_ok,k2]
    ·cases hx) hr
 have hm:(fn.results.mapM (fun
  | .tmp t=>pure (tmps.getD t undef)
  | .cell a t=>do loadVar t (←asAddr (tmps.getD a undef)):ResultVar→Sem Value)).run P w= .ok ⟨vs⟩ w:=by
  rw[Array.mapM_eq_mapM_toList]
  simp only[Sem.run_map,g1,Result.andThen_ok]
 have hl:=A2 g2
 have hrun:(results fn tmps).run P w= .ok (if h:(⟨vs⟩:Array Value).size=1 then(⟨vs⟩:Array Value)[0]else .tuple ⟨vs⟩) w:=by
  unfold results
  rw[Sem.run_bind]
  erw [hm]
  rfl
 refine⟨_,hrun, ?_⟩
 split at h
 ·rename_i v'
  cases h
  obtain⟨x,rfl,hx⟩:=c5n g2
  simpa using hx
 ·rename_i hne
  cases h
  have:vs.length≠1:=by
   intro e
   rw[e]at hl
   obtain⟨x,rfl⟩:=List.length_eq_one_iff.1 hl
   exact hne x rfl
  rw[dif_neg (by simpa using this)]
  simp only[rel]
  exact⟨_,rfl,g2⟩
end
end
section
theorem b6p{ds:List s0}:∀(es:List Edge) (m r:Nat),b1Q ds es m=some r→∀e∈es,Region.binds .any e=true→e.on<ds.length
 | [],m,r,h,e,he,_=>by cases he
 |x::es,m,r,h,e,he,hb=>by
  simp only[b1Q]at h
  split at h
  ·rename_i hx
   split at h
   ·rename_i d hd
    rcases List.mem_cons.1 he with rfl|he
    ·exact(List.getElem?_eq_some_iff.1 hd).1
    ·exact b6p es _ _ h e he hb
   ·cases h
  ·rename_i hx
   rcases List.mem_cons.1 he with rfl|he
   ·exact(hx hb).elim
   ·exact b6p es _ _ h e he hb
theorem b2r{ds:List s0}{S:Nat→Prop}:∀(es:List Edge) (m r:Nat),b1Q ds es m=some r→(∀j,m.testBit j=true→S j)→
  (∀e∈es,Region.binds .any e=true→S e.on∧∀d,ds[e.on]? =some d→∀j,d.anc.testBit j=true→S j)→∀j,r.testBit j=true→S j
 | [],m,r,h,hm,_=>by simp only[b1Q]at h;cases h;exact hm
 |x::es,m,r,h,hm,he=>by
  simp only[b1Q]at h
  split at h
  ·rename_i hx
   split at h
   ·rename_i d hd
    refine b2r es _ _ h ?_ fun e hm=>he e (List.mem_cons_of_mem _ hm)
    obtain⟨h1,h2⟩:=he x List.mem_cons_self hx
    intro j hj
    rw[Nat.testBit_or,Nat.testBit_or,Nat.testBit_two_pow,Bool.or_eq_true,Bool.or_eq_true,decide_eq_true_eq]at hj
    rcases hj with (hj|rfl)|hj
    ·exact hm j hj
    ·exact h1
    ·exact h2 d hd j hj
   ·cases h
  ·exact b2r es _ _ h hm fun e hm=>he e (List.mem_cons_of_mem _ hm)
section
variable{E:i9}{w0:World}{P:Program}{call:b3f}{ops:Array Oper}
def isL(L:Array Bool)(x:Nat):Bool:=L.getD x false
def c5v(ds:List s0)(L:Array Bool):Prop:=∀(i:Nat) (d:s0),ds[i]? =some d→isL L i=true→∀j,d.anc.testBit j=true→isL L j=true
theorem a6O.ready_anc{H:AHeap}{T0 T:List AV}{ds:List s0}{n:Nat}(G:a6O P E call ops H T0 ds T n){L:Array Bool}(hcl:c5v ds L){i:Nat}{d:s0}(hd:ds[i]? =some d)
  (ha:∀e∈d.o.after,Region.binds .any e=true→L.getD e.on false=true):∀j,d.anc.testBit j=true→isL L j=true:=by
 refine b2r (S:=fun j=>isL L j=true) _ _ _ (G.anc i d hd) (fun j hj=>by simp at hj) ?_
 intro e he hb
 have h1:isL L e.on=true:=ha e (by simpa using he) hb
 refine⟨h1,fun d' hd' j hj=> ?_⟩
 rw[List.getElem?_take]at hd'
 split at hd'
 ·exact hcl _ _ hd' h1 j hj
 ·cases hd'
theorem a9e{L:Array Bool}{i:Nat}(h:i<L.size)(x:Nat):isL (L.setIfInBounds i true) x=(x==i||isL L x):=by
 unfold isL
 by_cases e:x=i
 ·subst e
  simp[h]
 ·have:(x==i)=false:=by simp[e]
  rw[this,Bool.false_or,getD_set_ne _ (Ne.symm e)]
end
end
section
section
variable{E:i9}{w0:World}{P:Program}{call:b3f}{ops:Array Oper}
def unl(n:Nat)(L:Array Bool):Nat:=(List.range n).countP fun x=> !isL L x
theorem b8i{p q:Nat→Bool}{i:Nat}:∀(l:List Nat),(∀x∈l,q x=true→p x=true)→i∈l→p i=true→q i=false→l.countP q<l.countP p
 | [],_,h,_,_=>by cases h
 |x::l,h,hm,hp,hq=>by
  have hmono:l.countP q≤l.countP p:=List.countP_mono_left fun y hy=>h y (List.mem_cons_of_mem _ hy)
  by_cases hxi:x=i
  ·subst hxi
   rw[List.countP_cons_of_pos hp,List.countP_cons_of_neg (by rw[hq];exact Bool.false_ne_true)]
   omega
  ·have hm':i∈l:=by
    rcases List.mem_cons.1 hm with e|e
    ·exact(hxi e.symm).elim
    ·exact e
   have:=b8i l (fun y hy=>h y (List.mem_cons_of_mem _ hy)) hm' hp hq
   have hx:=h x List.mem_cons_self
   rw[List.countP_cons,List.countP_cons]
   cases hqx:q x
   ·simp;omega
   ·rw[hx hqx];simp;omega
theorem c3Q{n i:Nat}{L:Array Bool}(hn:i<n)(hs:i<L.size)(h:isL L i=false):unl n (L.setIfInBounds i true)<unl n L:=by
 refine b8i (i:=i) _ ?_ (List.mem_range.2 hn) (by rw[h];rfl) (by rw[a9e hs];simp)
 intro x _ hx
 rw[a9e hs]at hx
 simp only[Bool.not_eq_true',Bool.or_eq_false_iff]at hx
 rw[hx.2];rfl
theorem b9R{n:Nat}{L:Array Bool}(h:unl n L=0)(i:Nat)(hi:i<n):isL L i=true:=by
 have:=List.countP_eq_zero.1 h i (List.mem_range.2 hi)
 simpa using this
theorem all_listed{M:AHeap}{T0 T:List AV}{ds:List s0}{n:Nat}(G:a6O P E call ops M T0 ds T n)(hlen:ds.length=ops.size){L:Array Bool}(hsz:L.size=ops.size)(h:Region.ready .any ops L=[]):∀(N j:Nat),j<N→j<ops.size→isL L j=true
 |0,j,h,_=>by omega
 |N+1,j,hj,hjs=>by
  cases hb:isL L j with
  |true=>rfl
  |false=>
   have hm:j∈Region.ready .any ops L:=by
    rw[mem_ready]
    refine⟨?_,ops[j],Array.getElem?_eq_getElem hjs,fun e he hbn=> ?_⟩
    ·unfold isL at hb
     rw[Array.getD_eq_getD_getElem?]at hb ⊢
     rw[Array.getElem?_eq_getElem (by omega)]at hb ⊢
     exact hb
    ·have hd:ds[j]? =some (ds[j]'(by omega)):=List.getElem?_eq_getElem (by omega)
     have hop:=G.op j _ hd
     rw[Array.getElem?_eq_getElem hjs]at hop
     rw[Option.some.inj hop]at he
     have hon:=b6p _ _ _ (G.anc j _ hd) e (by simpa using he) hbn
     rw[List.length_take]at hon
     exact all_listed G hlen hsz h N e.on (by omega) (by omega)
   rw[h]at hm
   cases hm
end
end
section
open Go.ChangeShapes Go.WideShapes Go.ChangeAt Go.RowKit
def b9m(W w:World):Prop:=w.os=W.os∧w.output=W.output∧∀b,b<W.heap.size→w.heap[b]? =W.heap[b]?
theorem b9m.but{W w:World}(h:b9m W w)(may:MemPlace→Prop):W.keptBut w may:=by
 refine⟨h.1,h.2.1,fun i hi=> ?_⟩
 rw[h.2.2 i hi]
 cases e:W.heap[i]? with
 |none=>simp
 |some o=>cases o<;>simp
theorem b9m.frozen{W w:World}(h:b9m W w)(a:Addr)(ha:a.block<W.heap.size):w.frozen? a=W.frozen? a:=by
 unfold World.frozen?
 rw[h.2.2 a.block ha]
theorem Wf.empty:Wf AHeap.empty:=by
 refine⟨fun k _=> ?_,fun k o e=> ?_⟩
 ·simp[AHeap.empty,AHeap.get,Trie.get]
 ·simp[AHeap.empty,AHeap.get,Trie.get]at e
theorem H3.start(E:i9)(W:World)(hE:∀b cs,E b=some cs→b<W.heap.size∧∃arr el fr,W.heap[b]? =some (.cells arr el fr)∧s5 (fun _=>none) cs arr.toList):H3 E W AHeap.empty W (fun _=>none):=by
 have hg:∀k o,AHeap.empty.get k=some o→False:=fun k o e=>by simp[AHeap.empty,AHeap.get,Trie.get]at e
 exact⟨Nat.le_refl _,fun _ _=>rfl,hE,⟨rfl,rfl⟩,fun k o e=>(hg k o e).elim,fun k _ o _ _ _ e=>(hg k o e).elim,fun k o e=>(hg k o e).elim,fun k _ o _ _ _ e=>(hg k o e).elim⟩
variable{P:Program}{H:Type}{enc:TypeId×Value→H}
theorem c4O{f:Func}{s:ChangeSpec}{apart fresh handsOn again:Bool}{W W':World}{args:Array Value}{v:Value}{ds gs:List (DataW H)}{before pa pv:List MemPlace}
  (hW:DataW.Whole enc P f.params.toList s.vars apart W args.toList ds gs before)
  (hres:∀(b:Nat) (sp:Nat→Bool) (hd:Bool),DataW.TrodAll enc P W' b sp hd f.resultTypes.toList (v.resultList f.resultTypes.size) (s.fn H (ds++gs)).results [])
  (hargs:∀sp:Nat→Bool,(∀p∈before,sp p.block=true)→DataW.TrodAll enc P W' 0 sp true f.params.toList args.toList (s.fn H (ds++gs)).args pa)
  (hvars:∀sp:Nat→Bool,(∀p∈before,sp p.block=true)→DataW.TrodVars enc P W' sp s.vars (s.fn H (ds++gs)).vars pv)
  (hps:before=pa++pv) (hk:b9m W W')
  (hok:∀(j:Nat) (t:TypeId) (r:Value),f.resultTypes[j]? =some t→(v.resultList f.resultTypes.size)[j]? =some r→Value.okWide P W' .any 0 t r):
  s.post enc P f apart fresh handsOn again W args v W':=by
 have hlt:∀p∈before,p.block<W.heap.size:=fun p hp=>hW.lt p hp
 have hold:∀p∈before,(fun b=>decide (b<W.heap.size)) p.block=true:=fun p hp=>by simpa using hlt p hp
 subst hps
 have hW0:=hW
 obtain⟨_,_,_,_,_,hz,hn⟩:=hW0
 refine⟨ds,gs,pa++pv,[],pa,pv,hW,hres _ _ _,hargs _ hold,hvars _ hold,hk.but _,fun _=>⟨hok,_,_,([]++pa)++pv,⟨[]++pa,pv,trodAll_append (hargs _ fun _ _=>rfl) (hres _ _ _),hvars _ fun _ _=>rfl,rfl, ?_, ?_⟩, ?_⟩⟩
 ·intro b off hp
  have hp':MemPlace.cell b off∈pa++pv:=by simpa using hp
  rw[hk.frozen _ (hlt _ hp')]
  exact hz b off hp'
 ·intro ha
  simpa using hn ha
 ·intro p hp _
  simpa using hp
end
end Go.Am
end
