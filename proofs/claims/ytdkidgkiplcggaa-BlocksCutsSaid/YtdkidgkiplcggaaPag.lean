/-
  BlocksCutsSaid: part Pag of its proof.
-/
import Derived.Test.YtdkidgkiplcggaaPaf
import Derived.WalkKit
import Derived.ProofKit
import Derived.OpenShut
set_option linter.unusedVariables false
set_option linter.unusedSimpArgs false
set_option maxRecDepth 100000
section
namespace Go.Am
section
section
variable(P:Program)(E:g8)(call:a9K)(ops:Array Oper)
def Ev(M:AHeap)(d:o9):Prop:=∃H',b0V P E call ops d.T (atN M d.lo) d.o=some (d.v,H')∧H'.next=d.hi∧b5M d.lo d.hi H'=d.kv
structure a2R (H:AHeap) (T0:List AV) (ds:List o9) (T:List AV) (n:Nat):Prop where
 ch:Ch H.next ds n
 row:T=A1 (fun _=>true) 0 ds T0
 op:∀(i:Nat) (d:o9),ds[i]? =some d→ops[i]? =some d.o
 anc:∀(i:Nat) (d:o9),ds[i]? =some d→a7I (ds.take i) d.o.after.toList 0=some d.anc
 old:∀(i:Nat) (d:o9),ds[i]? =some d→d.T=A1 (fun _=>true) 0 (ds.take i) T0
 apart:∀(i j:Nat) (d e:o9),j<i→ds[i]? =some d→ds[j]? =some e→d.anc.testBit j=true∨d.o.apart ops e.o=true
 ev:∀(i:Nat) (d:o9),ds[i]? =some d→Ev P E call ops (a3s d.lo (fun j _=>d.anc.testBit j) 0 (ds.take i) H) d
 wrs:∀(i m:Nat) (d e:o9),ds[i]? =some d→ds[m]? =some e→e.wr=true→m≠i→d.anc.testBit m=false→(i<m→e.anc.testBit i=false)→
  d.wr=false∧Ev P E call ops (a3s d.lo (fun x f=>d.anc.testBit x||(f.wr&&decide (x≤m))) 0 (ds.take (max i (m+1))) H) d∧(i<m→∀k∈e.kv.map (·.1),k<d.lo∨d.hi≤k)
end
section
variable{P:Program}{E:g8}{call:a9K}{ops:Array Oper}
theorem b9q{M:AHeap}{d:o9}(h:b9s P E call ops M d=true):Ev P E call ops M d:=by
 unfold b9s at h
 split at h
 ·rename_i v H' h1
  simp only[Bool.and_eq_true,beq_iff_eq]at h
  obtain⟨⟨⟨a,b⟩,c⟩,e⟩:=h
  rw[←b5J _ _ a]at h1
  exact⟨H',h1,b,(b8H e).symm⟩
 ·cases h
theorem C8{α:Type}{ds:List α}{d x:α}{i:Nat}(h:(ds++[d])[i]? =some x):(i<ds.length∧ds[i]? =some x)∨(i=ds.length∧x=d):=by
 rw[List.getElem?_append]at h
 split at h
 ·rename_i hl;exact .inl ⟨hl,h⟩
 ·rename_i hl
  right
  by_cases e:i=ds.length
  ·subst e;simp at h;exact⟨rfl,h.symm⟩
  ·rw[List.getElem?_eq_none (by simp;omega)]at h;cases h
theorem a3u{D:Nat→Bool}:∀(ds:List o9) (j:Nat) (d:o9) (T:List AV),A1 D j (ds++[d]) T=(if D (j+ds.length) then a0X (A1 D j ds T) d.o.dst d.v else A1 D j ds T)
 | [],j,d,T=>by simp[A1]
 |e::ds,j,d,T=>by
  simp only[List.cons_append,A1,List.length_cons]
  rw[a3u ds,show j+1+ds.length=j+(ds.length+1) by omega]
theorem a2R.snoc{H:AHeap}{T0:List AV}{ds:List o9}{T:List AV}{n:Nat}(hw:Wf H)(hc:c4g call)(G:a2R P E call ops H T0 ds T n){o:Oper}(ho:ops[ds.length]? =some o){anc:Nat}
  (hanc:a7I ds o.after.toList 0=some anc) (hap:c3Y (fun j e=>anc.testBit j||o.apart ops e.o) 0 ds=true) {v:AV} {H':AHeap}
  (hst:b0V P E call ops T (atN (a3s n (fun j _=>anc.testBit j) 0 ds H) n) o=some (v,H')) {d:o9}
  (hd:d=⟨o,anc,T,v,n,H'.next, !(H'.log.all fun k=>decide (n≤k)),b5M n H'.next H'⟩) (hchk:c0a P E call ops H ds d=true):
  a2R P E call ops H T0 (ds++[d]) (a0X T o.dst v) H'.next:=by
 have hle:=G.ch.le
 have hwm:=c8t hw hle (fun j _=>anc.testBit j) 0 ds
 obtain⟨ts,e1,e2,e3,_⟩:=c6a hc hwm hst
 have hn:n≤H'.next:=by rw[e1];exact e2.1
 have hlog:∀k∈H'.log,k<H'.next:=by
  intro k hk
  rw[e1,c4A]at hk
  rcases hk with hk|⟨x,hk⟩
  ·simp[atN]at hk
  ·rw[e1];exact(e2.2 _ _ _ hk).2
 have hkeys:∀k∈(b5M n H'.next H').map (·.1),k<H'.next:=by
  intro k hk
  rcases c1T.1 hk with hk|hk
  ·exact hlog k hk.1
  ·exact hk.2.1
 have okd:Ok d:=by
  subst hd
  refine⟨hn,⟨H'.get,c2z⟩,hkeys, ?_, ?_⟩
  ·intro hwr k hk
   simp only[Bool.not_eq_false']at hwr
   rcases c1T.1 hk with hk|hk
   ·exact of_decide_eq_true (List.all_eq_true.1 hwr k hk.1)
   ·exact hk.1
  ·intro k x hx p hp
   have:=c2z _ hx
   exact e3.2 k x this.symm p hp
 have hlo:d.lo=n:=by rw[hd]
 have hhi:d.hi=H'.next:=by rw[hd]
 have hdo:d.o=o:=by rw[hd]
 have hdv:d.v=v:=by rw[hd]
 have hdanc:d.anc=anc:=by rw[hd]
 have hdT:d.T=T:=by rw[hd]
 refine⟨?_, ?_, ?_, ?_, ?_, ?_, ?_, ?_⟩
 ·rw[←hhi];exact Ch.snoc (by rw[hlo];exact G.ch) okd
 ·rw[a3u,if_pos rfl, ←G.row,hdo,hdv]
 ·intro i x hx
  rcases C8 hx with ⟨_,h⟩|⟨rfl,rfl⟩
  ·exact G.op i x h
  ·rw[hdo];exact ho
 ·intro i x hx
  rcases C8 hx with ⟨hl,h⟩|⟨rfl,rfl⟩
  ·rw[List.take_append_of_le_length (by omega)];exact G.anc i x h
  ·rw[List.take_append_of_le_length (Nat.le_refl _),List.take_length,hdo,hdanc];exact hanc
 ·intro i x hx
  rcases C8 hx with ⟨hl,h⟩|⟨rfl,rfl⟩
  ·rw[List.take_append_of_le_length (by omega)];exact G.old i x h
  ·rw[List.take_append_of_le_length (Nat.le_refl _),List.take_length,hdT];exact G.row
 ·intro i j x y hij hx hy
  rcases C8 hx with ⟨hl,h⟩|⟨rfl,rfl⟩
  ·rcases C8 hy with ⟨hl',h'⟩|⟨rfl,rfl⟩
   ·exact G.apart i j x y hij h h'
   ·omega
  ·rcases C8 hy with ⟨hl',h'⟩|⟨rfl,rfl⟩
   ·have:=a2V hap j y h'
    simp only[Nat.zero_add,Bool.or_eq_true]at this
    rw[hdanc,hdo];exact this
   ·omega
 ·intro i x hx
  rcases C8 hx with ⟨hl,h⟩|⟨rfl,rfl⟩
  ·rw[List.take_append_of_le_length (by omega)];exact G.ev i x h
  ·rw[List.take_append_of_le_length (Nat.le_refl _),List.take_length,hlo,hdanc]
   refine⟨H', ?_,hhi.symm, ?_⟩
   ·rw[hdT,hlo,hdo,hdv];exact hst
   ·rw[hlo,hhi,hd]
 ·intro i m x y hx hy hyw hmi hanx hany
  rcases C8 hx with ⟨hl,h⟩|⟨rfl,rfl⟩
  ·rcases C8 hy with ⟨hl',h'⟩|⟨rfl,rfl⟩
   ·rw[List.take_append_of_le_length (by omega)];exact G.wrs i m x y h h' hyw hmi hanx hany
   ·have hany':=hany hl
    unfold c0a at hchk
    rw[if_pos hyw]at hchk
    have:=a2V hchk i x h
    simp only[Nat.zero_add,Bool.or_eq_true,Bool.and_eq_true,Bool.not_eq_true',hany',Bool.false_eq_true,false_or]at this
    obtain⟨⟨a1,a2⟩,a3⟩:=this
    refine⟨a1, ?_,fun _ k hk=> ?_⟩
    ·have hmax:max i (ds.length+1)=ds.length+1:=by omega
     have htake:(ds++[y]).take (ds.length+1)=ds++[y]:=List.take_of_length_le (by simp)
     rw[hmax,htake]
     rw[b4e (p:=fun x_1 f=>x.anc.testBit x_1||(f.wr&&decide (x_1≤ds.length))) (q:=fun x_1 f=>x.anc.testBit x_1||f.wr)]
     ·exact b9q a3
     ·intro i' e' he'
      have hi':i'≤ds.length:=by
       rcases C8 he' with ⟨q,_⟩|⟨q,_⟩<;>omega
      simp[hi']
    ·simp only[List.mem_map]at hk
     obtain⟨z,hz,rfl⟩:=hk
     have:=List.all_eq_true.1 a2 z hz
     simpa using this
  ·rcases C8 hy with ⟨hl',h'⟩|⟨rfl,rfl⟩
   ·cases hxw:x.wr with
    |true=>
     unfold c0a at hchk
     rw[if_pos hxw]at hchk
     have:=a2V hchk m y h'
     simp only[Nat.zero_add,Bool.or_eq_true,Bool.and_eq_true,Bool.not_eq_true',hanx,hyw,Bool.false_eq_true,false_or,Bool.true_eq_false,false_and]at this
    |false=>
     unfold c0a at hchk
     rw[if_neg (by rw[hxw];exact Bool.false_ne_true)]at hchk
     have:=a2V hchk m y h'
     simp only[Nat.zero_add,Bool.or_eq_true,Bool.not_eq_true',hanx,hyw,Bool.false_eq_true,Bool.true_eq_false,false_or]at this
     refine⟨rfl, ?_,fun q=>by omega⟩
     have hmax:max ds.length (m+1)=ds.length:=by omega
     rw[hmax,List.take_append_of_le_length (Nat.le_refl _),List.take_length]
     exact b9q this
   ·exact(hmi rfl).elim
end
end
section
section
variable{P:Program}{E:g8}{call:a9K}
theorem a2R.nil{ops:Array Oper}(H:AHeap)(T:List AV):a2R P E call ops H T [] T H.next:=by
 refine⟨rfl,rfl, ?_, ?_, ?_, ?_, ?_, ?_⟩<;>intros<;>simp_all
end
end
section
section
variable{E:g8}{w0:World}{P:Program}
theorem b3u{ρ:u5}{T:List AV}{vs:Array Value}(h:m6 ρ T vs.toList)(t:Nat):rel ρ (T.getD t s8) (vs.getD t undef):=by
 have hl:=u7 h
 simp only[Array.length_toList]at hl
 by_cases ht:t<T.length
 ·obtain⟨v,h1,h2⟩:=a2k h t (List.getElem?_eq_getElem ht)
  have h1':vs[t]? =some v:=by simpa using h1
  rw[List.getD_eq_getElem?_getD,List.getElem?_eq_getElem ht]
  rw[Array.getD_eq_getD_getElem?,h1']
  exact h2
 ·rw[List.getD_eq_getElem?_getD,List.getElem?_eq_none (by omega),Array.getD_eq_getD_getElem?,Array.getElem?_eq_none (by omega)]
  exact a8H
theorem a3B{ρ:u5}{T:List AV}{a:Act}(h:m6 ρ T a.tmps.toList):∀x,rel ρ (i4 T x) (a.eval x)
 | .tmp t=>b3u h t
 | .const v=>b2w v
 | .global g=>by simp only[i4,Act.eval,rel,E4];exact⟨g,0,rfl,rfl⟩
 | .func f=>by
  simp only[i4,Act.eval,rel]
  exact⟨#[], #[],rfl,m7.2 rfl,m7.2 rfl⟩
theorem a8G{ρ:u5}{T:List AV}{a:Act}{dst:Option Tmp}{v:AV}{vv:Value}(h:m6 ρ T a.tmps.toList)(hv:rel ρ v vv):m6 ρ (a0X T dst v) (a.put dst vv).tmps.toList:=by
 cases dst with
 |none=>exact h
 |some d=>
  simp only[a0X,Act.put,Array.toList_setIfInBounds]
  exact c1I h d hv
theorem b7d{ρ:u5}{ops:Array Oper}{T:List AV}{tmps:Array Value}{o:Oper}{b:Bool}(h:U8 ops T o=some b)(hr:m6 ρ T tmps.toList):
  Region.wanted o (yielded ops tmps)=b:=by
 have hl:=u7 hr
 simp only[Array.length_toList]at hl
 unfold U8 at h
 unfold Region.wanted
 split at h
 ·rename_i hg;rw[hg];cases h;rfl
 ·rename_i j want hg
  rw[hg]
  simp only
  split at h
  ·rename_i hd
   cases h
   simp[yielded,hd]
  ·rename_i d hd
   have hy:yielded ops tmps j=(match tmps[d]? with|some (.bool b)=>some b|_=>none):=by
    unfold yielded
    rw[hd]
    rfl
   rw[hy]
   split at h
   ·rename_i b' hb
    cases h
    obtain⟨v,h1,h2⟩:=a2k hr d hb
    simp only[rel]at h2;subst h2
    rw[show tmps[d]? =some (.bool b') by simpa using h1]
    simp only
    cases b'<;>cases want<;>rfl
   ·cases h
   ·rename_i h1 h2
    cases h
    cases hT:T[d]? with
    |none=>
     have:tmps[d]? =none:=by
      rw[Array.getElem?_eq_none_iff]
      have:=List.getElem?_eq_none_iff.1 hT
      omega
     rw[this];cases want<;>rfl
    |some x=>
     obtain⟨v,g1,g2⟩:=a2k hr d hT
     rw[show tmps[d]? =some v by simpa using g1]
     cases v with
     |bool bb=>
      cases x<;>simp[rel]at g2
      ·subst g2;exact(h1 _ hT).elim
      ·subst g2;exact(h2 _ hT).elim
     |_=>cases want<;>rfl
structure Und (M H:AHeap) (n:Nat):Prop where
 wf:Wf M
 sub:Sub M H
 free:c2f H M.next n
theorem Und.head{M H:AHeap}{m n:Nat}(h:Und M H n)(hm:m≤n):Und M H m:=⟨h.wf,h.sub,h.free.sub h.wf (Nat.le_refl _) hm⟩
theorem Und.step{M H:AHeap}{n:Nat}{ts:List Tr}(h:Und M H n)(ht:O5 M ts)(hw:Wf (aps ts M)):Und (aps ts M) (aps ts H) n:=
 ⟨hw,h.sub.aps ts,ht.free (Nat.le_refl _) (h.free.sub h.wf ht.1 (Nat.le_refl _))⟩
theorem Und.le{M H:AHeap}{n:Nat}{ts:List Tr}(h:Und M H n)(ht:O5 M ts):H.next≤(aps ts H).next:=by
 rw[b4i ts h.sub.next,h.sub.next];exact ht.1
variable{call:a9K}
def St(E:g8)(w0:World)(H0:AHeap)(ρ0:u5)(ds:List Deferred)(T:List AV)(H:AHeap)(a:Act)(w:World):Prop:=
 ∃ρ,Ext ρ0 ρ∧(∀k,¬(H0.next≤k∧k<H.next)→ρ k=ρ0 k)∧m6 ρ T a.tmps.toList∧B6 E w0 H w ρ∧H0.next≤H.next∧a.defers=ds
theorem St.trans{H0 H1 H2:AHeap}{ρ0 ρ1:u5}{ds:List Deferred}{T:List AV}{a:Act}{w:World}(h1:Ext ρ0 ρ1)(h2:∀k,¬(H0.next≤k∧k<H1.next)→ρ1 k=ρ0 k)(h3:H0.next≤H1.next)
  (h:St E w0 H1 ρ1 ds T H2 a w):St E w0 H0 ρ0 ds T H2 a w:=by
 obtain⟨ρ,g1,g2,g3,g4,g5,g6⟩:=h
 refine⟨ρ,h1.trans g1,fun k hk=> ?_,g3,g4,by omega,g6⟩
 rw[g2 k (by omega),h2 k (by omega)]
theorem a1w.tail{H0 H1 H2:AHeap}{ρ0 ρ1:u5}(h:a1w ρ0 H0 H2)(h2:∀k,¬(H0.next≤k∧k<H1.next)→ρ1 k=ρ0 k)(h3:H0.next≤H1.next):a1w ρ1 H1 H2:=by
 intro k hk1 hk2
 rw[h2 k (by omega)]
 exact h k (by omega) hk2
theorem a1w.head{H0 H1 H2:AHeap}{ρ0:u5}(h:a1w ρ0 H0 H2)(h3:H1.next≤H2.next):a1w ρ0 H0 H1:=fun k hk1 hk2=>h k hk1 (by omega)
theorem I7(a:Act)(dst:Option Tmp)(v:Value):(a.put dst v).defers=a.defers:=by cases dst<;>rfl
end
end
section
section
variable{E:g8}{w0:World}{P:Program}
def c8o:j7→Exit
 | .normal=> .normal
 | .exit id=> .exit id
 | .ret=> .ret
variable{call:a9K}
theorem St.log{H0 H H':AHeap}{ρ:u5}{ds:List Deferred}{T:List AV}{a:Act}{w:World}(h:St E w0 H0 ρ ds T H a w)(ho:H'.objs=H.objs)(hn:H'.next=H.next):St E w0 H0 ρ ds T H' a w:=by
 obtain⟨ρ',g1,g2,g3,g4,g5,g6⟩:=h
 exact⟨ρ',g1,by rw[hn];exact g2,g3,g4.log_eq ho,by omega,g6⟩
theorem b8Q{α:Type}{f:α→Option AV}{g:α→Sem Value}{w:World}{ρ:u5}(hfg:∀x a,f x=some a→∃v,(g x).run P w= .ok v w∧rel ρ a v):∀ {l:List α} {r:List AV},l.mapM f=some r→
  ∃vs,(l.mapM g).run P w= .ok vs w∧m6 ρ r vs
 | [],r,h=>by simp at h;subst h;exact⟨[],rfl,m7.2 rfl⟩
 |x::l,r,h=>by
  simp only[List.mapM_cons,Option.bind_eq_bind,Option.bind_eq_some_iff]at h
  obtain⟨a,ha,as,has,h⟩:=h
  cases h
  obtain⟨v,h1,h2⟩:=hfg x a ha
  obtain⟨vs,g1,g2⟩:=b8Q hfg has
  exact⟨v::vs,by simp[List.mapM_cons,h1,g1],j3.2 ⟨h2,g2⟩⟩
theorem b6M{H:AHeap}{w:World}{ρ:u5}(R:B6 E w0 H w ρ){fn:Func}{T:List AV}{v:AV}{tmps:Array Value}(h:b1z P E H fn T=some v)(hT:m6 ρ T tmps.toList):
  ∃u,(results fn tmps).run P w= .ok u w∧rel ρ v u:=by
 unfold b1z at h
 simp only[Option.bind_eq_bind,Option.bind_eq_some_iff]at h
 obtain⟨r,hr,h⟩:=h
 obtain⟨vs,g1,g2⟩:=b8Q (P:=P) (w:=w) (ρ:=ρ) (g:=fun
  | .tmp t=>pure (tmps.getD t undef)
  | .cell a t=>do loadVar t (←asAddr (tmps.getD a undef))) (by
   intro x a hx
   cases x with
   |tmp t=>simp only at hx;cases hx;exact⟨_,rfl,b3u hT t⟩
   |cell a t=>
    simp only at hx
    split at hx
    ·rename_i o i ha
     have hr:=b3u hT a
     rw[ha]at hr
     simp only[rel]at hr
     obtain⟨b,d,hb,hv⟩:=hr
     obtain⟨b',d',u,k1,k2,k3⟩:=a3C (P:=P) R hx
     rw[hb]at k1;cases k1
     refine⟨u, ?_,k3⟩
     simp only[hv,asAddr,Sem.run_bind,Sem.run_pure,Result.andThen_ok,k2]
    ·cases hx) hr
 have hm:(fn.results.mapM (fun
  | .tmp t=>pure (tmps.getD t undef)
  | .cell a t=>do loadVar t (←asAddr (tmps.getD a undef)):ResultVar→Sem Value)).run P w= .ok ⟨vs⟩ w:=by
  rw[Array.mapM_eq_mapM_toList]
  simp only[Sem.run_map,g1,Result.andThen_ok]
 have hl:=u7 g2
 have hrun:(results fn tmps).run P w= .ok (if h:(⟨vs⟩:Array Value).size=1 then(⟨vs⟩:Array Value)[0]else .tuple ⟨vs⟩) w:=by
  unfold results
  rw[Sem.run_bind]
  erw [hm]
  rfl
 refine⟨_,hrun, ?_⟩
 split at h
 ·rename_i v'
  cases h
  obtain⟨x,rfl,hx⟩:=b9S g2
  simpa using hx
 ·rename_i hne
  cases h
  have:vs.length≠1:=by
   intro e
   rw[e]at hl
   obtain⟨x,rfl⟩:=List.length_eq_one_iff.1 hl
   exact hne x rfl
  rw[dif_neg (by simpa using this)]
  simp only[rel]
  exact⟨_,rfl,g2⟩
end
end
section
theorem b1K{ds:List o9}:∀(es:List Edge) (m r:Nat),a7I ds es m=some r→∀e∈es,Region.binds .any e=true→e.on<ds.length
 | [],m,r,h,e,he,_=>by cases he
 |x::es,m,r,h,e,he,hb=>by
  simp only[a7I]at h
  split at h
  ·rename_i hx
   split at h
   ·rename_i d hd
    rcases List.mem_cons.1 he with rfl|he
    ·exact(List.getElem?_eq_some_iff.1 hd).1
    ·exact b1K es _ _ h e he hb
   ·cases h
  ·rename_i hx
   rcases List.mem_cons.1 he with rfl|he
   ·exact(hx hb).elim
   ·exact b1K es _ _ h e he hb
theorem a8P{ds:List o9}{S:Nat→Prop}:∀(es:List Edge) (m r:Nat),a7I ds es m=some r→(∀j,m.testBit j=true→S j)→
  (∀e∈es,Region.binds .any e=true→S e.on∧∀d,ds[e.on]? =some d→∀j,d.anc.testBit j=true→S j)→∀j,r.testBit j=true→S j
 | [],m,r,h,hm,_=>by simp only[a7I]at h;cases h;exact hm
 |x::es,m,r,h,hm,he=>by
  simp only[a7I]at h
  split at h
  ·rename_i hx
   split at h
   ·rename_i d hd
    refine a8P es _ _ h ?_ fun e hm=>he e (List.mem_cons_of_mem _ hm)
    obtain⟨h1,h2⟩:=he x List.mem_cons_self hx
    intro j hj
    rw[Nat.testBit_or,Nat.testBit_or,Nat.testBit_two_pow,Bool.or_eq_true,Bool.or_eq_true,decide_eq_true_eq]at hj
    rcases hj with (hj|rfl)|hj
    ·exact hm j hj
    ·exact h1
    ·exact h2 d hd j hj
   ·cases h
  ·exact a8P es _ _ h hm fun e hm=>he e (List.mem_cons_of_mem _ hm)
section
variable{E:g8}{w0:World}{P:Program}{call:a9K}{ops:Array Oper}
def X1(L:Array Bool)(x:Nat):Bool:=L.getD x false
def c0n(ds:List o9)(L:Array Bool):Prop:=∀(i:Nat) (d:o9),ds[i]? =some d→X1 L i=true→∀j,d.anc.testBit j=true→X1 L j=true
theorem a2R.ready_anc{H:AHeap}{T0 T:List AV}{ds:List o9}{n:Nat}(G:a2R P E call ops H T0 ds T n){L:Array Bool}(hcl:c0n ds L){i:Nat}{d:o9}(hd:ds[i]? =some d)
  (ha:∀e∈d.o.after,Region.binds .any e=true→L.getD e.on false=true):∀j,d.anc.testBit j=true→X1 L j=true:=by
 refine a8P (S:=fun j=>X1 L j=true) _ _ _ (G.anc i d hd) (fun j hj=>by simp at hj) ?_
 intro e he hb
 have h1:X1 L e.on=true:=ha e (by simpa using he) hb
 refine⟨h1,fun d' hd' j hj=> ?_⟩
 rw[List.getElem?_take]at hd'
 split at hd'
 ·exact hcl _ _ hd' h1 j hj
 ·cases hd'
theorem a6H{L:Array Bool}{i:Nat}(h:i<L.size)(x:Nat):X1 (L.setIfInBounds i true) x=(x==i||X1 L x):=by
 unfold X1
 by_cases e:x=i
 ·subst e
  simp[h]
 ·have:(x==i)=false:=by simp[e]
  rw[this,Bool.false_or,getD_set_ne _ (Ne.symm e)]
end
end
section
section
variable{E:g8}{w0:World}{P:Program}{call:a9K}{ops:Array Oper}
def unl(n:Nat)(L:Array Bool):Nat:=(List.range n).countP fun x=> !X1 L x
theorem b3T{p q:Nat→Bool}{i:Nat}:∀(l:List Nat),(∀x∈l,q x=true→p x=true)→i∈l→p i=true→q i=false→l.countP q<l.countP p
 | [],_,h,_,_=>by cases h
 |x::l,h,hm,hp,hq=>by
  have hmono:l.countP q≤l.countP p:=List.countP_mono_left fun y hy=>h y (List.mem_cons_of_mem _ hy)
  by_cases hxi:x=i
  ·subst hxi
   rw[List.countP_cons_of_pos hp,List.countP_cons_of_neg (by rw[hq];exact Bool.false_ne_true)]
   omega
  ·have hm':i∈l:=by
    rcases List.mem_cons.1 hm with e|e
    ·exact(hxi e.symm).elim
    ·exact e
   have:=b3T l (fun y hy=>h y (List.mem_cons_of_mem _ hy)) hm' hp hq
   have hx:=h x List.mem_cons_self
   rw[List.countP_cons,List.countP_cons]
   cases hqx:q x
   ·simp;omega
   ·rw[hx hqx];simp;omega
theorem b9F{n i:Nat}{L:Array Bool}(hn:i<n)(hs:i<L.size)(h:X1 L i=false):unl n (L.setIfInBounds i true)<unl n L:=by
 refine b3T (i:=i) _ ?_ (List.mem_range.2 hn) (by rw[h];rfl) (by rw[a6H hs];simp)
 intro x _ hx
 rw[a6H hs]at hx
 simp only[Bool.not_eq_true',Bool.or_eq_false_iff]at hx
 rw[hx.2];rfl
theorem b7t{n:Nat}{L:Array Bool}(h:unl n L=0)(i:Nat)(hi:i<n):X1 L i=true:=by
 have:=List.countP_eq_zero.1 h i (List.mem_range.2 hi)
 simpa using this
theorem all_listed{M:AHeap}{T0 T:List AV}{ds:List o9}{n:Nat}(G:a2R P E call ops M T0 ds T n)(hlen:ds.length=ops.size){L:Array Bool}(hsz:L.size=ops.size)(h:Region.ready .any ops L=[]):∀(N j:Nat),j<N→j<ops.size→X1 L j=true
 |0,j,h,_=>by omega
 |N+1,j,hj,hjs=>by
  cases hb:X1 L j with
  |true=>rfl
  |false=>
   have hm:j∈Region.ready .any ops L:=by
    rw[mem_ready]
    refine⟨?_,ops[j],Array.getElem?_eq_getElem hjs,fun e he hbn=> ?_⟩
    ·unfold X1 at hb
     rw[Array.getD_eq_getD_getElem?]at hb ⊢
     rw[Array.getElem?_eq_getElem (by omega)]at hb ⊢
     exact hb
    ·have hd:ds[j]? =some (ds[j]'(by omega)):=List.getElem?_eq_getElem (by omega)
     have hop:=G.op j _ hd
     rw[Array.getElem?_eq_getElem hjs]at hop
     rw[Option.some.inj hop]at he
     have hon:=b1K _ _ _ (G.anc j _ hd) e (by simpa using he) hbn
     rw[List.length_take]at hon
     exact all_listed G hlen hsz h N e.on (by omega) (by omega)
   rw[h]at hm
   cases hm
end
end
section
open Go.ChangeShapes Go.WideShapes Go.ChangeAt Go.RowKit
def b4p(W w:World):Prop:=w.os=W.os∧w.output=W.output∧∀b,b<W.heap.size→w.heap[b]? =W.heap[b]?
theorem b4p.but{W w:World}(h:b4p W w)(may:MemPlace→Prop):W.keptBut w may:=by
 refine⟨h.1,h.2.1,fun i hi=> ?_⟩
 rw[h.2.2 i hi]
 cases e:W.heap[i]? with
 |none=>simp
 |some o=>cases o<;>simp
theorem b4p.frozen{W w:World}(h:b4p W w)(a:Addr)(ha:a.block<W.heap.size):w.frozen? a=W.frozen? a:=by
 unfold World.frozen?
 rw[h.2.2 a.block ha]
theorem Wf.empty:Wf AHeap.empty:=by
 refine⟨fun k _=> ?_,fun k o e=> ?_⟩
 ·simp[AHeap.empty,AHeap.get,Trie.get]
 ·simp[AHeap.empty,AHeap.get,Trie.get]at e
theorem B6.start(E:g8)(W:World)(hE:∀b cs,E b=some cs→b<W.heap.size∧∃arr el fr,W.heap[b]? =some (.cells arr el fr)∧m6 (fun _=>none) cs arr.toList):B6 E W AHeap.empty W (fun _=>none):=by
 have hg:∀k o,AHeap.empty.get k=some o→False:=fun k o e=>by simp[AHeap.empty,AHeap.get,Trie.get]at e
 exact⟨Nat.le_refl _,fun _ _=>rfl,hE,⟨rfl,rfl⟩,fun k o e=>(hg k o e).elim,fun k _ o _ _ _ e=>(hg k o e).elim,fun k o e=>(hg k o e).elim,fun k _ o _ _ _ e=>(hg k o e).elim⟩
variable{P:Program}{H:Type}{enc:TypeId×Value→H}
theorem b9T{f:Func}{s:ChangeSpec}{apart fresh handsOn again:Bool}{W W':World}{args:Array Value}{v:Value}{ds gs:List (DataW H)}{before pa pv:List MemPlace}
  (hW:DataW.Whole enc P f.params.toList s.vars apart W args.toList ds gs before)
  (hres:∀(b:Nat) (sp:Nat→Bool) (hd:Bool),DataW.TrodAll enc P W' b sp hd f.resultTypes.toList (v.resultList f.resultTypes.size) (s.fn H (ds++gs)).results [])
  (hargs:∀sp:Nat→Bool,(∀p∈before,sp p.block=true)→DataW.TrodAll enc P W' 0 sp true f.params.toList args.toList (s.fn H (ds++gs)).args pa)
  (hvars:∀sp:Nat→Bool,(∀p∈before,sp p.block=true)→DataW.TrodVars enc P W' sp s.vars (s.fn H (ds++gs)).vars pv)
  (hps:before=pa++pv) (hk:b4p W W')
  (hok:∀(j:Nat) (t:TypeId) (r:Value),f.resultTypes[j]? =some t→(v.resultList f.resultTypes.size)[j]? =some r→Value.okWide P W' .any 0 t r):
  s.post enc P f apart fresh handsOn again W args v W':=by
 have hlt:∀p∈before,p.block<W.heap.size:=fun p hp=>hW.lt p hp
 have hold:∀p∈before,(fun b=>decide (b<W.heap.size)) p.block=true:=fun p hp=>by simpa using hlt p hp
 subst hps
 have hW0:=hW
 obtain⟨_,_,_,_,_,hz,hn⟩:=hW0
 refine⟨ds,gs,pa++pv,[],pa,pv,hW,hres _ _ _,hargs _ hold,hvars _ hold,hk.but _,fun _=>⟨hok,_,_,([]++pa)++pv,⟨[]++pa,pv,trodAll_append (hargs _ fun _ _=>rfl) (hres _ _ _),hvars _ fun _ _=>rfl,rfl, ?_, ?_⟩, ?_⟩⟩
 ·intro b off hp
  have hp':MemPlace.cell b off∈pa++pv:=by simpa using hp
  rw[hk.frozen _ (hlt _ hp')]
  exact hz b off hp'
 ·intro ha
  simpa using hn ha
 ·intro p hp _
  simpa using hp
end
section
section
variable{E:g8}{w0:World}{H:AHeap}{w:World}{ρ:u5}{P:Program}
theorem B6.newIter(R:B6 E w0 H w ρ)(hk:ρ H.next=none){m since last:Nat}{seen:List Nat}{lm:Loc}(hm:ρ m=some lm):
  B6 E w0 (H.new (.iter m since seen last)) { w with heap:=w.heap.push (.mapIter (some lm.blk) since seen.toArray last) } (upd ρ H.next ⟨w.heap.size,0,0⟩):=by
 have hx:=a0E (ρ:=ρ) ⟨w.heap.size,0,0⟩ hk
 have hg:∀k o,(H.new (.iter m since seen last)).get k=some o→(k=H.next∧o= .iter m since seen last)∨(k≠H.next∧H.get k=some o):=by
  intro k o e
  rw[AHeap.get_new]at e
  split at e
  ·rename_i h;cases e;exact .inl ⟨h.symm,rfl⟩
  ·rename_i h;exact .inr ⟨fun h'=>h h'.symm,e⟩
 have hpush:∀b,b<w.heap.size→(w.heap.push (.mapIter (some lm.blk) since seen.toArray last))[b]? =w.heap[b]? :=by
  intro b hb;rw[Array.getElem?_push];split
  ·omega
  ·rfl
 have hlt:∀k o l,H.get k=some o→ρ k=some l→l.blk<w.heap.size:=by
  intro k o l h1 h2
  obtain⟨m,hm,_,ho⟩:=R.objs k o h1
  rw[h2]at hm;cases hm
  exact W3 ho
 refine⟨by have:=R.size;simp;omega, ?_,R.env,R.side, ?_, ?_, ?_, ?_⟩
 ·intro b hb;rw[hpush b (by have:=R.size;omega)];exact R.old b hb
 ·intro k o e
  rcases hg k o e with ⟨rfl,rfl⟩|⟨h1,h2⟩
  ·exact⟨_,A8 _ _,R.size,rfl,lm,hx _ _ hm,by simp⟩
  ·obtain⟨l,hl,hs,ho⟩:=R.objs k o h2
   exact⟨l,by rw[t6 _ h1];exact hl,hs,a5t hx (G6 ho (hpush _ (W3 ho)))⟩
 ·intro k k' o o' l l' h1 h2 h3 h4 h5 h6
  rcases hg k o h1 with ⟨rfl,rfl⟩|⟨g1,g2⟩<;>rcases hg k' o' h2 with ⟨rfl,rfl⟩|⟨g1',g2'⟩
  ·exact absurd rfl h5
  ·rw[A8]at h3;cases h3;rw[t6 _ g1']at h4
   have:=hlt _ _ _ g2' h4;simp only at h6;omega
  ·rw[A8]at h4;cases h4;rw[t6 _ g1]at h3
   have:=hlt _ _ _ g2 h3;simp only at h6;omega
  ·rw[t6 _ g1]at h3;rw[t6 _ g1']at h4
   exact R.apart k k' o o' l l' g2 g2' h3 h4 h5 h6
 ·intro k o e p hpp
  rcases hg k o e with ⟨rfl,rfl⟩|⟨h1,h2⟩
  ·simp[s9]at hpp
  ·obtain⟨a,b⟩:=R.pres k o h2 p hpp
   obtain⟨m,hm⟩:=Option.isSome_iff_exists.1 b
   exact⟨a,by rw[hx _ _ hm];rfl⟩
 ·intro k p o op l lp h1 h2 h3 h4 h5
  rcases hg k o h1 with ⟨rfl,rfl⟩|⟨g1,g2⟩
  ·simp[s9]at h2
  ·rcases hg p op h3 with ⟨rfl,_⟩|⟨g1',g2'⟩
   ·have:=(R.pres k o g2 _ h2).2
    rw[hk]at this;cases this
   ·rw[t6 _ g1]at h4;rw[t6 _ g1']at h5
    exact R.kin k p o op l lp g2 h2 g2' h4 h5
theorem B6.setIter(R:B6 E w0 H w ρ){k m since last since' last':Nat}{seen seen':List Nat}{l lm:Loc}(hk:H.get k=some (.iter m since seen last))(hl:ρ k=some l)(hm:ρ m=some lm):
  B6 E w0 (H.set k (.iter m since' seen' last')) (u6 w l.blk (.mapIter (some lm.blk) since' seen'.toArray last')) ρ:=by
 obtain⟨l',hl',hbase,hd0,lm',hm',hb⟩:=R.objs k _ hk
 rw[hl]at hl';cases hl'
 rw[hm]at hm';cases hm'
 have hblk:=(Array.getElem?_eq_some_iff.1 hb).1
 have hg:∀j o,(H.set k (.iter m since' seen' last')).get j=some o→(j=k∧o= .iter m since' seen' last')∨(j≠k∧H.get j=some o):=by
  intro j o e
  rw[AHeap.get_set]at e
  split at e
  ·rename_i h;cases e;exact .inl ⟨h.symm,rfl⟩
  ·rename_i h;exact .inr ⟨fun h'=>h h'.symm,e⟩
 have hoth:∀j o lj,j≠k→H.get j=some o→ρ j=some lj→lj.blk≠l.blk:=fun j o lj h1 h3 h4 h5=>by
  have:=R.alone hk rfl hl h3 h4 h1 h5
  simp[s9]at this
 refine⟨by rw[a0n];exact R.size, ?_,R.env,R.side, ?_, ?_, ?_, ?_⟩
 ·intro b hbb;rw[r8 _ _ _ hblk,if_neg (by omega)];exact R.old b hbb
 ·intro j o e
  rcases hg j o e with ⟨rfl,rfl⟩|⟨h1,h3⟩
  ·exact⟨l,hl,hbase,hd0,lm,hm,by rw[r8 _ _ _ hblk,if_pos rfl]⟩
  ·obtain⟨lj,hlj,hsj,hoj⟩:=R.objs j o h3
   exact⟨lj,hlj,hsj,G6 hoj (by rw[r8 _ _ _ hblk,if_neg (fun e=>hoth j o lj h1 h3 hlj e.symm)])⟩
 ·intro i j oi oj li lj h1 h2 h3 h4 h5 h6
  rcases hg i oi h1 with ⟨rfl,rfl⟩|⟨g1,g3⟩<;>rcases hg j oj h2 with ⟨rfl,rfl⟩|⟨g1',g3'⟩
  ·exact absurd rfl h5
  ·rw[hl]at h3;cases h3;exact absurd h6.symm (hoth j oj lj g1' g3' h4)
  ·rw[hl]at h4;cases h4;exact absurd h6 (hoth i oi li g1 g3 h3)
  ·exact R.apart i j oi oj li lj g3 g3' h3 h4 h5 h6
 ·intro j o e p hp
  rcases hg j o e with ⟨rfl,rfl⟩|⟨_,h3⟩
  ·simp[s9]at hp
  ·exact R.pres j o h3 p hp
 ·intro j p o op lj lp h1 h2 h3 h4 h5
  rcases hg j o h1 with ⟨rfl,rfl⟩|⟨g1,g3⟩
  ·simp[s9]at h2
  ·rcases hg p op h3 with ⟨rfl,rfl⟩|⟨g1',g3'⟩
   ·have:=(R.kin j p o _ lj lp g3 h2 hk h4 h5).1
    simp[a7T]at this
   ·exact R.kin j p o op lj lp g3 h2 g3' h4 h5
theorem B6.like(R:B6 E w0 H w ρ){w':World}(h:w'.heap=w.heap∧w'.os=w.os∧w'.output=w.output):B6 E w0 H w' ρ:=by
 obtain⟨e1,e2,e3⟩:=h
 refine⟨by rw[e1];exact R.size,by rw[e1];exact R.old,R.env,by rw[e2,e3];exact R.side,fun k o hk=> ?_,R.apart,R.pres,R.kin⟩
 obtain⟨l,h1,h2,h3⟩:=R.objs k o hk
 exact⟨l,h1,h2,G6 h3 (by rw[e1])⟩
theorem b6O{t:TypeId}{k e:TypeId}{bm:Nat}{es:Array MapEntry}{clock:Nat}(ht:P.underlying t=some (.map k e))(hb:w.heap[bm]? =some (.map es clock)):
  (Instr.range t (.map (some bm))).run P w= .ok (.pointer (some ⟨w.heap.size,0,none⟩)) { w with heap:=w.heap.push (.mapIter (some bm) clock #[] clock) }:=by
 simp only[Instr.range,Sem.run_bind,b7 ht,Result.andThen_ok,P6 hb,Sem.run_pure,newObj]
 rfl
theorem b8i{r bm since c0:Nat}{seen:Array Nat}{es:Array MapEntry}{clock:Nat}{ty:TypeId}(hr:w.heap[r]? =some (.mapIter (some bm) since seen c0))(hb:w.heap[bm]? =some (.map es clock))(hold:∀x∈es.toList,x.born<since)(ht:(!seen.isEmpty&& !es.isEmpty&&es.all fun x=>decide (x.born≥c0))=false):
  ((∀x∈es.toList,x.born∈seen.toList)∧(Instr.next (.pointer (some ⟨r,0,none⟩)) false ty).run P w= .ok (.tuple #[.bool false]) w)∨
  ∃e∈es.toList,e.born ∉ seen.toList∧∃w1:World,(w1.heap=w.heap∧w1.os=w.os∧w1.output=w.output)∧(Instr.next (.pointer (some ⟨r,0,none⟩)) false ty).run P w= .ok (.tuple #[.bool true,e.key,e.val]) (u6 w1 r (.mapIter (some bm) since (seen.push e.born) clock)):=by
 simp only[Instr.next,getObj,Sem.run_bind,Sem.run,hr,hb,Result.andThen,ht,Bool.false_eq_true,if_false]
 have hmem:∀x∈(Array.filter (fun e=> !seen.contains e.born) es).toList,x.born<since∧x∈es.toList∧x.born ∉ seen.toList:=fun x hx=>by
  simp at hx
  exact⟨hold x (by simpa using hx.1),by simpa using hx.1,by simpa using hx.2⟩
 have hall:∀x∈es.toList,x.born ∉ seen.toList→x∈(Array.filter (fun e=> !seen.contains e.born) es).toList:=fun x h1 h2=>by
  simp
  exact⟨by simpa using h1,by simpa using h2⟩
 generalize Array.filter (fun e=> !seen.contains e.born) es=L at hmem hall ⊢
 have e1:L.filter (fun x=>decide (x.born<since))=L:=Array.filter_eq_self.2 (fun x hx=>by simpa using(hmem x (by simpa using hx)).1)
 have e2:L.filter (fun x=>decide (x.born≥since))= #[]:=by
  rw[Array.filter_eq_empty_iff]
  intro x hx
  have:=(hmem x (by simpa using hx)).1
  simp
  omega
 simp only[e1,e2,Array.append_empty]
 by_cases h0:L.size=0
 ·left
  have:L= #[]:=Array.eq_empty_of_size_eq_zero h0
  subst this
  refine⟨fun x hx=> ?_, ?_⟩
  ·by_cases h:x.born∈seen.toList
   ·exact h
   ·exact absurd (hall x hx h) (by simp)
  ·simp[choose,Sem.run,Question.forced]
 ·right
  have hne:L.isEmpty=false:=by simp[Array.isEmpty,h0]
  simp only[hne,Bool.false_eq_true,if_false,Array.empty_append,Array.size_map]
  have hch:∃(j:Nat) (w1:World),j<L.size∧(w1.heap=w.heap∧w1.os=w.os∧w1.output=w.output)∧(choose (Question.mapNext L.size)).run P w= .ok j w1:=by
   by_cases hf:L.size≤1
   ·exact⟨0,w,by omega,⟨rfl,rfl,rfl⟩,by simp[choose,Sem.run,Question.forced,hf]⟩
   ·refine⟨_, { w with drawn:=w.drawn+1 },Nat.mod_lt (w.tape w.drawn (Question.mapNext L.size)) (by omega),⟨rfl,rfl,rfl⟩, ?_⟩
    simp only[choose,Sem.run,Question.forced,decide_eq_true_eq,hf,if_false,Question.cut]
  obtain⟨j,w1,hj,hal,hrun⟩:=hch
  have hm:=hmem L[j] (by simp)
  refine⟨L[j],hm.2.1,hm.2.2,w1,hal, ?_⟩
  have hr1:w1.heap[r]? =some (.mapIter (some bm) since seen c0):=by rw[hal.1];exact hr
  have hset:∀o',(setObj r o').run P w1= .ok () (u6 w1 r o'):=fun o'=>by simp[setObj,Sem.run,hr1,u6]
  simp only[hrun,Array.getElem?_map,Array.getElem?_eq_getElem hj,Option.map_some,Sem.run_bind,hset,Result.andThen]
  rfl
theorem b9i(e:MapEntry):∀(l:List MapEntry),(l.map (·.born)).Nodup→e∈l→l.find? (·.born==e.born)=some e
 | [],_,h=>by cases h
 |x::l,hn,h=>by
  simp only[List.map_cons,List.nodup_cons]at hn
  rcases List.mem_cons.1 h with rfl|h
  ·simp
  ·have:x.born≠e.born:=fun h'=>hn.1 (by rw[h'];exact List.mem_map.2 ⟨e,h,rfl⟩)
   rw[List.find?_cons_of_neg (by simpa using this)]
   exact b9i e l hn.2 h
theorem b5U{r bm since:Nat}{seen:Array Nat}{es:Array MapEntry}{clock:Nat}{e:MapEntry}(hr:w.heap[r]? =some (.mapIter (some bm) since seen clock))(hs:seen.back? =some e.born)(hb:w.heap[bm]? =some (.map es clock))(he:e∈es.toList)(hn:(es.toList.map (·.born)).Nodup):
  (Instr.entry (.pointer (some ⟨r,0,none⟩))).run P w= .ok (.tuple #[e.key,e.val]) w:=by
 have hf:es.find? (·.born==e.born)=some e:=by rw[←Array.find?_toList];exact b9i e es.toList hn he
 simp only[Instr.entry,getObj,Sem.run_bind,Sem.run,hr,hb,Result.andThen,hs,bne_self_eq_false,Bool.false_eq_true,if_false,hf]
 rfl
end
end
end Go.Am
end
