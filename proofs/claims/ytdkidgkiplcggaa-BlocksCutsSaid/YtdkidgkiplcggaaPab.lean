/-
  BlocksCutsSaid: part Pab of its proof.
-/
import Derived.Test.YtdkidgkiplcggaaPaa
import Derived.Laws.Sem
import Derived.Laws.Cells
import GoSem.Dispatch
import Derived.Laws.StructEq
import Derived.Lib.SlicesS
set_option linter.unusedVariables false
set_option linter.unusedSimpArgs false
set_option maxRecDepth 100000
section
namespace Go.Am
section
def a7T:G3→Bool
 | .cells _ wr _=>wr
 | .map _ _=>true
 | .iter .. =>true
def a1k:G3→Nat
 | .cells cs _ _=>cs.length
 | .map _ _=>0
 | .iter .. =>0
def a0d(ρ:u5):List (AV×AV×Nat)→List MapEntry→Prop
 | [],l=>l=[]
 |(k,v,n)::es,l=>∃e r,l=e::r∧rel ρ k e.key∧rel ρ v e.val∧e.born=n∧a0d ρ es r
def b7h(ρ:u5)(w:World)(l:Loc):G3→Prop
 | .cells cs wr _=>∃arr el lo hi,w.heap[l.blk]? =some (.cells arr el (lo,hi))∧arr.size=l.n∧l.d+cs.length≤l.n∧
   m6 ρ cs ((arr.toList.drop l.d).take cs.length)∧(wr=true→lo=hi∨l.n≤lo)
 | .map es clock=>∃mes,w.heap[l.blk]? =some (.map mes clock)∧a0d ρ es mes.toList
 | .iter m since seen last=>l.d=0∧∃lm,ρ m=some lm∧w.heap[l.blk]? =some (.mapIter (some lm.blk) since seen.toArray last)
structure B6 (E:g8) (w0:World) (H:AHeap) (w:World) (ρ:u5):Prop where
 size:w0.heap.size≤w.heap.size
 old:∀b,b<w0.heap.size→w.heap[b]? =w0.heap[b]?
 env:∀b cs,E b=some cs→b<w0.heap.size∧∃arr el fr,w0.heap[b]? =some (.cells arr el fr)∧m6 (fun _=>none) cs arr.toList
 side:w.os=w0.os∧w.output=w0.output
 objs:∀k o,H.get k=some o→∃l,ρ k=some l∧w0.heap.size≤l.blk∧b7h ρ w l o
 apart:∀k k' o o' l l',H.get k=some o→H.get k'=some o'→ρ k=some l→ρ k'=some l'→k≠k'→l.blk=l'.blk→k∈s9 o'∨k'∈s9 o
 pres:∀k o,H.get k=some o→∀p∈s9 o,p≠k∧(ρ p).isSome
 kin:∀k p o op l lp,H.get k=some o→p∈s9 o→H.get p=some op→ρ k=some l→ρ p=some lp→a7T op=false∧(lp.blk=l.blk→lp.d+a1k op≤l.d+a1k o)
def u6(w:World)(b:Nat)(o:Obj):World:= { w with heap:=w.heap.setIfInBounds b o }
section
variable{E:g8}{w0:World}{H:AHeap}{w:World}{ρ ρ':u5}
theorem c2S(h:Ext ρ ρ'):∀ {es:List (AV×AV×Nat)} {l:List MapEntry},a0d ρ es l→a0d ρ' es l
 | [],_,r=>r
 |(_,_,_)::_,_,⟨e,r,h1,h2,h3,h4,h5⟩=>⟨e,r,h1,b5h h _ _ h2,b5h h _ _ h3,h4,c2S h h5⟩
theorem a5t(h:Ext ρ ρ'){l:Loc}{o:G3}{w:World}(r:b7h ρ w l o):b7h ρ' w l o:=by
 cases o with
 |cells cs wr pre=>obtain⟨arr,el,lo,hi,h1,h2,h3,h4,h5⟩:=r;exact⟨arr,el,lo,hi,h1,h2,h3,H5 h _ _ h4,h5⟩
 |map es clock=>obtain⟨mes,h1,h2⟩:=r;exact⟨mes,h1,c2S h h2⟩
 |iter m since seen last=>obtain⟨h0,lm,h1,h2⟩:=r;exact⟨h0,lm,h _ _ h1,h2⟩
theorem G6{l:Loc}{o:G3}{w w':World}(r:b7h ρ w l o)(e:w'.heap[l.blk]? =w.heap[l.blk]?):b7h ρ w' l o:=by
 cases o<;>simp only[b7h]at r ⊢ <;>rw[e]<;>exact r
theorem W3{l:Loc}{o:G3}{w:World}(r:b7h ρ w l o):l.blk<w.heap.size:=by
 cases o with
 |cells cs wr pre=>obtain⟨arr,el,lo,hi,h1,_⟩:=r;exact(Array.getElem?_eq_some_iff.1 h1).1
 |map es clock=>obtain⟨mes,h1,_⟩:=r;exact(Array.getElem?_eq_some_iff.1 h1).1
 |iter m since seen last=>obtain⟨_,_,_,h1⟩:=r;exact(Array.getElem?_eq_some_iff.1 h1).1
theorem B6.cells(R:B6 E w0 H w ρ){o:Id}{cs:List AV}(h:cellsOf E H o=some cs):
  ∃b d arr el fr,E4 ρ o=some (b,d)∧w.heap[b]? =some (.cells arr el fr)∧d+cs.length≤arr.size∧m6 ρ cs ((arr.toList.drop d).take cs.length):=by
 cases o with
 |old b=>
  obtain⟨hb,arr,el,fr,h1,h2⟩:=R.env b cs h
  have hl:=u7 h2
  refine⟨b,0,arr,el,fr,rfl,by rw[R.old b hb,h1],by simp[hl], ?_⟩
  simp only[List.drop_zero]
  rw[List.take_of_length_le (by omega)]
  exact H5 (fun _ _ e=>by cases e) _ _ h2
 |new k=>
  simp only[cellsOf]at h
  split at h
  ·rename_i cs' wr pre hk
   cases h
   obtain⟨l,hl,_,arr,el,lo,hi,h1,h2,h3,h4,_⟩:=R.objs k _ hk
   exact⟨l.blk,l.d,arr,el,(lo,hi),by simp[E4,hl],h1,by omega,h4⟩
  ·cases h
theorem Addr.add_plain(b o n:Nat):(⟨b,o,none⟩:Addr).add n=⟨b,o+n,none⟩:=by unfold Addr.add;split<;>simp_all
theorem a4n{b i:Nat}{arr:Array Value}{el:TypeId}{fr:Nat×Nat}(h:w.heap[b]? =some (.cells arr el fr)):
  w.cell? ⟨b,i,none⟩=arr[i]? :=by simp[World.cell?,h]
theorem a9M{b i:Nat}{arr:Array Value}{el:TypeId}{lo hi:Nat}(h:w.heap[b]? =some (.cells arr el (lo,hi))):
  w.frozen? ⟨b,i,none⟩=(decide (lo≤i)&&decide (i<hi)):=by simp[World.frozen?,h]
theorem b8b{b i:Nat}{v:Value}{arr:Array Value}{el:TypeId}{fr:Nat×Nat}(h:w.heap[b]? =some (.cells arr el fr)):
  w.setCell ⟨b,i,none⟩ v=u6 w b (.cells (arr.setIfInBounds i v) el fr):=by
 obtain⟨hb,hv⟩:=Array.getElem?_eq_some_iff.1 h
 cases w with
 |mk heap tape drawn os output=>
  simp only[World.setCell,u6,World.mk.injEq,and_true]
  apply Array.ext_getElem?
  intro j
  simp only[Array.getElem?_modify,Array.getElem?_setIfInBounds]
  split
  ·rename_i e;subst e
   simp only at hb h
   rw[h];rfl
  ·rfl
theorem r8(b j:Nat)(o:Obj)(hb:b<w.heap.size):(u6 w b o).heap[j]? =if b=j then some o else w.heap[j]? :=by
 simp only[u6,Array.getElem?_setIfInBounds,hb,if_true]
theorem a0n(b:Nat)(o:Obj):(u6 w b o).heap.size=w.heap.size:=by simp[u6]
theorem b1w(b:Nat)(o o':Obj):u6 (u6 w b o) b o'=u6 w b o':=by
 cases w;simp[u6]
theorem b1a{α:Type}(l:List α)(d i n:Nat)(h:i<n):((l.drop d).take n)[i]? =l[d+i]? :=by
 rw[List.getElem?_take,if_pos h,List.getElem?_drop]
theorem B6.load(R:B6 E w0 H w ρ){o:Id}{i:Nat}{a:AV}(h:a3c E H o i=some a):
  ∃b d v,E4 ρ o=some (b,d)∧w.cell? ⟨b,d+i,none⟩=some v∧rel ρ a v:=by
 unfold a3c at h
 split at h
 ·rename_i cs hc
  obtain⟨b,d,arr,el,fr,h1,h2,h3,h4⟩:=R.cells hc
  obtain⟨v,hv,hr⟩:=a2k h4 i h
  have hi:i<cs.length:=(List.getElem?_eq_some_iff.1 h).1
  rw[b1a _ _ _ _ hi]at hv
  exact⟨b,d,v,h1,by rw[a4n h2];simpa using hv,hr⟩
 ·cases h
theorem B6.loads(R:B6 E w0 H w ρ){P:Program}{o:Id}{i n:Nat}{as:List AV}(h:B5 E H o i n=some as):
  ∃b d vs,E4 ρ o=some (b,d)∧(∀w',w'.heap=w.heap→(loadCells ⟨b,d+i,none⟩ n).run P w'= .ok ⟨vs⟩ w')∧m6 ρ as vs∧as.length=n:=by
 unfold B5 at h
 split at h
 ·rename_i cs hc
  split at h
  ·rename_i hn
   cases h
   obtain⟨b,d,arr,el,fr,h1,h2,h3,h4⟩:=R.cells hc
   have hl:=u7 h4
   refine⟨b,d,(arr.toList.drop (d+i)).take n,h1,fun w' hw=> ?_, ?_,by simp;omega⟩
   ·have h2:w'.heap[b]? =some (.cells arr el fr):=by rw[hw];exact h2
    have hlen:((arr.toList.drop (d+i)).take n).length=n:=by simp;omega
    have:=run_loadCells_list (P:=P) w' ⟨b,d+i,none⟩ ((arr.toList.drop (d+i)).take n) (fun j v hj=>by
     have hjn:j<n:=by have:=(List.getElem?_eq_some_iff.1 hj).1;omega
     rw[Addr.add_plain,a4n h2]
     rw[b1a _ _ _ _ hjn]at hj
     simpa using hj)
    rw[hlen]at this
    rw[this]
   ·have:=a5R (b2O h4 i) n
    rw[List.drop_take,List.drop_drop,List.take_take,Nat.min_eq_left (by omega)]at this
    exact this
  ·cases h
 ·cases h
def C2:Array Value→Nat→List Value→Array Value
 |a,_,[]=>a
 |a,i,v::vs=>C2 (a.setIfInBounds i v) (i+1) vs
theorem I4:∀(vs:List Value) (a:Array Value) (i:Nat),(C2 a i vs).size=a.size
 | [],_,_=>rfl
 |v::vs,a,i=>by rw[C2,I4 vs];simp
theorem Y0:∀(vs cs:List AV) (i:Nat),(z7 cs i vs).length=cs.length
 | [],_,_=>rfl
 |v::vs,cs,i=>by rw[z7,Y0 vs];simp
theorem a7z{a:AV}{v:Value}(h:rel ρ a v)(hs:m9 a=true):v.oneCell'=true:=by
 have:=c3A h hs
 cases v<;>simp_all [Value.oneCell']
theorem X0{P:Program}(b off:Nat)(el:TypeId)(lo hi:Nat):∀(vs:List Value) (i:Nat) (w:World) (arr:Array Value),
  w.heap[b]? =some (.cells arr el (lo,hi))→off+i+vs.length≤arr.size→(lo=hi∨arr.size≤lo)→(∀v∈vs,v.oneCell'=true)→
  (storeCells ⟨b,off,none⟩ vs i).run P w= .ok () (u6 w b (.cells (C2 arr (off+i) vs) el (lo,hi)))
 | [],i,w,arr,h,_,_,_=>by
  simp only[storeCells,Sem.run_pure,C2]
  congr 1
  obtain⟨hb,hv⟩:=Array.getElem?_eq_some_iff.1 h
  cases w with
  |mk heap tape drawn os output=>
   simp only[u6,World.mk.injEq,and_true]
   apply Array.ext_getElem?
   intro j
   simp only[Array.getElem?_setIfInBounds]
   split
   ·rename_i e;subst e
    simp only at hb h
    rw[h]
   ·rfl
 |v::vs,i,w,arr,h,hn,hf,hv=>by
  have hb:=(Array.getElem?_eq_some_iff.1 h).1
  simp only[List.length_cons]at hn
  have hc:w.cell? ⟨b,off+i,none⟩=some (arr[off+i]'(by omega)):=by rw[a4n h];simp
  have hfz:w.frozen? ⟨b,off+i,none⟩=false:=by
   rw[a9M h]
   rcases hf with e|e
   ·subst e;simp only[Bool.and_eq_false_iff,decide_eq_false_iff_not];omega
   ·simp only[Bool.and_eq_false_iff,decide_eq_false_iff_not];omega
  have hst:(store ((⟨b,off,none⟩:Addr).add i) v).run P w= .ok () (u6 w b (.cells (arr.setIfInBounds (off+i) v) el (lo,hi))):=by
   rw[Addr.add_plain,run_store P w _ v _ (hv v (by simp)),hc]
   simp only[hfz,b8b h]
   rfl
  rw[storeCells]
  simp only[Sem.run_bind,hst,Result.andThen_ok]
  rw[X0 b off el lo hi vs (i+1) _ (arr.setIfInBounds (off+i) v) (by rw[r8 _ _ _ hb];simp) (by simp;omega) (by simpa using hf) (fun u hu=>hv u (by simp[hu])),b1w]
  rfl
theorem a2Q:∀ {as:List AV} {vs:List Value} {cs:List AV} {arr:Array Value} {d:Nat} (i:Nat),m6 ρ as vs→i+as.length≤cs.length→
  m6 ρ cs ((arr.toList.drop d).take cs.length)→m6 ρ (z7 cs i as) (((C2 arr (d+i) vs).toList.drop d).take cs.length)
 | [],vs,cs,arr,d,i,h,_,hc=>by rw[m7]at h;subst h;exact hc
 |a::as,[],_,_,_,_,h,_,_=>(t7 h).elim
 |a::as,v::vs,cs,arr,d,i,h,hn,hc=>by
  rw[j3]at h
  simp only[List.length_cons]at hn
  have h1:m6 ρ (cs.set i a) (((arr.setIfInBounds (d+i) v).toList.drop d).take (cs.set i a).length):=by
   have:=c1I hc i h.1
   rw[List.length_set,Array.toList_setIfInBounds,List.drop_set,if_neg (by omega),List.take_set,show d+i - d=i by omega]
   exact this
  have:=a2Q (d:=d) (i+1) h.2 (by simp;omega) h1
  rw[List.length_set]at this
  exact this
def upd(ρ:u5)(k:Nat)(l:Loc):u5:=fun j=>if j=k then some l else ρ j
theorem A8(k:Nat)(l:Loc):upd ρ k l k=some l:=by simp[upd]
theorem t6{k j:Nat}(l:Loc)(h:j≠k):upd ρ k l j=ρ j:=by simp[upd,h]
theorem a0E{k:Nat}(l:Loc)(h:ρ k=none):Ext ρ (upd ρ k l):=by
 intro j m e
 rw[t6]
 ·exact e
 ·rintro rfl;rw[h]at e;cases e
theorem B6.heap_eq(R:B6 E w0 H w ρ){w':World}(h:w'.heap=w.heap)(h2:w'.os=w.os∧w'.output=w.output:=by exact⟨rfl,rfl⟩):B6 E w0 H w' ρ where
 size:=by rw[h];exact R.size
 old:=by rw[h];exact R.old
 env:=R.env
 side:=⟨h2.1.trans R.side.1,h2.2.trans R.side.2⟩
 objs k o e:=let ⟨l,h1,h2,h3⟩:=R.objs k o e;⟨l,h1,h2,G6 h3 (by rw[h])⟩
 apart:=R.apart
 pres:=R.pres
 kin:=R.kin
theorem B6.log_eq(R:B6 E w0 H w ρ){H':AHeap}(h:H'.objs=H.objs):B6 E w0 H' w ρ:=by
 have e:∀k,H'.get k=H.get k:=fun k=>by simp[AHeap.get,h]
 exact⟨R.size,R.old,R.env,R.side,fun k o hk=>R.objs k o (by rw[←e];exact hk),fun k k' o o' l l' h1 h2=>R.apart k k' o o' l l' (by rw[←e];exact h1) (by rw[←e];exact h2),
  fun k o hk=>R.pres k o (by rw[←e];exact hk),fun k p o op l lp h1 h2 h3=>R.kin k p o op l lp (by rw[←e];exact h1) h2 (by rw[←e];exact h3)⟩
theorem B6.get_none(R:B6 E w0 H w ρ){k:Nat}(h:ρ k=none):H.get k=none:=by
 cases e:H.get k with
 |none=>rfl
 |some o=>obtain⟨l,hl,_⟩:=R.objs k o e;rw[h]at hl;cases hl
theorem B6.less(R:B6 E w0 H w ρ){H':AHeap}(h:∀k o,H'.get k=some o→∃o',H.get k=some o'∧(o'=o∨
   ∃cs wr pre m pre',o'= .cells cs wr pre∧o= .cells (cs.take m) false pre'∧(pre'=pre∧cs.length≤m∨pre'=[]∧∀p∈pre,H'.get p=none)))
  :B6 E w0 H' w ρ:=by
 have inv:∀k o,H'.get k=some o→∃o',H.get k=some o'∧a1k o≤a1k o'∧(a7T o=true→a7T o'=true)∧(∀p∈s9 o,p∈s9 o')∧
   ((∀p∈s9 o',p∈s9 o)∧a1k o=a1k o'∨s9 o=[]∧∀p∈s9 o',H'.get p=none):=by
  intro k o hk
  obtain⟨o',h1,h2⟩:=h k o hk
  refine⟨o',h1, ?_⟩
  rcases h2 with rfl|⟨cs,wr,pre,m,pre',rfl,rfl,h3⟩
  ·exact⟨Nat.le_refl _,id,fun _ h=>h, .inl ⟨fun _ h=>h,rfl⟩⟩
  ·rcases h3 with ⟨rfl,hm⟩|⟨rfl,hp⟩
   ·refine⟨by simp[a1k];omega,by simp[a7T],fun _ h=>h, .inl ⟨fun _ h=>h,by simp[a1k];omega⟩⟩
   ·exact⟨by simp[a1k];omega,by simp[a7T],by simp[s9], .inr ⟨rfl,hp⟩⟩
 refine⟨R.size,R.old,R.env,R.side, ?_, ?_, ?_, ?_⟩
 ·intro k o hk
  obtain⟨o',h1,h2⟩:=h k o hk
  obtain⟨l,hl,hs,ho⟩:=R.objs k o' h1
  refine⟨l,hl,hs, ?_⟩
  rcases h2 with rfl|⟨cs,wr,pre,m,pre',rfl,rfl,_⟩
  ·exact ho
  ·obtain⟨arr,el,lo,hi,g1,g2,g3,g4,_⟩:=ho
   refine⟨arr,el,lo,hi,g1,g2,by simp;omega, ?_,by simp⟩
   have:=a5R g4 m
   rw[List.take_take]at this
   rwa [List.length_take]
 ·intro k k' o o' l l' h1 h2 h3 h4 h5 h6
  obtain⟨p,hp,_,_,_,hp4⟩:=inv k o h1
  obtain⟨p',hp',_,_,_,hp4'⟩:=inv k' o' h2
  rcases R.apart k k' p p' l l' hp hp' h3 h4 h5 h6 with e|e
  ·rcases hp4' with ⟨g,_⟩|⟨_,g⟩
   ·exact .inl (g _ e)
   ·rw[g _ e]at h1;cases h1
  ·rcases hp4 with ⟨g,_⟩|⟨_,g⟩
   ·exact .inr (g _ e)
   ·rw[g _ e]at h2;cases h2
 ·intro k o hk p hp
  obtain⟨o',h1,_,_,h4,_⟩:=inv k o hk
  exact R.pres k o' h1 p (h4 p hp)
 ·intro k p o op l lp h1 h2 h3 h4 h5
  obtain⟨o',g1,g2,g3,g4,g5⟩:=inv k o h1
  obtain⟨op',k1,k2,k3,k4,k5⟩:=inv p op h3
  obtain⟨a,b⟩:=R.kin k p o' op' l lp g1 (g4 p h2) k1 h4 h5
  refine⟨?_, ?_⟩
  ·cases e:a7T op with
   |false=>rfl
   |true=>rw[k3 e]at a;cases a
  ·intro e
   have:=b e
   rcases g5 with ⟨_,g⟩|⟨g,_⟩
   ·omega
   ·rw[g]at h2;cases h2
theorem B6.new(R:B6 E w0 H w ρ)(hk:ρ H.next=none){cs:List AV}{arr:Array Value}{el:TypeId}{lo hi:Nat}{wr:Bool}{pre:List Nat}
  (hl:cs.length≤arr.size) (hr:m6 ρ cs (arr.toList.take cs.length)) (hf:wr=true→lo=hi∨arr.size≤lo)
  (hp:∀p∈pre,(ρ p).isSome∧∀op,H.get p=some op→a7T op=false):
  B6 E w0 (H.new (.cells cs wr pre)) { w with heap:=w.heap.push (.cells arr el (lo,hi)) } (upd ρ H.next ⟨w.heap.size,0,arr.size⟩):=by
 have hx:=a0E (ρ:=ρ) ⟨w.heap.size,0,arr.size⟩ hk
 have hn:=R.get_none hk
 have hg:∀k o,(H.new (.cells cs wr pre)).get k=some o→(k=H.next∧o= .cells cs wr pre)∨(k≠H.next∧H.get k=some o):=by
  intro k o e
  rw[AHeap.get_new]at e
  split at e
  ·rename_i h;cases e;exact .inl ⟨h.symm,rfl⟩
  ·rename_i h;exact .inr ⟨fun h'=>h h'.symm,e⟩
 have hpush:∀b,b<w.heap.size→(w.heap.push (.cells arr el (lo,hi)))[b]? =w.heap[b]? :=by
  intro b hb;rw[Array.getElem?_push];split
  ·omega
  ·rfl
 refine⟨by have:=R.size;simp;omega, ?_,R.env,R.side, ?_, ?_, ?_, ?_⟩
 ·intro b hb;rw[hpush b (by have:=R.size;omega)];exact R.old b hb
 ·intro k o e
  rcases hg k o e with ⟨rfl,rfl⟩|⟨h1,h2⟩
  ·refine⟨_,A8 _ _,R.size,arr,el,lo,hi,by simp,rfl,by simpa using hl, ?_,hf⟩
   simp only[List.drop_zero]
   exact H5 hx _ _ hr
  ·obtain⟨l,hl,hs,ho⟩:=R.objs k o h2
   exact⟨l,by rw[t6 _ h1];exact hl,hs,a5t hx (G6 ho (hpush _ (W3 ho)))⟩
 ·intro k k' o o' l l' h1 h2 h3 h4 h5 h6
  rcases hg k o h1 with ⟨rfl,rfl⟩|⟨g1,g2⟩<;>rcases hg k' o' h2 with ⟨rfl,rfl⟩|⟨g1',g2'⟩
  ·exact absurd rfl h5
  ·rw[A8]at h3;rw[t6 _ g1']at h4
   obtain⟨m,hm,_,ho⟩:=R.objs k' o' g2'
   rw[h4]at hm;cases hm;cases h3
   have:=W3 ho
   simp only at h6;omega
  ·rw[A8]at h4;rw[t6 _ g1]at h3
   obtain⟨m,hm,_,ho⟩:=R.objs k o g2
   rw[h3]at hm;cases hm;cases h4
   have:=W3 ho
   simp only at h6;omega
  ·rw[t6 _ g1]at h3;rw[t6 _ g1']at h4
   exact R.apart k k' o o' l l' g2 g2' h3 h4 h5 h6
 ·intro k o e p hpp
  rcases hg k o e with ⟨rfl,rfl⟩|⟨h1,h2⟩
  ·have:=(hp p hpp).1
   refine⟨fun e=> ?_, ?_⟩
   ·subst e;rw[hk]at this;cases this
   ·obtain⟨m,hm⟩:=Option.isSome_iff_exists.1 this
    rw[hx _ _ hm];rfl
  ·obtain⟨a,b⟩:=R.pres k o h2 p hpp
   obtain⟨m,hm⟩:=Option.isSome_iff_exists.1 b
   exact⟨a,by rw[hx _ _ hm];rfl⟩
 ·intro k p o op l lp h1 h2 h3 h4 h5
  rcases hg k o h1 with ⟨rfl,rfl⟩|⟨g1,g2⟩
  ·have hpn:p≠H.next:=by
    rintro rfl
    have:=(hp _ h2).1
    rw[hk]at this;cases this
   rcases hg p op h3 with ⟨e,_⟩|⟨_,g2'⟩
   ·exact absurd e hpn
   ·refine⟨(hp p h2).2 op g2',fun e=> ?_⟩
    rw[A8]at h4;rw[t6 _ hpn]at h5
    obtain⟨m,hm,_,ho⟩:=R.objs p op g2'
    rw[h5]at hm;cases hm;cases h4
    have:=W3 ho
    simp only at e;omega
  ·rcases hg p op h3 with ⟨rfl,_⟩|⟨g1',g2'⟩
   ·have:=(R.pres k o g2 _ h2).2
    rw[hk]at this;cases this
   ·rw[t6 _ g1]at h4;rw[t6 _ g1']at h5
    exact R.kin k p o op l lp g2 h2 g2' h4 h5
theorem B6.alone(R:B6 E w0 H w ρ){k j:Nat}{o oj:G3}{l lj:Loc}(hk:H.get k=some o)(hw:a7T o=true)(hl:ρ k=some l)
  (hj:H.get j=some oj) (hlj:ρ j=some lj) (hne:j≠k) (hb:lj.blk=l.blk):j∈s9 o:=by
 rcases R.apart j k oj o lj l hj hk hlj hl hne hb with e|e
 ·exact e
 ·have:=(R.kin j k oj o lj l hj e hk hlj hl).1
  rw[hw]at this;cases this
theorem B6.write(R:B6 E w0 H w ρ){k:Nat}{cs:List AV}{pre:List Nat}{l:Loc}{arr arr':Array Value}{el:TypeId}{lo hi:Nat}{cs':List AV}
  (hk:H.get k=some (.cells cs true pre)) (hl:ρ k=some l) (hb:w.heap[l.blk]? =some (.cells arr el (lo,hi)))
  (hs:arr'.size=arr.size) (hc:cs'.length=cs.length) (hr:m6 ρ cs' ((arr'.toList.drop l.d).take cs'.length)):
  B6 E w0 ((H.killAll pre).set k (.cells cs' true [])) (u6 w l.blk (.cells arr' el (lo,hi))) ρ:=by
 have hblk:=(Array.getElem?_eq_some_iff.1 hb).1
 obtain⟨l',hl',hbase,arr0,el0,lo0,hi0,e0,e1,e2,e3,e4⟩:=R.objs k _ hk
 rw[hl]at hl';cases hl'
 rw[hb]at e0;cases e0
 have hg:∀j o,((H.killAll pre).set k (.cells cs' true [])).get j=some o→(j=k∧o= .cells cs' true [])∨(j≠k∧j ∉ pre∧H.get j=some o):=by
  intro j o e
  rw[AHeap.get_set]at e
  split at e
  ·rename_i h;cases e;exact .inl ⟨h.symm,rfl⟩
  ·rename_i h
   rw[AHeap.get_killAll]at e
   split at e
   ·cases e
   ·rename_i h';exact .inr ⟨fun h'=>h h'.symm,h',e⟩
 have hoth:∀j o lj,j≠k→j ∉ pre→H.get j=some o→ρ j=some lj→lj.blk≠l.blk:=fun j o lj h1 h2 h3 h4 h5=>
  h2 (R.alone hk rfl hl h3 h4 h1 h5)
 refine⟨by rw[a0n];exact R.size, ?_,R.env,R.side, ?_, ?_, ?_, ?_⟩
 ·intro b hbb;rw[r8 _ _ _ hblk,if_neg (by omega)];exact R.old b hbb
 ·intro j o e
  rcases hg j o e with ⟨rfl,rfl⟩|⟨h1,h2,h3⟩
  ·exact⟨l,hl,hbase,arr',el,lo,hi,by rw[r8 _ _ _ hblk,if_pos rfl],by omega,by omega,hr,e4⟩
  ·obtain⟨lj,hlj,hsj,hoj⟩:=R.objs j o h3
   exact⟨lj,hlj,hsj,G6 hoj (by rw[r8 _ _ _ hblk,if_neg (fun e=>hoth j o lj h1 h2 h3 hlj e.symm)])⟩
 ·intro i j oi oj li lj h1 h2 h3 h4 h5 h6
  rcases hg i oi h1 with ⟨rfl,rfl⟩|⟨g1,g2,g3⟩<;>rcases hg j oj h2 with ⟨rfl,rfl⟩|⟨g1',g2',g3'⟩
  ·exact absurd rfl h5
  ·rw[hl]at h3;cases h3;exact absurd h6.symm (hoth j oj lj g1' g2' g3' h4)
  ·rw[hl]at h4;cases h4;exact absurd h6 (hoth i oi li g1 g2 g3 h3)
  ·exact R.apart i j oi oj li lj g3 g3' h3 h4 h5 h6
 ·intro j o e p hp
  rcases hg j o e with ⟨rfl,rfl⟩|⟨_,_,h3⟩
  ·simp[s9]at hp
  ·exact R.pres j o h3 p hp
 ·intro j p o op lj lp h1 h2 h3 h4 h5
  rcases hg j o h1 with ⟨rfl,rfl⟩|⟨g1,g2,g3⟩
  ·simp[s9]at h2
  ·rcases hg p op h3 with ⟨rfl,rfl⟩|⟨g1',g2',g3'⟩
   ·have:=(R.kin j p o _ lj lp g3 h2 hk h4 h5).1
    simp[a7T]at this
   ·exact R.kin j p o op lj lp g3 h2 g3' h4 h5
theorem B6.stores(R:B6 E w0 H w ρ){P:Program}{o:Id}{i:Nat}{as:List AV}{vs:List Value}{H':AHeap}(h:z8 H o i as=some H')(hv:m6 ρ as vs):
  (as=[]∧vs=[]∧H'=H)∨as≠[]∧∃b d w',E4 ρ o=some (b,d)∧(storeCells ⟨b,d+i,none⟩ vs).run P w= .ok () w'∧B6 E w0 H' w' ρ:=by
 unfold z8 at h
 split at h
 ·cases h;rw[m7]at hv;exact .inl ⟨rfl,hv,rfl⟩
 ·rename_i hne
  split at h
  ·cases h
  ·rename_i k
   split at h
   ·rename_i cs pre hk
    split at h
    ·rename_i hc
     cases h
     simp only[Bool.and_eq_true,decide_eq_true_eq]at hc
     obtain⟨hn,hall⟩:=hc
     obtain⟨l,hl,hs,arr,el,lo,hi,e0,e1,e2,e3,e4⟩:=R.objs k _ hk
     have hlen:=u7 hv
     refine .inr ⟨hne,l.blk,l.d,_,by simp[E4,hl],X0 l.blk (l.d+i) el lo hi vs 0 w arr e0 (by omega) (by rw[e1];exact e4 rfl)
      (b6J (P:=fun a=>m9 a=true) (fun a v h1 h2=>a7z h1 h2) hv (by simpa using hall)), ?_⟩
     rw[Nat.add_zero]
     exact R.write hk hl e0 (I4 _ _ _) (Y0 _ _ _) (by rw[Y0];exact a2Q i hv hn e3)
    ·cases h
   ·cases h
end
end
section
section
variable{E:g8}{w0:World}{H:AHeap}{w:World}{ρ:u5}{P:Program}
theorem a6X:∀(vs:List Value) (arr:Array Value) (p:Nat),p+vs.length≤arr.size→
  (C2 arr p vs).toList=arr.toList.take p++vs++arr.toList.drop (p+vs.length)
 | [],arr,p,_=>by simp[C2]
 |v::vs,arr,p,h=>by
  simp only[List.length_cons]at h
  rw[C2,a6X vs _ (p+1) (by simp;omega)]
  simp only[Array.toList_setIfInBounds,List.length_cons]
  have hp:p<arr.toList.length:=by simp;omega
  rw[List.drop_set,if_pos (by omega),List.take_set,List.take_add_one,List.set_append_right _ _ (by rw[List.length_take];exact Nat.min_le_left _ _)]
  have hp':p<arr.size:=by simpa using hp
  have h0:p - min p arr.size=0:=by omega
  simp[hp',h0]
  rw[show p+1+vs.length=p+(vs.length+1) by omega]
theorem B6.growIn(R:B6 E w0 H w ρ){k:Nat}{cs:List AV}{pre K pre':List Nat}{l:Loc}{arr:Array Value}{el:TypeId}{lo hi i cut:Nat}{news:List AV}{vs:List Value}
  {Hs:AHeap} (hk:H.get k=some (.cells cs true pre)) (hl:ρ k=some l) (hn:ρ H.next=none) (hb:w.heap[l.blk]? =some (.cells arr el (lo,hi)))
  (hic:i≤cut) (hc:cut≤cs.length) (hv:m6 ρ news vs) (hroom:l.d+cut+news.length≤l.n)
  (hnext:Hs.next=H.next) (hHs:∀j,Hs.get j=if j=k then some (.cells (cs.take cut) false pre') else if j∈K then none else H.get j)
  (hK:(K=pre∧pre'=[])∨(K=[]∧pre'=pre∧cut=cs.length)):
  B6 E w0 (Hs.new (.cells ((cs.take cut).drop i++news) true (k::pre'))) (u6 w l.blk (.cells (C2 arr (l.d+cut) vs) el (lo,hi)))
   (upd ρ H.next ⟨l.blk,l.d+i,l.n⟩):=by
 have hblk:=(Array.getElem?_eq_some_iff.1 hb).1
 obtain⟨l',hl',hbase,arr0,el0,lo0,hi0,e0,e1,e2,e3,e4⟩:=R.objs k _ hk
 rw[hl]at hl';cases hl'
 rw[hb]at e0;cases e0
 have hlen:=u7 hv
 have hx:=a0E (ρ:=ρ) ⟨l.blk,l.d+i,l.n⟩ hn
 have hkn:k≠H.next:=by rintro rfl;rw[hn]at hl;cases hl
 have R1:B6 E w0 Hs w ρ:=R.less (by
  intro j o e
  rw[hHs]at e
  split at e
  ·rename_i h;subst h;cases e
   refine⟨_,hk, .inr ⟨cs,true,pre,cut,pre',rfl,rfl, ?_⟩⟩
   rcases hK with ⟨rfl,rfl⟩|⟨rfl,rfl,h⟩
   ·refine .inr ⟨rfl,fun p hp=> ?_⟩
    rw[hHs,if_neg (R.pres j _ hk p hp).1,if_pos hp]
   ·exact .inl ⟨rfl,by omega⟩
  ·split at e
   ·cases e
   ·exact⟨o,e, .inl rfl⟩)
 have htl:=a6X vs arr (l.d+cut) (by omega)
 have hrow:∀a n,a+n≤l.d+cut→((C2 arr (l.d+cut) vs).toList.drop a).take n=(arr.toList.drop a).take n:=by
  intro a n h
  rw[htl,List.append_assoc,List.drop_append_of_le_length (by simp;omega),List.take_append_of_le_length (by simp;omega),List.drop_take,List.take_take,
   Nat.min_eq_left (by omega)]
 have hsame:∀j oj lj,j≠k→Hs.get j=some oj→ρ j=some lj→lj.blk=l.blk→j∈pre'∧lj.d+a1k oj≤l.d+cut:=by
  intro j oj lj h1 h2 h3 h4
  rw[hHs,if_neg h1]at h2
  split at h2
  ·cases h2
  ·rename_i hnK
   have hm:j∈pre:=R.alone hk rfl hl h2 h3 h1 h4
   rcases hK with ⟨rfl,_⟩|⟨_,rfl,hcut⟩
   ·exact absurd hm hnK
   ·refine⟨hm, ?_⟩
    have:=(R.kin k j _ oj l lj hk hm h2 hl h3).2 h4
    simpa [a1k,hcut]using this
 have hg:∀j o,(Hs.new (.cells ((cs.take cut).drop i++news) true (k::pre'))).get j=some o→
   (j=H.next∧o= .cells ((cs.take cut).drop i++news) true (k::pre'))∨(j≠H.next∧Hs.get j=some o):=by
  intro j o e
  rw[AHeap.get_new]at e
  split at e
  ·rename_i h;cases e;exact .inl ⟨by rw[←h,hnext],rfl⟩
  ·rename_i h;exact .inr ⟨fun h'=>h (by rw[h',hnext]),e⟩
 have hsk:Hs.get k=some (.cells (cs.take cut) false pre'):=by rw[hHs,if_pos rfl]
 have hpre:∀p∈pre',p∈pre:=by
  intro p hp
  rcases hK with ⟨_,rfl⟩|⟨_,rfl,_⟩
  ·simp at hp
  ·exact hp
 refine⟨by rw[a0n];exact R.size, ?_,R.env,R.side, ?_, ?_, ?_, ?_⟩
 ·intro b hbb;rw[r8 _ _ _ hblk,if_neg (by omega)];exact R.old b hbb
 ·intro j o e
  rcases hg j o e with ⟨rfl,rfl⟩|⟨h1,h2⟩
  ·refine⟨_,A8 _ _,hbase,_,el,lo,_,by rw[r8 _ _ _ hblk,if_pos rfl],by rw[I4,e1], ?_, ?_,e4⟩
   ·simp;omega
   ·apply H5 hx
    have hA:m6 ρ (cs.take cut) ((arr.toList.drop l.d).take cut):=by
     have:=a5R e3 cut
     rwa [List.take_take,Nat.min_eq_left hc]at this
    have hB:=b2O (O6 hA hv) i
    have hdl:i≤((arr.toList.drop l.d).take cut).length:=by simp;omega
    rw[List.drop_append_of_le_length (by simp;omega),List.drop_append_of_le_length hdl]at hB
    have:(((C2 arr (l.d+cut) vs).toList.drop (l.d+i)).take ((cs.take cut).drop i++news).length)=((arr.toList.drop l.d).take cut).drop i++vs:=by
     have hm:((cs.take cut).drop i++news).length=(cut - i)+vs.length:=by simp;omega
     rw[hm,htl,List.append_assoc,List.drop_append_of_le_length (by simp;omega),List.drop_take,List.drop_take,List.drop_drop,
      show l.d+cut - (l.d+i)=cut - i by omega]
     rw[←List.append_assoc,List.take_append_of_le_length (by simp;omega),List.take_of_length_le (by simp;omega)]
    rw[this]
    exact hB
  ·by_cases hjk:j=k
   ·subst hjk
    rw[hsk]at h2;cases h2
    refine⟨l,by rw[t6 _ h1];exact hl,hbase,_,el,lo,_,by rw[r8 _ _ _ hblk,if_pos rfl],by rw[I4,e1],by simp;omega, ?_,by simp⟩
    apply H5 hx
    rw[hrow _ _ (by simp;omega)]
    have:=a5R e3 cut
    have hcl:(cs.take cut).length=cut:=by simp;omega
    rw[hcl]
    rwa [List.take_take,Nat.min_eq_left hc]at this
   ·obtain⟨lj,hlj,hsj,hoj⟩:=R1.objs j o h2
    refine⟨lj,by rw[t6 _ h1];exact hlj,hsj,a5t hx ?_⟩
    by_cases hbb:lj.blk=l.blk
    ·obtain⟨_,hend⟩:=hsame j o lj hjk h2 hlj hbb
     cases o with
     |map es clock=>obtain⟨mes,g,_⟩:=hoj;rw[hbb,hb]at g;cases g
     |iter m since seen last=>obtain⟨_,_,_,g⟩:=hoj;rw[hbb,hb]at g;cases g
     |cells cj wj pj=>
      obtain⟨arr1,el1,lo1,hi1,g0,g1,g2,g3,g4⟩:=hoj
      rw[hbb,hb]at g0;cases g0
      refine⟨_,el,lo,_,by rw[hbb,r8 _ _ _ hblk,if_pos rfl],by rw[I4];exact g1,g2, ?_,g4⟩
      rw[hrow _ _ (by simpa [a1k]using hend)]
      exact g3
    ·exact G6 hoj (by rw[r8 _ _ _ hblk,if_neg (fun e=>hbb e.symm)])
 ·intro a b oa ob la lb h1 h2 h3 h4 h5 h6
  rcases hg a oa h1 with ⟨rfl,rfl⟩|⟨g1,g2⟩<;>rcases hg b ob h2 with ⟨rfl,rfl⟩|⟨g1',g2'⟩
  ·exact absurd rfl h5
  ·rw[A8]at h3;cases h3;rw[t6 _ g1']at h4
   right
   by_cases hbk:b=k
   ·simp[s9,hbk]
   ·simp only[s9,List.mem_cons];exact .inr (hsame b ob lb hbk g2' h4 h6.symm).1
  ·rw[A8]at h4;cases h4;rw[t6 _ g1]at h3
   left
   by_cases hak:a=k
   ·simp[s9,hak]
   ·simp only[s9,List.mem_cons];exact .inr (hsame a oa la hak g2 h3 h6).1
  ·rw[t6 _ g1]at h3;rw[t6 _ g1']at h4
   exact R1.apart a b oa ob la lb g2 g2' h3 h4 h5 h6
 ·intro j o e p hp
  rcases hg j o e with ⟨rfl,rfl⟩|⟨h1,h2⟩
  ·simp only[s9,List.mem_cons]at hp
   have hps:(ρ p).isSome:=by
    rcases hp with rfl|hp
    ·rw[hl];rfl
    ·exact(R.pres k _ hk p (hpre p hp)).2
   refine⟨fun e=> ?_, ?_⟩
   ·rw[e,hn]at hps;cases hps
   ·obtain⟨m,hm⟩:=Option.isSome_iff_exists.1 hps
    rw[hx _ _ hm];rfl
  ·obtain⟨a,b⟩:=R1.pres j o h2 p hp
   obtain⟨m,hm⟩:=Option.isSome_iff_exists.1 b
   exact⟨a,by rw[hx _ _ hm];rfl⟩
 ·intro j p o op lj lp h1 h2 h3 h4 h5
  rcases hg j o h1 with ⟨rfl,rfl⟩|⟨g1,g2⟩
  ·simp only[s9,List.mem_cons]at h2
   have hps:(ρ p).isSome:=by
    rcases h2 with rfl|hp
    ·rw[hl];rfl
    ·exact(R.pres k _ hk p (hpre p hp)).2
   have hpn:p≠H.next:=by rintro rfl;rw[hn]at hps;cases hps
   rcases hg p op h3 with ⟨e,_⟩|⟨_,g2'⟩
   ·exact absurd e hpn
   ·rw[A8]at h4;cases h4;rw[t6 _ hpn]at h5
    by_cases hpk:p=k
    ·subst hpk
     rw[hsk]at g2';cases g2'
     rw[hl]at h5;cases h5
     refine⟨rfl,fun _=> ?_⟩
     simp[a1k];omega
    ·have hp':p∈pre':=h2.resolve_left hpk
     have hp:p∈pre:=hpre p hp'
     have hgp:H.get p=some op:=by
      rw[hHs,if_neg hpk]at g2'
      split at g2'
      ·cases g2'
      ·exact g2'
     obtain⟨a,b⟩:=R.kin k p _ op l lp hk hp hgp hl h5
     refine⟨a,fun e=> ?_⟩
     have:=(hsame p op lp hpk g2' h5 e).2
     show lp.d+a1k op≤l.d+i+((cs.take cut).drop i++news).length
     simp only[List.length_append,List.length_drop,List.length_take]
     omega
  ·rcases hg p op h3 with ⟨rfl,_⟩|⟨g1',g2'⟩
   ·have:=(R1.pres j o g2 _ h2).2
    rw[hn]at this;cases this
   ·rw[t6 _ g1]at h4;rw[t6 _ g1']at h5
    exact R1.kin j p o op lj lp g2 h2 g2' h4 h5
end
end
section
section
variable{E:g8}{w0:World}{H:AHeap}{w:World}{ρ:u5}{P:Program}
theorem b7{t:TypeId}{d:TypeDesc}(h:P.underlying t=some d)(w:World):(underlying t).run P w= .ok d w:=by
 simp[underlying,h]
theorem u9{t:TypeId}{i:TypeInfo}(h:P.info? t=some i)(w:World):(typeInfo t).run P w= .ok i w:=by
 simp[typeInfo,h]
theorem A6{t:TypeId}{n:Nat}(h:A4 P t=some n)(w:World):(sizeOf t).run P w= .ok n w:=by
 unfold A4 at h
 cases e:P.info? t with
 |none=>rw[e]at h;cases h
 |some i=>rw[e]at h;cases h;simp[sizeOf,u9 e]
theorem a6q{t:TypeId}{b:Bool}(h:a6j P t=some b)(w:World):(isAgg t).run P w= .ok b w:=by
 unfold a6j at h
 split at h
 ·rename_i h1;cases h;simp[isAgg,b7 h1]
 ·rename_i h1;cases h;simp[isAgg,b7 h1]
 ·rename_i d h1 h2 h3
  cases h
  simp only[isAgg,Sem.run_bind,b7 h3,Result.andThen_ok]
  rfl
 ·cases h
theorem a1B{t:TypeId}{z:AV}(h:G7 P t=some z)(w:World):∃v,(zeroValue t).run P w= .ok v w∧rel ρ z v:=by
 unfold G7 at h
 split at h
 ·rename_i i hi
  cases e:i.zero with
  |none=>rw[e]at h;cases h
  |some v=>
   rw[e]at h;cases h
   exact⟨v,by simp[zeroValue,u9 hi,e],b2w v⟩
 ·cases h
theorem b6j{t:TypeId}{n:Nat}(h:a5X P t=some n):∃i,P.info? t=some i∧i.bytes=n:=by
 unfold a5X at h
 cases e:P.info? t with
 |none=>rw[e]at h;cases h
 |some i=>rw[e]at h;cases h;exact⟨i,rfl,rfl⟩
theorem a1z{t e:TypeId}(h:a4j P t=some e):P.underlying t=some (.slice e):=by
 unfold a4j at h
 split at h
 ·rename_i h1;cases h;exact h1
 ·cases h
theorem a3C(R:B6 E w0 H w ρ){t:TypeId}{o:Id}{i:Nat}{a:AV}(h:H4 P E H t o i=some a):
  ∃b d v,E4 ρ o=some (b,d)∧(loadVar t ⟨b,d+i,none⟩).run P w= .ok v w∧rel ρ a v:=by
 unfold H4 at h
 simp only[Option.bind_eq_bind,Option.bind_eq_some_iff]at h
 obtain⟨g,hg,h⟩:=h
 cases g with
 |true=>
  simp only[if_true,Option.bind_eq_some_iff]at h
  obtain⟨n,hn,as,has,h⟩:=h
  cases h
  obtain⟨b,d,vs,h1,h2,h3,_⟩:=R.loads (P:=P) has
  refine⟨b,d, .agg ⟨vs⟩,h1, ?_,by simp only[rel];exact⟨⟨vs⟩,rfl,h3⟩⟩
  simp[loadVar,a6q hg,A6 hn,h2 w rfl]
 |false=>
  simp only[Bool.false_eq_true,if_false]at h
  obtain⟨b,d,v,h1,h2,h3⟩:=R.load h
  refine⟨b,d,v,h1, ?_,h3⟩
  simp[loadVar,a6q hg,h2]
theorem a2f{t:TypeId}{cs:List AV}{xs:Array Value}{off:Nat}{a:AV}(hr:m6 ρ cs xs.toList)(h:a9J P t cs off=some a)(w:World):
  ∃v,(part t xs off).run P w= .ok v w∧rel ρ a v:=by
 unfold a9J at h
 simp only[Option.bind_eq_bind,Option.bind_eq_some_iff]at h
 obtain⟨g,hg,h⟩:=h
 cases g with
 |true=>
  simp only[if_true,Option.bind_eq_some_iff]at h
  obtain⟨n,hn,h⟩:=h
  cases h
  refine⟨.agg (xs.extract off (off+n)),by simp[part,a6q hg,A6 hn], ?_⟩
  simp only[rel]
  refine⟨_,rfl, ?_⟩
  have:=a5R (b2O hr off) n
  rw[Array.toList_extract,List.extract_eq_take_drop]
  simpa using this
 |false=>
  simp only[Bool.false_eq_true,if_false]at h
  obtain⟨v,h1,h2⟩:=a2k hr off h
  refine⟨v, ?_,h2⟩
  simp only[part,Sem.run_bind,a6q hg,Result.andThen_ok,Bool.false_eq_true,if_false]
  rw[show xs[off]? =some v by simpa using h1]
  rfl
theorem a7P(off:Nat):∀(l:List Value) (k:Nat) (a:Array Value),
  (l.zipIdx k).foldl (fun cs (x:Value×Nat)=>cs.setIfInBounds (off+x.2) x.1) a=C2 a (off+k) l
 | [],_,_=>rfl
 |v::l,k,a=>by
  rw[List.zipIdx_cons,List.foldl_cons,a7P off l (k+1)]
  rfl
theorem b8m{as:List AV}{vs:List Value}{cs:List AV}{arr:Array Value}{i:Nat}(h:m6 ρ as vs)(hn:i+as.length≤cs.length)
  (hc:m6 ρ cs arr.toList):m6 ρ (z7 cs i as) (C2 arr i vs).toList:=by
 have hl:=u7 hc
 have hc':m6 ρ cs ((arr.toList.drop 0).take cs.length):=by rw[List.drop_zero,List.take_of_length_le (by omega)];exact hc
 have:=a2Q (d:=0) i h hn hc'
 rw[List.drop_zero,List.take_of_length_le (by simp[I4];simp at hl;omega),Nat.zero_add]at this
 exact this
def c2W(ρ:u5):List (Nat×AV)→List (Nat×Value)→Prop
 | [],l=>l=[]
 |(i,a)::ps,l=>∃v r,l=(i,v)::r∧rel ρ a v∧c2W ρ ps r
theorem a4F{place:Nat→Option (Nat×Nat)}:∀ {ps:List (Nat×AV)} {qs:List (Nat×Value)} {cs cs':List AV} {xs:Array Value},
  a5H place cs ps=some cs'→c2W ρ ps qs→m6 ρ cs xs.toList→∃xs',Instr.fill place xs qs=some xs'∧m6 ρ cs' xs'.toList∧xs'.size=xs.size
 | [],qs,cs,cs',xs,h,hp,hc=>by
  simp only[c2W]at hp;subst hp
  simp only[a5H]at h;cases h
  exact⟨xs,rfl,hc,rfl⟩
 |(i,a)::ps,qs,cs,cs',xs,h,hp,hc=>by
  simp only[c2W]at hp
  obtain⟨v,r,rfl,hv,hr⟩:=hp
  simp only[a5H]at h
  split at h
  ·cases h
  ·rename_i off size hpl
   split at h
   ·rename_i hcond
    obtain⟨h1,h2⟩:=hcond
    have hcl:=a0R hv
    have e1:=u7 hcl
    have e2:=u7 hc
    simp only[Array.length_toList]at e1 e2
    obtain⟨xs',g1,g2,g3⟩:=a4F (xs:=C2 xs off v.cells.toList) h hr (b8m hcl h2 hc)
    refine⟨xs', ?_,g2,by rw[g3,I4]⟩
    simp only[Instr.fill,hpl]
    rw[if_neg (by simp only[Bool.or_eq_true,decide_eq_true_eq];omega)]
    have:(v.cells.zipIdx.foldl (fun cs x=>cs.setIfInBounds (off+x.2) x.1) xs)=C2 xs off v.cells.toList:=by
     rw[←Array.foldl_toList,Array.toList_zipIdx,a7P off v.cells.toList 0 xs];rfl
    rw[←g1]
    exact congrArg (fun y=>Instr.fill place y r) this
   ·cases h
theorem a9t{α β:Type}{f:α→Sem β}{g:α→Option β}:∀ {l:List α} {r:List β},l.mapM g=some r→
  (∀x y,g x=some y→∀w,(f x).run P w= .ok y w)→∀w,(l.mapM f).run P w= .ok r w
 | [],r,h,_,w=>by simp at h;subst h;rfl
 |x::l,r,h,hf,w=>by
  simp only[List.mapM_cons,Option.bind_eq_bind,Option.bind_eq_some_iff]at h
  obtain⟨y,hy,ys,hys,h⟩:=h
  cases h
  simp[List.mapM_cons,hf x y hy,a9t hys hf]
theorem c0N{t:TypeId}{ps:List (Nat×AV)}{qs:Array (Nat×Value)}{a:AV}(h:a7Y P t ps=some a)(hp:c2W ρ ps qs.toList)(w:World):
  ∃v,(Instr.build t qs).run P w= .ok v w∧rel ρ a v:=by
 unfold a7Y at h
 simp only[Option.bind_eq_bind,Option.bind_eq_some_iff]at h
 obtain⟨z,hz,h⟩:=h
 obtain⟨zv,h1,h2⟩:=a1B (ρ:=ρ) hz w
 have hzc:=a0R h2
 split at h
 ·rename_i fields hu
  simp only[Option.bind_eq_some_iff]at h
  obtain⟨places,hpl,h⟩:=h
  simp only[Option.map_eq_some_iff]at h
  obtain⟨cs,hcs,rfl⟩:=h
  obtain⟨xs,g1,g2,_⟩:=a4F hcs hp hzc
  refine⟨.agg xs, ?_,by simp only[rel];exact⟨xs,rfl,g2⟩⟩
  have hm:(fields.mapM fun(f:Field)=>do pure (f.offset, ←sizeOf f.type)).run P w= .ok places.toArray w:=by
   rw[Array.mapM_eq_mapM_toList]
   have:=a9t (P:=P) (f:=fun f:Field=>do pure (f.offset, ←sizeOf f.type)) hpl (fun x y hy w=>by
    simp only[Option.map_eq_some_iff]at hy
    obtain⟨s,hs,rfl⟩:=hy
    simp[A6 hs]) w
   simp only[Sem.run_map,this,Result.andThen_ok]
  simp only[Instr.build,Sem.run_bind,h1,Result.andThen_ok,b7 hu,hm]
  have g1':Instr.fill (fun i=>places.toArray[i]?) zv.cells qs.toList=some xs:=by simpa using g1
  rw[g1']
  rfl
 ·rename_i n e hu
  simp only[Option.bind_eq_some_iff]at h
  obtain⟨size,hs,h⟩:=h
  simp only[Option.map_eq_some_iff]at h
  obtain⟨cs,hcs,rfl⟩:=h
  obtain⟨xs,g1,g2,_⟩:=a4F hcs hp hzc
  refine⟨.agg xs, ?_,by simp only[rel];exact⟨xs,rfl,g2⟩⟩
  simp only[Instr.build,Sem.run_bind,h1,Result.andThen_ok,b7 hu,A6 hs,g1]
  rfl
 ·cases h
end
end
section
section
variable{E:g8}{w0:World}{H:AHeap}{w:World}{ρ:u5}{P:Program}
theorem b5v(b:Nat)(i j:Nat)(w:World):(sameAddr ⟨b,i,none⟩ ⟨b,j,none⟩).run P w= .ok (i==j) w:=by
 simp only[sameAddr,beq_self_eq_true,if_true]
 show Result.ok _ _=_
 congr 1
 rw[Bool.eq_iff_iff];simp
theorem b0P(d:Nat)(t:TypeId)(xs ys:List AV)(vx vy:Array Value)(hx:m6 ρ xs vx.toList)(hy:m6 ρ ys vy.toList)
  (ih:∀t a b va vb r,eqA P d t a b=some r→rel ρ a va→rel ρ b vb→∀w,(Op.equalIn d t va vb).run P w= .ok r w):
  ∀(fs:List Field) (r:Bool),a2Y P (fun t a b=>eqA P d t a b) xs ys fs=some r→∀w:World,
   (do
     for f in fs do
      if f.name≠"_" then
       if !(←Op.equalIn d f.type (←part f.type vx f.offset) (←part f.type vy f.offset)) then return false
     pure true:Sem Bool).run P w= .ok r w
 | [],r,h,w=>by simp only[a2Y]at h;cases h;rfl
 |f::fs,r,h,w=>by
  have IH:=fun h=>b0P d t xs ys vx vy hx hy ih fs r h w
  simp only[a2Y]at h
  by_cases hn:f.name≠"_"
  ·rw[if_pos hn]at h
   split at h
   ·rename_i a b ha hb
    obtain⟨va,h1,h2⟩:=a2f hx ha w
    obtain⟨vb,h3,h4⟩:=a2f hy hb w
    split at h
    ·rename_i he
     have:=ih _ _ _ _ _ _ he h2 h4 w
     simpa [hn,h1,h3,this]using IH h
    ·rename_i r' he hr'
     have hr:r=false:=by
      cases r with
      |false=>rfl
      |true=>exact absurd h hr'
     subst hr
     have:=ih _ _ _ _ _ _ h h2 h4 w
     simp[hn,h1,h3,this]
   ·cases h
  ·rw[if_neg hn]at h
   simp only[ne_eq,Decidable.not_not]at hn
   simpa [hn]using IH h
theorem a9P(x y:List UInt8):((ByteArray.mk x.toArray)==(ByteArray.mk y.toArray))=(x==y):=by
 rw[beq_toListBytes,ByteArray.toList_eq,ByteArray.toList_eq]
theorem b3f:∀(d:Nat) (t:TypeId) (a b:AV) (va vb:Value) (r:Bool),eqA P d t a b=some r→rel ρ a va→rel ρ b vb→∀w,(Op.equalIn d t va vb).run P w= .ok r w
 |0,_,_,_,_,_,_,h,_,_,_=>by simp[eqA]at h
 |d+1,t,a,b,va,vb,r,h,ha,hb,w=>by
  unfold eqA at h
  split at h
  case h_1 hu=>simp only[rel]at ha hb;subst ha hb;cases h;(rw[Op.equalIn];simp only[Sem.run_bind,b7 hu,Result.andThen_ok];rfl)
  case h_2 hu=>
   simp only[rel]at ha hb;subst ha hb
   split at h
   ·rename_i e;cases h;(rw[Op.equalIn];simp only[Sem.run_bind,b7 hu,Result.andThen_ok];simp[e])
   ·cases h
  case h_3 hu=>
   simp only[rel]at ha hb;subst ha hb;cases h
   rename_i x y
   rw[Op.equalIn];simp only[Sem.run_bind,b7 hu,Result.andThen_ok,Sem.run_pure]
   congr 1
   exact a9P _ _
  case h_4 hu=>simp only[rel]at ha hb;subst ha hb;cases h;(rw[Op.equalIn];simp only[Sem.run_bind,b7 hu,Result.andThen_ok];rfl)
  case h_5 hu=>simp only[rel]at ha hb;obtain⟨_,_,_,rfl⟩:=hb;subst ha;cases h;(rw[Op.equalIn];simp only[Sem.run_bind,b7 hu,Result.andThen_ok];rfl)
  case h_6 hu=>simp only[rel]at ha hb;obtain⟨_,_,_,rfl⟩:=ha;subst hb;cases h;(rw[Op.equalIn];simp only[Sem.run_bind,b7 hu,Result.andThen_ok];rfl)
  case h_7 hu=>
   simp only[rel]at ha hb
   obtain⟨b1,d1,g1,rfl⟩:=ha
   obtain⟨b2,d2,g2,rfl⟩:=hb
   split at h
   ·rename_i hc
    obtain⟨rfl,h2,h3⟩:=hc
    cases h
    rw[g1]at g2;cases g2
    obtain⟨n,hn⟩:=Option.isSome_iff_exists.1 h3
    have hn0:n≠0:=by rintro rfl;exact h2 hn
    rw[Op.equalIn];simp only[Sem.run_bind,b7 hu,A6 hn,Result.andThen_ok,hn0,ne_eq,not_false_eq_true,if_true,b5v]
    congr 1
    rw[Bool.eq_iff_iff];simp
   ·cases h
  case h_8 hu=>simp only[rel]at ha hb;subst ha hb;cases h;(rw[Op.equalIn];simp only[Sem.run_bind,b7 hu,Result.andThen_ok];rfl)
  case h_9 hu=>simp only[rel]at ha hb;obtain⟨_,rfl,_⟩:=hb;subst ha;cases h;(rw[Op.equalIn];simp only[Sem.run_bind,b7 hu,Result.andThen_ok];rfl)
  case h_10 hu=>simp only[rel]at ha hb;obtain⟨_,rfl,_⟩:=ha;subst hb;cases h;(rw[Op.equalIn];simp only[Sem.run_bind,b7 hu,Result.andThen_ok];rfl)
  case h_11 hu=>
   simp only[rel]at ha hb
   obtain⟨x1,rfl,r1⟩:=ha
   obtain⟨x2,rfl,r2⟩:=hb
   split at h
   ·rename_i e;cases h;(rw[Op.equalIn];simp only[Sem.run_bind,b7 hu,Result.andThen_ok];simp[e])
   ·rename_i e
    split at h
    ·rename_i i hi
     split at h
     ·rename_i hc
      have:=b3f d _ _ _ _ _ _ h r1 r2 w
      (rw[Op.equalIn];simp only[Sem.run_bind,b7 hu,Result.andThen_ok];simp[e,u9 hi,hc,this])
     ·cases h
    ·cases h
  case h_12 hu=>simp only[rel]at ha hb;subst ha hb;cases h;(rw[Op.equalIn];simp only[Sem.run_bind,b7 hu,Result.andThen_ok];rfl)
  case h_13 hu=>simp only[rel]at ha hb;obtain⟨_,_,rfl,_⟩:=hb;subst ha;cases h;(rw[Op.equalIn];simp only[Sem.run_bind,b7 hu,Result.andThen_ok];rfl)
  case h_14 hu=>simp only[rel]at ha hb;obtain⟨_,_,rfl,_⟩:=ha;subst hb;cases h;(rw[Op.equalIn];simp only[Sem.run_bind,b7 hu,Result.andThen_ok];rfl)
  case h_15 hu=>simp only[rel]at ha hb;subst ha hb;cases h;(rw[Op.equalIn];simp only[Sem.run_bind,b7 hu,Result.andThen_ok];rfl)
  case h_16 hu=>simp only[rel]at ha hb;obtain⟨_,_,rfl⟩:=hb;subst ha;cases h;(rw[Op.equalIn];simp only[Sem.run_bind,b7 hu,Result.andThen_ok];rfl)
  case h_17 hu=>simp only[rel]at ha hb;obtain⟨_,_,rfl⟩:=ha;subst hb;cases h;(rw[Op.equalIn];simp only[Sem.run_bind,b7 hu,Result.andThen_ok];rfl)
  case h_18 hu=>simp only[rel]at ha hb;subst ha hb;cases h;(rw[Op.equalIn];simp only[Sem.run_bind,b7 hu,Result.andThen_ok];rfl)
  case h_19 hu=>simp only[rel]at ha hb;obtain⟨_,_,rfl,_⟩:=hb;subst ha;cases h;(rw[Op.equalIn];simp only[Sem.run_bind,b7 hu,Result.andThen_ok];rfl)
  case h_20 hu=>simp only[rel]at ha hb;obtain⟨_,_,rfl,_⟩:=ha;subst hb;cases h;(rw[Op.equalIn];simp only[Sem.run_bind,b7 hu,Result.andThen_ok];rfl)
  case h_21 hu=>
   simp only[rel]at ha hb
   obtain⟨x1,rfl,r1⟩:=ha
   obtain⟨x2,rfl,r2⟩:=hb
   split at h
   ·cases h
   ·rename_i hst
    have:=b0P d t _ _ x1 x2 r1 r2 (fun t a b va vb r h1 h2 h3 w=>b3f d t a b va vb r h1 h2 h3 w) _ r h w
    rw[Op.equalIn];simp only[Sem.run_bind,b7 hu,Result.andThen_ok,run_program,Bool.not_eq_true]at hst ⊢
    simp only[hst,Bool.false_eq_true,if_false,Sem.run_bind]
    rw[←Array.forIn_toList]
    simp only[Sem.run_bind]at this
    exact this
  case h_22=>cases h
end
end
section
section
variable{E:g8}{w0:World}{H:AHeap}{w:World}{ρ:u5}{P:Program}
theorem b8q{op:BinOp}{k:IntKind}{x y:Int}{r:AV}(h:L6 op k x y=some r)(t:TypeId)(w:World):
  ∃v,(binOp op t (.int k x) (.int k y)).run P w= .ok v w∧rel ρ r v:=by
 cases op<;>simp only[L6]at h
 case quo=>
  split at h
  ·cases h
  ·rename_i hy;cases h
   exact⟨.int k (k.wrap (x.tdiv y)),by simp[binOp,Op.intDiv,hy],by simp only[rel]⟩
 case rem=>
  split at h
  ·cases h
  ·rename_i hy;cases h
   exact⟨.int k (x.tmod y),by simp[binOp,Op.intDiv,hy],by simp only[rel]⟩
 all_goals first
  |(cases h;done)
  |(cases h;exact⟨_,by simp only[binOp,ne_eq,not_true_eq_false,if_false];rfl,by simp only[rel]⟩)
theorem b7X{op:BinOp}{x y:List UInt8}{r:AV}(h:a4t op x y=some r)(t:TypeId)(w:World):
  ∃v,(binOp op t (.string ⟨x.toArray⟩) (.string ⟨y.toArray⟩)).run P w= .ok v w∧rel ρ r v:=by
 have e:∀l:List UInt8,(ByteArray.mk l.toArray).toList=l:=fun l=>by rw[ByteArray.toList_eq]
 cases op<;>simp only[a4t]at h
 case add=>
  split at h
  ·rename_i hn
   cases h
   refine⟨.string (⟨x.toArray⟩++⟨y.toArray⟩), ?_, ?_⟩
   ·have hs:¬(((ByteArray.mk x.toArray).size+(ByteArray.mk y.toArray).size:Nat):Int)>IntKind.i64.max:=by
     have e1:(ByteArray.mk x.toArray).size=x.length:=by simp[ByteArray.size]
     have e2:(ByteArray.mk y.toArray).size=y.length:=by simp[ByteArray.size]
     rw[e1,e2];omega
    simp only[binOp,Op.stringOp]
    rw[if_neg hs]
    rfl
   ·simp only[rel]
    have:(ByteArray.mk x.toArray++ByteArray.mk y.toArray)=⟨(x++y).toArray⟩:=by
     apply ByteArray.ext
     simp
    rw[this]
  ·cases h
 all_goals first
  |(cases h;done)
  |(cases h
    refine⟨_,by simp only[binOp,Op.stringOp,e];rfl,by simp only[rel]⟩)
theorem a7t{op:BinOp}{t:TypeId}{x y:Operand}{a b:Value}(h1:a= .nilIface→b= .nilIface→(Region.isConst x||Region.isConst y)=true)
  (h2:∀u v,a= .agg u→b= .agg v→P.eqGuardType P.depth t=false) (w:World):(eqGuard op t x y a b).run P w= .ok () w:=by
 cases op
 case eql|neq=>
  unfold eqGuard
  rw[if_neg (by decide)]
  split
  ·have:=h1 rfl rfl
   cases x<;>cases y<;>first|rfl|(simp[Region.isConst]at this;done)
  ·rename_i u v
   have:=h2 u v rfl rfl
   simp[this]
  ·rfl
 all_goals rfl
theorem b6N{d:Nat}{t:TypeId}{a b:AV}{r:Bool}(h:eqA P d t a b=some r):(∀u,a≠ .opq u)∧(∀u,b≠ .opq u):=by
 cases d with
 |zero=>simp[eqA]at h
 |succ d=>
  constructor
  ·rintro u rfl
   unfold eqA at h
   split at h<;>simp_all
  ·rintro u rfl
   unfold eqA at h
   split at h<;>simp_all
theorem b1d{a:AV}(h:rel ρ a .nilIface):a= .nilIfc∨a= .opq .nilIface:=by
 cases a<;>simp[rel]at h ⊢
 exact h.symm
theorem c4p{a:AV}{u:Array Value}(h:rel ρ a (.agg u)):(∃cs,a= .agg cs)∨a= .opq (.agg u):=by
 cases a<;>simp[rel]at h ⊢
 exact h.symm
theorem b5D{op:BinOp}{t:TypeId}{x y:Operand}{a b:AV}{va vb:Value}{r:Bool}{d:Nat}(hop:op= .eql∨op= .neq)(hg:a0j P op t x y a b=true)(he:eqA P d t a b=some r)
  (ha:rel ρ a va) (hb:rel ρ b vb) (w:World):(eqGuard op t x y va vb).run P w= .ok () w:=by
 obtain⟨n1,n2⟩:=b6N he
 refine a7t ?_ ?_ w
 ·rintro rfl rfl
  have e1:=(b1d ha).resolve_right (n1 _)
  have e2:=(b1d hb).resolve_right (n2 _)
  subst e1 e2
  rcases hop with rfl|rfl<;>simpa only[a0j]using hg
 ·rintro u v rfl rfl
  obtain⟨c1,e1⟩:=(c4p ha).resolve_right (n1 _)
  obtain⟨c2,e2⟩:=(c4p hb).resolve_right (n2 _)
  subst e1 e2
  rcases hop with rfl|rfl<;>simpa only[a0j,Bool.not_eq_true']using hg
theorem c5U{t:TypeId}{a b:Value}(h1:∀k x k' y,a= .int k x→b= .int k' y→False)(h2:∀x y,a= .string x→b= .string y→False)
  (h3:∀k x k' y,a= .float k x→b= .float k' y→False) (h4:∀k x y k' z u,a= .complex k x y→b= .complex k' z u→False):
  binOp .eql t a b=(do pure (.bool (←Op.equal t a b)))∧binOp .neq t a b=(do pure (.bool (!(←Op.equal t a b)))):=by
 constructor
 ·unfold binOp
  split<;>first|rfl|(exfalso;simp_all;done)|(exfalso;first|exact h1 _ _ _ _ rfl rfl|exact h2 _ _ rfl rfl|exact h3 _ _ _ _ rfl rfl|exact h4 _ _ _ _ _ _ rfl rfl)|skip
 ·unfold binOp
  split<;>first|rfl|(exfalso;simp_all;done)|(exfalso;first|exact h1 _ _ _ _ rfl rfl|exact h2 _ _ rfl rfl|exact h3 _ _ _ _ rfl rfl|exact h4 _ _ _ _ _ _ rfl rfl)|skip
theorem c3Z{op:BinOp}{t:TypeId}{x y:Operand}{a b:AV}{va vb:Value}{r:AV}(hg:a0j P op t x y a b=true)(h:a9Y P op t a b=some r)
  (ha:rel ρ a va) (hb:rel ρ b vb) (w:World):∃v,(do eqGuard op t x y va vb;binOp op t va vb).run P w= .ok v w∧rel ρ r v:=by
 unfold a9Y at h
 split at h
 ·rename_i k m k' n
  simp only[rel]at ha hb;subst ha hb
  have hgd:(eqGuard op t x y (.int k m) (.int k' n)).run P w= .ok () w:=a7t (fun e=>by cases e) (fun _ _ e=>by cases e) w
  simp only[Sem.run_bind,hgd,Result.andThen_ok]
  split at h
  ·split at h
   ·cases h
   ·rename_i hy;cases h
    exact⟨.int k (k.wrap (m*2^(min n.toNat k.bits))),by simp only[binOp,Op.shift];rw[if_neg hy];rfl,by simp only[rel]⟩
  ·split at h
   ·cases h
   ·rename_i hy;cases h
    exact⟨.int k (m.fdiv (2^(min n.toNat k.bits))),by simp only[binOp,Op.shift];rw[if_neg hy];rfl,by simp only[rel]⟩
  ·split at h
   ·rename_i e;subst e
    exact b8q h t w
   ·cases h
 ·rename_i s1 s2
  simp only[rel]at ha hb;subst ha hb
  have hgd:(eqGuard op t x y (.string ⟨s1.toArray⟩) (.string ⟨s2.toArray⟩)).run P w= .ok () w:=a7t (fun e=>by cases e) (fun _ _ e=>by cases e) w
  simp only[Sem.run_bind,hgd,Result.andThen_ok]
  exact b7X h t w
 ·rename_i hi hs
  have key:∀ {e:Bool},eqA P Op.maxDepth t a b=some e→op= .eql∨op= .neq→
    (binOp .eql t va vb).run P w= .ok (.bool e) w∧(binOp .neq t va vb).run P w= .ok (.bool !e) w∧(eqGuard op t x y va vb).run P w= .ok () w:=by
   intro e he hop
   obtain⟨n1,n2⟩:=b6N he
   have hr:(Op.equal t va vb).run P w= .ok e w:=b3f _ _ _ _ _ _ _ he ha hb w
   have hb2:=c5U (t:=t) (a:=va) (b:=vb)
    (fun k m k' n e1 e2=>by
     subst e1 e2
     cases a<;>simp[rel]at ha<;>try (exact(n1 _ rfl).elim)
     cases b<;>simp[rel]at hb<;>try (exact(n2 _ rfl).elim)
     exact hi _ _ _ _ rfl rfl)
    (fun m n e1 e2=>by
     subst e1 e2
     cases a<;>simp[rel]at ha<;>try (exact(n1 _ rfl).elim)
     cases b<;>simp[rel]at hb<;>try (exact(n2 _ rfl).elim)
     exact hs _ _ rfl rfl)
    (fun k m k' n e1 e2=>by
     subst e1 e2
     cases a<;>simp[rel]at ha<;>try (exact(n1 _ rfl).elim))
    (fun k m p k' n q e1 e2=>by
     subst e1 e2
     cases a<;>simp[rel]at ha<;>try (exact(n1 _ rfl).elim))
   refine⟨?_, ?_,b5D hop hg he ha hb w⟩
   ·rw[hb2.1];simp[hr]
   ·rw[hb2.2];simp[hr]
  split at h
  ·simp only[Option.map_eq_some_iff]at h
   obtain⟨e,he,rfl⟩:=h
   obtain⟨h1,_,h3⟩:=key he (.inl rfl)
   exact⟨.bool e,by simp only[Sem.run_bind,h3,Result.andThen_ok,h1],by simp only[rel]⟩
  ·simp only[Option.map_eq_some_iff]at h
   obtain⟨e,he,rfl⟩:=h
   obtain⟨_,h2,h3⟩:=key he (.inr rfl)
   exact⟨.bool (!e),by simp only[Sem.run_bind,h3,Result.andThen_ok,h2],by simp only[rel]⟩
  ·cases h
theorem c5E{op:UnOp}{a:AV}{va:Value}{r:AV}(h:unA op a=some r)(ha:rel ρ a va)(w:World):∃v,(Op.unary op va).run P w= .ok v w∧rel ρ r v:=by
 unfold unA at h
 split at h
 ·simp only[rel]at ha;subst ha;cases h;exact⟨_,rfl,by simp only[rel]⟩
 ·simp only[rel]at ha;subst ha;cases h;exact⟨_,rfl,by simp only[rel]⟩
 ·simp only[rel]at ha;subst ha;cases h;exact⟨_,rfl,by simp only[rel]⟩
 ·cases h
end
end
end Go.Am
end
