/-
  TransferRisesSaid: part Qab of its proof.
-/
import Derived.Test.YtdkidgkiplcggaaGreatQaa
import Derived.Laws.Sem
import Derived.Laws.Cells
import GoSem.Dispatch
import Derived.Laws.StructEq
import Derived.Lib.SlicesS
set_option linter.unusedVariables false
set_option linter.unusedSimpArgs false
set_option maxRecDepth 100000
section
namespace Go.Am
section
def b2j:L0→Bool
 | .cells _ wr _=>wr
 | .map _ _=>true
 | .iter .. =>true
def a3h:L0→Nat
 | .cells cs _ _=>cs.length
 | .map _ _=>0
 | .iter .. =>0
def a2k(ρ:B2):List (AV×AV×Nat)→List MapEntry→Prop
 | [],l=>l=[]
 |(k,v,n)::es,l=>∃e r,l=e::r∧rel ρ k e.key∧rel ρ v e.val∧e.born=n∧a2k ρ es r
def c2U(ρ:B2)(w:World)(l:Loc):L0→Prop
 | .cells cs wr _=>∃arr el lo hi,w.heap[l.blk]? =some (.cells arr el (lo,hi))∧arr.size=l.n∧l.d+cs.length≤l.n∧
   s8 ρ cs ((arr.toList.drop l.d).take cs.length)∧(wr=true→lo=hi∨l.n≤lo)
 | .map es clock=>∃mes,w.heap[l.blk]? =some (.map mes clock)∧a2k ρ es mes.toList
 | .iter m since seen last=>l.d=0∧∃lm,ρ m=some lm∧w.heap[l.blk]? =some (.mapIter (some lm.blk) since seen.toArray last)
structure G3 (E:j2) (w0:World) (H:AHeap) (w:World) (ρ:B2):Prop where
 size:w0.heap.size≤w.heap.size
 old:∀b,b<w0.heap.size→w.heap[b]? =w0.heap[b]?
 env:∀b cs,E b=some cs→b<w0.heap.size∧∃arr el fr,w0.heap[b]? =some (.cells arr el fr)∧s8 (fun _=>none) cs arr.toList
 side:w.os=w0.os∧w.output=w0.output
 objs:∀k o,H.get k=some o→∃l,ρ k=some l∧w0.heap.size≤l.blk∧c2U ρ w l o
 apart:∀k k' o o' l l',H.get k=some o→H.get k'=some o'→ρ k=some l→ρ k'=some l'→k≠k'→l.blk=l'.blk→k∈A5 o'∨k'∈A5 o
 pres:∀k o,H.get k=some o→∀p∈A5 o,p≠k∧(ρ p).isSome
 kin:∀k p o op l lp,H.get k=some o→p∈A5 o→H.get p=some op→ρ k=some l→ρ p=some lp→b2j op=false∧(lp.blk=l.blk→lp.d+a3h op≤l.d+a3h o)
def A9(w:World)(b:Nat)(o:Obj):World:= { w with heap:=w.heap.setIfInBounds b o }
section
variable{E:j2}{w0:World}{H:AHeap}{w:World}{ρ ρ':B2}
theorem c8E(h:Ext ρ ρ'):∀ {es:List (AV×AV×Nat)} {l:List MapEntry},a2k ρ es l→a2k ρ' es l
 | [],_,r=>r
 |(_,_,_)::_,_,⟨e,r,h1,h2,h3,h4,h5⟩=>⟨e,r,h1,c1v h _ _ h2,c1v h _ _ h3,h4,c8E h h5⟩
theorem b3s(h:Ext ρ ρ'){l:Loc}{o:L0}{w:World}(r:c2U ρ w l o):c2U ρ' w l o:=by
 cases o with
 |cells cs wr pre=>obtain⟨arr,el,lo,hi,h1,h2,h3,h4,h5⟩:=r;exact⟨arr,el,lo,hi,h1,h2,h3,Y4 h _ _ h4,h5⟩
 |map es clock=>obtain⟨mes,h1,h2⟩:=r;exact⟨mes,h1,c8E h h2⟩
 |iter m since seen last=>obtain⟨h0,lm,h1,h2⟩:=r;exact⟨h0,lm,h _ _ h1,h2⟩
theorem P9{l:Loc}{o:L0}{w w':World}(r:c2U ρ w l o)(e:w'.heap[l.blk]? =w.heap[l.blk]?):c2U ρ w' l o:=by
 cases o<;>simp only[c2U]at r ⊢ <;>rw[e]<;>exact r
theorem a3A{l:Loc}{o:L0}{w:World}(r:c2U ρ w l o):l.blk<w.heap.size:=by
 cases o with
 |cells cs wr pre=>obtain⟨arr,el,lo,hi,h1,_⟩:=r;exact(Array.getElem?_eq_some_iff.1 h1).1
 |map es clock=>obtain⟨mes,h1,_⟩:=r;exact(Array.getElem?_eq_some_iff.1 h1).1
 |iter m since seen last=>obtain⟨_,_,_,h1⟩:=r;exact(Array.getElem?_eq_some_iff.1 h1).1
theorem G3.cells(R:G3 E w0 H w ρ){o:Id}{cs:List AV}(h:cellsOf E H o=some cs):
  ∃b d arr el fr,J1 ρ o=some (b,d)∧w.heap[b]? =some (.cells arr el fr)∧d+cs.length≤arr.size∧s8 ρ cs ((arr.toList.drop d).take cs.length):=by
 cases o with
 |old b=>
  obtain⟨hb,arr,el,fr,h1,h2⟩:=R.env b cs h
  have hl:=A8 h2
  refine⟨b,0,arr,el,fr,rfl,by rw[R.old b hb,h1],by simp[hl], ?_⟩
  simp only[List.drop_zero]
  rw[List.take_of_length_le (by omega)]
  exact Y4 (fun _ _ e=>by cases e) _ _ h2
 |new k=>
  simp only[cellsOf]at h
  split at h
  ·rename_i cs' wr pre hk
   cases h
   obtain⟨l,hl,_,arr,el,lo,hi,h1,h2,h3,h4,_⟩:=R.objs k _ hk
   exact⟨l.blk,l.d,arr,el,(lo,hi),by simp[J1,hl],h1,by omega,h4⟩
  ·cases h
theorem Addr.add_plain(b o n:Nat):(⟨b,o,none⟩:Addr).add n=⟨b,o+n,none⟩:=by unfold Addr.add;split<;>simp_all
theorem a7P{b i:Nat}{arr:Array Value}{el:TypeId}{fr:Nat×Nat}(h:w.heap[b]? =some (.cells arr el fr)):
  w.cell? ⟨b,i,none⟩=arr[i]? :=by simp[World.cell?,h]
theorem b4v{b i:Nat}{arr:Array Value}{el:TypeId}{lo hi:Nat}(h:w.heap[b]? =some (.cells arr el (lo,hi))):
  w.frozen? ⟨b,i,none⟩=(decide (lo≤i)&&decide (i<hi)):=by simp[World.frozen?,h]
theorem c4U{b i:Nat}{v:Value}{arr:Array Value}{el:TypeId}{fr:Nat×Nat}(h:w.heap[b]? =some (.cells arr el fr)):
  w.setCell ⟨b,i,none⟩ v=A9 w b (.cells (arr.setIfInBounds i v) el fr):=by
 obtain⟨hb,hv⟩:=Array.getElem?_eq_some_iff.1 h
 cases w with
 |mk heap tape drawn os output=>
  simp only[World.setCell,A9,World.mk.injEq,and_true]
  apply Array.ext_getElem?
  intro j
  simp only[Array.getElem?_modify,Array.getElem?_setIfInBounds]
  split
  ·rename_i e;subst e
   simp only at hb h
   rw[h];rfl
  ·rfl
theorem y8(b j:Nat)(o:Obj)(hb:b<w.heap.size):(A9 w b o).heap[j]? =if b=j then some o else w.heap[j]? :=by
 simp only[A9,Array.getElem?_setIfInBounds,hb,if_true]
theorem a2n(b:Nat)(o:Obj):(A9 w b o).heap.size=w.heap.size:=by simp[A9]
theorem b6x(b:Nat)(o o':Obj):A9 (A9 w b o) b o'=A9 w b o':=by
 cases w;simp[A9]
theorem b5Z{α:Type}(l:List α)(d i n:Nat)(h:i<n):((l.drop d).take n)[i]? =l[d+i]? :=by
 rw[List.getElem?_take,if_pos h,List.getElem?_drop]
theorem G3.load(R:G3 E w0 H w ρ){o:Id}{i:Nat}{a:AV}(h:a6T E H o i=some a):
  ∃b d v,J1 ρ o=some (b,d)∧w.cell? ⟨b,d+i,none⟩=some v∧rel ρ a v:=by
 unfold a6T at h
 split at h
 ·rename_i cs hc
  obtain⟨b,d,arr,el,fr,h1,h2,h3,h4⟩:=R.cells hc
  obtain⟨v,hv,hr⟩:=a4P h4 i h
  have hi:i<cs.length:=(List.getElem?_eq_some_iff.1 h).1
  rw[b5Z _ _ _ _ hi]at hv
  exact⟨b,d,v,h1,by rw[a7P h2];simpa using hv,hr⟩
 ·cases h
theorem G3.loads(R:G3 E w0 H w ρ){P:Program}{o:Id}{i n:Nat}{as:List AV}(h:E4 E H o i n=some as):
  ∃b d vs,J1 ρ o=some (b,d)∧(∀w',w'.heap=w.heap→(loadCells ⟨b,d+i,none⟩ n).run P w'= .ok ⟨vs⟩ w')∧s8 ρ as vs∧as.length=n:=by
 unfold E4 at h
 split at h
 ·rename_i cs hc
  split at h
  ·rename_i hn
   cases h
   obtain⟨b,d,arr,el,fr,h1,h2,h3,h4⟩:=R.cells hc
   have hl:=A8 h4
   refine⟨b,d,(arr.toList.drop (d+i)).take n,h1,fun w' hw=> ?_, ?_,by simp;omega⟩
   ·have h2:w'.heap[b]? =some (.cells arr el fr):=by rw[hw];exact h2
    have hlen:((arr.toList.drop (d+i)).take n).length=n:=by simp;omega
    have:=run_loadCells_list (P:=P) w' ⟨b,d+i,none⟩ ((arr.toList.drop (d+i)).take n) (fun j v hj=>by
     have hjn:j<n:=by have:=(List.getElem?_eq_some_iff.1 hj).1;omega
     rw[Addr.add_plain,a7P h2]
     rw[b5Z _ _ _ _ hjn]at hj
     simpa using hj)
    rw[hlen]at this
    rw[this]
   ·have:=a8Z (b9b h4 i) n
    rw[List.drop_take,List.drop_drop,List.take_take,Nat.min_eq_left (by omega)]at this
    exact this
  ·cases h
 ·cases h
def E9:Array Value→Nat→List Value→Array Value
 |a,_,[]=>a
 |a,i,v::vs=>E9 (a.setIfInBounds i v) (i+1) vs
theorem N9:∀(vs:List Value) (a:Array Value) (i:Nat),(E9 a i vs).size=a.size
 | [],_,_=>rfl
 |v::vs,a,i=>by rw[E9,N9 vs];simp
theorem a1H:∀(vs cs:List AV) (i:Nat),(B5 cs i vs).length=cs.length
 | [],_,_=>rfl
 |v::vs,cs,i=>by rw[B5,a1H vs];simp
theorem b2h{a:AV}{v:Value}(h:rel ρ a v)(hs:s0 a=true):v.oneCell'=true:=by
 have:=c9J h hs
 cases v<;>simp_all [Value.oneCell']
theorem a1q{P:Program}(b off:Nat)(el:TypeId)(lo hi:Nat):∀(vs:List Value) (i:Nat) (w:World) (arr:Array Value),
  w.heap[b]? =some (.cells arr el (lo,hi))→off+i+vs.length≤arr.size→(lo=hi∨arr.size≤lo)→(∀v∈vs,v.oneCell'=true)→
  (storeCells ⟨b,off,none⟩ vs i).run P w= .ok () (A9 w b (.cells (E9 arr (off+i) vs) el (lo,hi)))
 | [],i,w,arr,h,_,_,_=>by
  simp only[storeCells,Sem.run_pure,E9]
  congr 1
  obtain⟨hb,hv⟩:=Array.getElem?_eq_some_iff.1 h
  cases w with
  |mk heap tape drawn os output=>
   simp only[A9,World.mk.injEq,and_true]
   apply Array.ext_getElem?
   intro j
   simp only[Array.getElem?_setIfInBounds]
   split
   ·rename_i e;subst e
    simp only at hb h
    rw[h]
   ·rfl
 |v::vs,i,w,arr,h,hn,hf,hv=>by
  have hb:=(Array.getElem?_eq_some_iff.1 h).1
  simp only[List.length_cons]at hn
  have hc:w.cell? ⟨b,off+i,none⟩=some (arr[off+i]'(by omega)):=by rw[a7P h];simp
  have hfz:w.frozen? ⟨b,off+i,none⟩=false:=by
   rw[b4v h]
   rcases hf with e|e
   ·subst e;simp only[Bool.and_eq_false_iff,decide_eq_false_iff_not];omega
   ·simp only[Bool.and_eq_false_iff,decide_eq_false_iff_not];omega
  have hst:(store ((⟨b,off,none⟩:Addr).add i) v).run P w= .ok () (A9 w b (.cells (arr.setIfInBounds (off+i) v) el (lo,hi))):=by
   rw[Addr.add_plain,run_store P w _ v _ (hv v (by simp)),hc]
   simp only[hfz,c4U h]
   rfl
  rw[storeCells]
  simp only[Sem.run_bind,hst,Result.andThen_ok]
  rw[a1q b off el lo hi vs (i+1) _ (arr.setIfInBounds (off+i) v) (by rw[y8 _ _ _ hb];simp) (by simp;omega) (by simpa using hf) (fun u hu=>hv u (by simp[hu])),b6x]
  rfl
theorem a5G:∀ {as:List AV} {vs:List Value} {cs:List AV} {arr:Array Value} {d:Nat} (i:Nat),s8 ρ as vs→i+as.length≤cs.length→
  s8 ρ cs ((arr.toList.drop d).take cs.length)→s8 ρ (B5 cs i as) (((E9 arr (d+i) vs).toList.drop d).take cs.length)
 | [],vs,cs,arr,d,i,h,_,hc=>by rw[r8]at h;subst h;exact hc
 |a::as,[],_,_,_,_,h,_,_=>(A6 h).elim
 |a::as,v::vs,cs,arr,d,i,h,hn,hc=>by
  rw[o9]at h
  simp only[List.length_cons]at hn
  have h1:s8 ρ (cs.set i a) (((arr.setIfInBounds (d+i) v).toList.drop d).take (cs.set i a).length):=by
   have:=c8r hc i h.1
   rw[List.length_set,Array.toList_setIfInBounds,List.drop_set,if_neg (by omega),List.take_set,show d+i - d=i by omega]
   exact this
  have:=a5G (d:=d) (i+1) h.2 (by simp;omega) h1
  rw[List.length_set]at this
  exact this
def upd(ρ:B2)(k:Nat)(l:Loc):B2:=fun j=>if j=k then some l else ρ j
theorem H3(k:Nat)(l:Loc):upd ρ k l k=some l:=by simp[upd]
theorem C9{k j:Nat}(l:Loc)(h:j≠k):upd ρ k l j=ρ j:=by simp[upd,h]
theorem a4t{k:Nat}(l:Loc)(h:ρ k=none):Ext ρ (upd ρ k l):=by
 intro j m e
 rw[C9]
 ·exact e
 ·rintro rfl;rw[h]at e;cases e
theorem G3.heap_eq(R:G3 E w0 H w ρ){w':World}(h:w'.heap=w.heap)(h2:w'.os=w.os∧w'.output=w.output:=by exact⟨rfl,rfl⟩):G3 E w0 H w' ρ where
 size:=by rw[h];exact R.size
 old:=by rw[h];exact R.old
 env:=R.env
 side:=⟨h2.1.trans R.side.1,h2.2.trans R.side.2⟩
 objs k o e:=let ⟨l,h1,h2,h3⟩:=R.objs k o e;⟨l,h1,h2,P9 h3 (by rw[h])⟩
 apart:=R.apart
 pres:=R.pres
 kin:=R.kin
theorem G3.log_eq(R:G3 E w0 H w ρ){H':AHeap}(h:H'.objs=H.objs):G3 E w0 H' w ρ:=by
 have e:∀k,H'.get k=H.get k:=fun k=>by simp[AHeap.get,h]
 exact⟨R.size,R.old,R.env,R.side,fun k o hk=>R.objs k o (by rw[←e];exact hk),fun k k' o o' l l' h1 h2=>R.apart k k' o o' l l' (by rw[←e];exact h1) (by rw[←e];exact h2),
  fun k o hk=>R.pres k o (by rw[←e];exact hk),fun k p o op l lp h1 h2 h3=>R.kin k p o op l lp (by rw[←e];exact h1) h2 (by rw[←e];exact h3)⟩
theorem G3.get_none(R:G3 E w0 H w ρ){k:Nat}(h:ρ k=none):H.get k=none:=by
 cases e:H.get k with
 |none=>rfl
 |some o=>obtain⟨l,hl,_⟩:=R.objs k o e;rw[h]at hl;cases hl
theorem G3.less(R:G3 E w0 H w ρ){H':AHeap}(h:∀k o,H'.get k=some o→∃o',H.get k=some o'∧(o'=o∨
   ∃cs wr pre m pre',o'= .cells cs wr pre∧o= .cells (cs.take m) false pre'∧(pre'=pre∧cs.length≤m∨pre'=[]∧∀p∈pre,H'.get p=none)))
  :G3 E w0 H' w ρ:=by
 have inv:∀k o,H'.get k=some o→∃o',H.get k=some o'∧a3h o≤a3h o'∧(b2j o=true→b2j o'=true)∧(∀p∈A5 o,p∈A5 o')∧
   ((∀p∈A5 o',p∈A5 o)∧a3h o=a3h o'∨A5 o=[]∧∀p∈A5 o',H'.get p=none):=by
  intro k o hk
  obtain⟨o',h1,h2⟩:=h k o hk
  refine⟨o',h1, ?_⟩
  rcases h2 with rfl|⟨cs,wr,pre,m,pre',rfl,rfl,h3⟩
  ·exact⟨Nat.le_refl _,id,fun _ h=>h, .inl ⟨fun _ h=>h,rfl⟩⟩
  ·rcases h3 with ⟨rfl,hm⟩|⟨rfl,hp⟩
   ·refine⟨by simp[a3h];omega,by simp[b2j],fun _ h=>h, .inl ⟨fun _ h=>h,by simp[a3h];omega⟩⟩
   ·exact⟨by simp[a3h];omega,by simp[b2j],by simp[A5], .inr ⟨rfl,hp⟩⟩
 refine⟨R.size,R.old,R.env,R.side, ?_, ?_, ?_, ?_⟩
 ·intro k o hk
  obtain⟨o',h1,h2⟩:=h k o hk
  obtain⟨l,hl,hs,ho⟩:=R.objs k o' h1
  refine⟨l,hl,hs, ?_⟩
  rcases h2 with rfl|⟨cs,wr,pre,m,pre',rfl,rfl,_⟩
  ·exact ho
  ·obtain⟨arr,el,lo,hi,g1,g2,g3,g4,_⟩:=ho
   refine⟨arr,el,lo,hi,g1,g2,by simp;omega, ?_,by simp⟩
   have:=a8Z g4 m
   rw[List.take_take]at this
   rwa [List.length_take]
 ·intro k k' o o' l l' h1 h2 h3 h4 h5 h6
  obtain⟨p,hp,_,_,_,hp4⟩:=inv k o h1
  obtain⟨p',hp',_,_,_,hp4'⟩:=inv k' o' h2
  rcases R.apart k k' p p' l l' hp hp' h3 h4 h5 h6 with e|e
  ·rcases hp4' with ⟨g,_⟩|⟨_,g⟩
   ·exact .inl (g _ e)
   ·rw[g _ e]at h1;cases h1
  ·rcases hp4 with ⟨g,_⟩|⟨_,g⟩
   ·exact .inr (g _ e)
   ·rw[g _ e]at h2;cases h2
 ·intro k o hk p hp
  obtain⟨o',h1,_,_,h4,_⟩:=inv k o hk
  exact R.pres k o' h1 p (h4 p hp)
 ·intro k p o op l lp h1 h2 h3 h4 h5
  obtain⟨o',g1,g2,g3,g4,g5⟩:=inv k o h1
  obtain⟨op',k1,k2,k3,k4,k5⟩:=inv p op h3
  obtain⟨a,b⟩:=R.kin k p o' op' l lp g1 (g4 p h2) k1 h4 h5
  refine⟨?_, ?_⟩
  ·cases e:b2j op with
   |false=>rfl
   |true=>rw[k3 e]at a;cases a
  ·intro e
   have:=b e
   rcases g5 with ⟨_,g⟩|⟨g,_⟩
   ·omega
   ·rw[g]at h2;cases h2
theorem G3.new(R:G3 E w0 H w ρ)(hk:ρ H.next=none){cs:List AV}{arr:Array Value}{el:TypeId}{lo hi:Nat}{wr:Bool}{pre:List Nat}
  (hl:cs.length≤arr.size) (hr:s8 ρ cs (arr.toList.take cs.length)) (hf:wr=true→lo=hi∨arr.size≤lo)
  (hp:∀p∈pre,(ρ p).isSome∧∀op,H.get p=some op→b2j op=false):
  G3 E w0 (H.new (.cells cs wr pre)) { w with heap:=w.heap.push (.cells arr el (lo,hi)) } (upd ρ H.next ⟨w.heap.size,0,arr.size⟩):=by
 have hx:=a4t (ρ:=ρ) ⟨w.heap.size,0,arr.size⟩ hk
 have hn:=R.get_none hk
 have hg:∀k o,(H.new (.cells cs wr pre)).get k=some o→(k=H.next∧o= .cells cs wr pre)∨(k≠H.next∧H.get k=some o):=by
  intro k o e
  rw[AHeap.get_new]at e
  split at e
  ·rename_i h;cases e;exact .inl ⟨h.symm,rfl⟩
  ·rename_i h;exact .inr ⟨fun h'=>h h'.symm,e⟩
 have hpush:∀b,b<w.heap.size→(w.heap.push (.cells arr el (lo,hi)))[b]? =w.heap[b]? :=by
  intro b hb;rw[Array.getElem?_push];split
  ·omega
  ·rfl
 refine⟨by have:=R.size;simp;omega, ?_,R.env,R.side, ?_, ?_, ?_, ?_⟩
 ·intro b hb;rw[hpush b (by have:=R.size;omega)];exact R.old b hb
 ·intro k o e
  rcases hg k o e with ⟨rfl,rfl⟩|⟨h1,h2⟩
  ·refine⟨_,H3 _ _,R.size,arr,el,lo,hi,by simp,rfl,by simpa using hl, ?_,hf⟩
   simp only[List.drop_zero]
   exact Y4 hx _ _ hr
  ·obtain⟨l,hl,hs,ho⟩:=R.objs k o h2
   exact⟨l,by rw[C9 _ h1];exact hl,hs,b3s hx (P9 ho (hpush _ (a3A ho)))⟩
 ·intro k k' o o' l l' h1 h2 h3 h4 h5 h6
  rcases hg k o h1 with ⟨rfl,rfl⟩|⟨g1,g2⟩<;>rcases hg k' o' h2 with ⟨rfl,rfl⟩|⟨g1',g2'⟩
  ·exact absurd rfl h5
  ·rw[H3]at h3;rw[C9 _ g1']at h4
   obtain⟨m,hm,_,ho⟩:=R.objs k' o' g2'
   rw[h4]at hm;cases hm;cases h3
   have:=a3A ho
   simp only at h6;omega
  ·rw[H3]at h4;rw[C9 _ g1]at h3
   obtain⟨m,hm,_,ho⟩:=R.objs k o g2
   rw[h3]at hm;cases hm;cases h4
   have:=a3A ho
   simp only at h6;omega
  ·rw[C9 _ g1]at h3;rw[C9 _ g1']at h4
   exact R.apart k k' o o' l l' g2 g2' h3 h4 h5 h6
 ·intro k o e p hpp
  rcases hg k o e with ⟨rfl,rfl⟩|⟨h1,h2⟩
  ·have:=(hp p hpp).1
   refine⟨fun e=> ?_, ?_⟩
   ·subst e;rw[hk]at this;cases this
   ·obtain⟨m,hm⟩:=Option.isSome_iff_exists.1 this
    rw[hx _ _ hm];rfl
  ·obtain⟨a,b⟩:=R.pres k o h2 p hpp
   obtain⟨m,hm⟩:=Option.isSome_iff_exists.1 b
   exact⟨a,by rw[hx _ _ hm];rfl⟩
 ·intro k p o op l lp h1 h2 h3 h4 h5
  rcases hg k o h1 with ⟨rfl,rfl⟩|⟨g1,g2⟩
  ·have hpn:p≠H.next:=by
    rintro rfl
    have:=(hp _ h2).1
    rw[hk]at this;cases this
   rcases hg p op h3 with ⟨e,_⟩|⟨_,g2'⟩
   ·exact absurd e hpn
   ·refine⟨(hp p h2).2 op g2',fun e=> ?_⟩
    rw[H3]at h4;rw[C9 _ hpn]at h5
    obtain⟨m,hm,_,ho⟩:=R.objs p op g2'
    rw[h5]at hm;cases hm;cases h4
    have:=a3A ho
    simp only at e;omega
  ·rcases hg p op h3 with ⟨rfl,_⟩|⟨g1',g2'⟩
   ·have:=(R.pres k o g2 _ h2).2
    rw[hk]at this;cases this
   ·rw[C9 _ g1]at h4;rw[C9 _ g1']at h5
    exact R.kin k p o op l lp g2 h2 g2' h4 h5
theorem G3.alone(R:G3 E w0 H w ρ){k j:Nat}{o oj:L0}{l lj:Loc}(hk:H.get k=some o)(hw:b2j o=true)(hl:ρ k=some l)
  (hj:H.get j=some oj) (hlj:ρ j=some lj) (hne:j≠k) (hb:lj.blk=l.blk):j∈A5 o:=by
 rcases R.apart j k oj o lj l hj hk hlj hl hne hb with e|e
 ·exact e
 ·have:=(R.kin j k oj o lj l hj e hk hlj hl).1
  rw[hw]at this;cases this
theorem G3.write(R:G3 E w0 H w ρ){k:Nat}{cs:List AV}{pre:List Nat}{l:Loc}{arr arr':Array Value}{el:TypeId}{lo hi:Nat}{cs':List AV}
  (hk:H.get k=some (.cells cs true pre)) (hl:ρ k=some l) (hb:w.heap[l.blk]? =some (.cells arr el (lo,hi)))
  (hs:arr'.size=arr.size) (hc:cs'.length=cs.length) (hr:s8 ρ cs' ((arr'.toList.drop l.d).take cs'.length)):
  G3 E w0 ((H.killAll pre).set k (.cells cs' true [])) (A9 w l.blk (.cells arr' el (lo,hi))) ρ:=by
 have hblk:=(Array.getElem?_eq_some_iff.1 hb).1
 obtain⟨l',hl',hbase,arr0,el0,lo0,hi0,e0,e1,e2,e3,e4⟩:=R.objs k _ hk
 rw[hl]at hl';cases hl'
 rw[hb]at e0;cases e0
 have hg:∀j o,((H.killAll pre).set k (.cells cs' true [])).get j=some o→(j=k∧o= .cells cs' true [])∨(j≠k∧j ∉ pre∧H.get j=some o):=by
  intro j o e
  rw[AHeap.get_set]at e
  split at e
  ·rename_i h;cases e;exact .inl ⟨h.symm,rfl⟩
  ·rename_i h
   rw[AHeap.get_killAll]at e
   split at e
   ·cases e
   ·rename_i h';exact .inr ⟨fun h'=>h h'.symm,h',e⟩
 have hoth:∀j o lj,j≠k→j ∉ pre→H.get j=some o→ρ j=some lj→lj.blk≠l.blk:=fun j o lj h1 h2 h3 h4 h5=>
  h2 (R.alone hk rfl hl h3 h4 h1 h5)
 refine⟨by rw[a2n];exact R.size, ?_,R.env,R.side, ?_, ?_, ?_, ?_⟩
 ·intro b hbb;rw[y8 _ _ _ hblk,if_neg (by omega)];exact R.old b hbb
 ·intro j o e
  rcases hg j o e with ⟨rfl,rfl⟩|⟨h1,h2,h3⟩
  ·exact⟨l,hl,hbase,arr',el,lo,hi,by rw[y8 _ _ _ hblk,if_pos rfl],by omega,by omega,hr,e4⟩
  ·obtain⟨lj,hlj,hsj,hoj⟩:=R.objs j o h3
   exact⟨lj,hlj,hsj,P9 hoj (by rw[y8 _ _ _ hblk,if_neg (fun e=>hoth j o lj h1 h2 h3 hlj e.symm)])⟩
 ·intro i j oi oj li lj h1 h2 h3 h4 h5 h6
  rcases hg i oi h1 with ⟨rfl,rfl⟩|⟨g1,g2,g3⟩<;>rcases hg j oj h2 with ⟨rfl,rfl⟩|⟨g1',g2',g3'⟩
  ·exact absurd rfl h5
  ·rw[hl]at h3;cases h3;exact absurd h6.symm (hoth j oj lj g1' g2' g3' h4)
  ·rw[hl]at h4;cases h4;exact absurd h6 (hoth i oi li g1 g2 g3 h3)
  ·exact R.apart i j oi oj li lj g3 g3' h3 h4 h5 h6
 ·intro j o e p hp
  rcases hg j o e with ⟨rfl,rfl⟩|⟨_,_,h3⟩
  ·simp[A5]at hp
  ·exact R.pres j o h3 p hp
 ·intro j p o op lj lp h1 h2 h3 h4 h5
  rcases hg j o h1 with ⟨rfl,rfl⟩|⟨g1,g2,g3⟩
  ·simp[A5]at h2
  ·rcases hg p op h3 with ⟨rfl,rfl⟩|⟨g1',g2',g3'⟩
   ·have:=(R.kin j p o _ lj lp g3 h2 hk h4 h5).1
    simp[b2j]at this
   ·exact R.kin j p o op lj lp g3 h2 g3' h4 h5
theorem G3.stores(R:G3 E w0 H w ρ){P:Program}{o:Id}{i:Nat}{as:List AV}{vs:List Value}{H':AHeap}(h:B6 H o i as=some H')(hv:s8 ρ as vs):
  (as=[]∧vs=[]∧H'=H)∨as≠[]∧∃b d w',J1 ρ o=some (b,d)∧(storeCells ⟨b,d+i,none⟩ vs).run P w= .ok () w'∧G3 E w0 H' w' ρ:=by
 unfold B6 at h
 split at h
 ·cases h;rw[r8]at hv;exact .inl ⟨rfl,hv,rfl⟩
 ·rename_i hne
  split at h
  ·cases h
  ·rename_i k
   split at h
   ·rename_i cs pre hk
    split at h
    ·rename_i hc
     cases h
     simp only[Bool.and_eq_true,decide_eq_true_eq]at hc
     obtain⟨hn,hall⟩:=hc
     obtain⟨l,hl,hs,arr,el,lo,hi,e0,e1,e2,e3,e4⟩:=R.objs k _ hk
     have hlen:=A8 hv
     refine .inr ⟨hne,l.blk,l.d,_,by simp[J1,hl],a1q l.blk (l.d+i) el lo hi vs 0 w arr e0 (by omega) (by rw[e1];exact e4 rfl)
      (c3g (P:=fun a=>s0 a=true) (fun a v h1 h2=>b2h h1 h2) hv (by simpa using hall)), ?_⟩
     rw[Nat.add_zero]
     exact R.write hk hl e0 (N9 _ _ _) (a1H _ _ _) (by rw[a1H];exact a5G i hv hn e3)
    ·cases h
   ·cases h
end
end
section
section
variable{E:j2}{w0:World}{H:AHeap}{w:World}{ρ:B2}{P:Program}
theorem b0K:∀(vs:List Value) (arr:Array Value) (p:Nat),p+vs.length≤arr.size→
  (E9 arr p vs).toList=arr.toList.take p++vs++arr.toList.drop (p+vs.length)
 | [],arr,p,_=>by simp[E9]
 |v::vs,arr,p,h=>by
  simp only[List.length_cons]at h
  rw[E9,b0K vs _ (p+1) (by simp;omega)]
  simp only[Array.toList_setIfInBounds,List.length_cons]
  have hp:p<arr.toList.length:=by simp;omega
  rw[List.drop_set,if_pos (by omega),List.take_set,List.take_add_one,List.set_append_right _ _ (by rw[List.length_take];exact Nat.min_le_left _ _)]
  have hp':p<arr.size:=by simpa using hp
  have h0:p - min p arr.size=0:=by omega
  simp[hp',h0]
  rw[show p+1+vs.length=p+(vs.length+1) by omega]
theorem G3.growIn(R:G3 E w0 H w ρ){k:Nat}{cs:List AV}{pre K pre':List Nat}{l:Loc}{arr:Array Value}{el:TypeId}{lo hi i cut:Nat}{news:List AV}{vs:List Value}
  {Hs:AHeap} (hk:H.get k=some (.cells cs true pre)) (hl:ρ k=some l) (hn:ρ H.next=none) (hb:w.heap[l.blk]? =some (.cells arr el (lo,hi)))
  (hic:i≤cut) (hc:cut≤cs.length) (hv:s8 ρ news vs) (hroom:l.d+cut+news.length≤l.n)
  (hnext:Hs.next=H.next) (hHs:∀j,Hs.get j=if j=k then some (.cells (cs.take cut) false pre') else if j∈K then none else H.get j)
  (hK:(K=pre∧pre'=[])∨(K=[]∧pre'=pre∧cut=cs.length)):
  G3 E w0 (Hs.new (.cells ((cs.take cut).drop i++news) true (k::pre'))) (A9 w l.blk (.cells (E9 arr (l.d+cut) vs) el (lo,hi)))
   (upd ρ H.next ⟨l.blk,l.d+i,l.n⟩):=by
 have hblk:=(Array.getElem?_eq_some_iff.1 hb).1
 obtain⟨l',hl',hbase,arr0,el0,lo0,hi0,e0,e1,e2,e3,e4⟩:=R.objs k _ hk
 rw[hl]at hl';cases hl'
 rw[hb]at e0;cases e0
 have hlen:=A8 hv
 have hx:=a4t (ρ:=ρ) ⟨l.blk,l.d+i,l.n⟩ hn
 have hkn:k≠H.next:=by rintro rfl;rw[hn]at hl;cases hl
 have R1:G3 E w0 Hs w ρ:=R.less (by
  intro j o e
  rw[hHs]at e
  split at e
  ·rename_i h;subst h;cases e
   refine⟨_,hk, .inr ⟨cs,true,pre,cut,pre',rfl,rfl, ?_⟩⟩
   rcases hK with ⟨rfl,rfl⟩|⟨rfl,rfl,h⟩
   ·refine .inr ⟨rfl,fun p hp=> ?_⟩
    rw[hHs,if_neg (R.pres j _ hk p hp).1,if_pos hp]
   ·exact .inl ⟨rfl,by omega⟩
  ·split at e
   ·cases e
   ·exact⟨o,e, .inl rfl⟩)
 have htl:=b0K vs arr (l.d+cut) (by omega)
 have hrow:∀a n,a+n≤l.d+cut→((E9 arr (l.d+cut) vs).toList.drop a).take n=(arr.toList.drop a).take n:=by
  intro a n h
  rw[htl,List.append_assoc,List.drop_append_of_le_length (by simp;omega),List.take_append_of_le_length (by simp;omega),List.drop_take,List.take_take,
   Nat.min_eq_left (by omega)]
 have hsame:∀j oj lj,j≠k→Hs.get j=some oj→ρ j=some lj→lj.blk=l.blk→j∈pre'∧lj.d+a3h oj≤l.d+cut:=by
  intro j oj lj h1 h2 h3 h4
  rw[hHs,if_neg h1]at h2
  split at h2
  ·cases h2
  ·rename_i hnK
   have hm:j∈pre:=R.alone hk rfl hl h2 h3 h1 h4
   rcases hK with ⟨rfl,_⟩|⟨_,rfl,hcut⟩
   ·exact absurd hm hnK
   ·refine⟨hm, ?_⟩
    have:=(R.kin k j _ oj l lj hk hm h2 hl h3).2 h4
    simpa [a3h,hcut]using this
 have hg:∀j o,(Hs.new (.cells ((cs.take cut).drop i++news) true (k::pre'))).get j=some o→
   (j=H.next∧o= .cells ((cs.take cut).drop i++news) true (k::pre'))∨(j≠H.next∧Hs.get j=some o):=by
  intro j o e
  rw[AHeap.get_new]at e
  split at e
  ·rename_i h;cases e;exact .inl ⟨by rw[←h,hnext],rfl⟩
  ·rename_i h;exact .inr ⟨fun h'=>h (by rw[h',hnext]),e⟩
 have hsk:Hs.get k=some (.cells (cs.take cut) false pre'):=by rw[hHs,if_pos rfl]
 have hpre:∀p∈pre',p∈pre:=by
  intro p hp
  rcases hK with ⟨_,rfl⟩|⟨_,rfl,_⟩
  ·simp at hp
  ·exact hp
 refine⟨by rw[a2n];exact R.size, ?_,R.env,R.side, ?_, ?_, ?_, ?_⟩
 ·intro b hbb;rw[y8 _ _ _ hblk,if_neg (by omega)];exact R.old b hbb
 ·intro j o e
  rcases hg j o e with ⟨rfl,rfl⟩|⟨h1,h2⟩
  ·refine⟨_,H3 _ _,hbase,_,el,lo,_,by rw[y8 _ _ _ hblk,if_pos rfl],by rw[N9,e1], ?_, ?_,e4⟩
   ·simp;omega
   ·apply Y4 hx
    have hA:s8 ρ (cs.take cut) ((arr.toList.drop l.d).take cut):=by
     have:=a8Z e3 cut
     rwa [List.take_take,Nat.min_eq_left hc]at this
    have hB:=b9b (Z4 hA hv) i
    have hdl:i≤((arr.toList.drop l.d).take cut).length:=by simp;omega
    rw[List.drop_append_of_le_length (by simp;omega),List.drop_append_of_le_length hdl]at hB
    have:(((E9 arr (l.d+cut) vs).toList.drop (l.d+i)).take ((cs.take cut).drop i++news).length)=((arr.toList.drop l.d).take cut).drop i++vs:=by
     have hm:((cs.take cut).drop i++news).length=(cut - i)+vs.length:=by simp;omega
     rw[hm,htl,List.append_assoc,List.drop_append_of_le_length (by simp;omega),List.drop_take,List.drop_take,List.drop_drop,
      show l.d+cut - (l.d+i)=cut - i by omega]
     rw[←List.append_assoc,List.take_append_of_le_length (by simp;omega),List.take_of_length_le (by simp;omega)]
    rw[this]
    exact hB
  ·by_cases hjk:j=k
   ·subst hjk
    rw[hsk]at h2;cases h2
    refine⟨l,by rw[C9 _ h1];exact hl,hbase,_,el,lo,_,by rw[y8 _ _ _ hblk,if_pos rfl],by rw[N9,e1],by simp;omega, ?_,by simp⟩
    apply Y4 hx
    rw[hrow _ _ (by simp;omega)]
    have:=a8Z e3 cut
    have hcl:(cs.take cut).length=cut:=by simp;omega
    rw[hcl]
    rwa [List.take_take,Nat.min_eq_left hc]at this
   ·obtain⟨lj,hlj,hsj,hoj⟩:=R1.objs j o h2
    refine⟨lj,by rw[C9 _ h1];exact hlj,hsj,b3s hx ?_⟩
    by_cases hbb:lj.blk=l.blk
    ·obtain⟨_,hend⟩:=hsame j o lj hjk h2 hlj hbb
     cases o with
     |map es clock=>obtain⟨mes,g,_⟩:=hoj;rw[hbb,hb]at g;cases g
     |iter m since seen last=>obtain⟨_,_,_,g⟩:=hoj;rw[hbb,hb]at g;cases g
     |cells cj wj pj=>
      obtain⟨arr1,el1,lo1,hi1,g0,g1,g2,g3,g4⟩:=hoj
      rw[hbb,hb]at g0;cases g0
      refine⟨_,el,lo,_,by rw[hbb,y8 _ _ _ hblk,if_pos rfl],by rw[N9];exact g1,g2, ?_,g4⟩
      rw[hrow _ _ (by simpa [a3h]using hend)]
      exact g3
    ·exact P9 hoj (by rw[y8 _ _ _ hblk,if_neg (fun e=>hbb e.symm)])
 ·intro a b oa ob la lb h1 h2 h3 h4 h5 h6
  rcases hg a oa h1 with ⟨rfl,rfl⟩|⟨g1,g2⟩<;>rcases hg b ob h2 with ⟨rfl,rfl⟩|⟨g1',g2'⟩
  ·exact absurd rfl h5
  ·rw[H3]at h3;cases h3;rw[C9 _ g1']at h4
   right
   by_cases hbk:b=k
   ·simp[A5,hbk]
   ·simp only[A5,List.mem_cons];exact .inr (hsame b ob lb hbk g2' h4 h6.symm).1
  ·rw[H3]at h4;cases h4;rw[C9 _ g1]at h3
   left
   by_cases hak:a=k
   ·simp[A5,hak]
   ·simp only[A5,List.mem_cons];exact .inr (hsame a oa la hak g2 h3 h6).1
  ·rw[C9 _ g1]at h3;rw[C9 _ g1']at h4
   exact R1.apart a b oa ob la lb g2 g2' h3 h4 h5 h6
 ·intro j o e p hp
  rcases hg j o e with ⟨rfl,rfl⟩|⟨h1,h2⟩
  ·simp only[A5,List.mem_cons]at hp
   have hps:(ρ p).isSome:=by
    rcases hp with rfl|hp
    ·rw[hl];rfl
    ·exact(R.pres k _ hk p (hpre p hp)).2
   refine⟨fun e=> ?_, ?_⟩
   ·rw[e,hn]at hps;cases hps
   ·obtain⟨m,hm⟩:=Option.isSome_iff_exists.1 hps
    rw[hx _ _ hm];rfl
  ·obtain⟨a,b⟩:=R1.pres j o h2 p hp
   obtain⟨m,hm⟩:=Option.isSome_iff_exists.1 b
   exact⟨a,by rw[hx _ _ hm];rfl⟩
 ·intro j p o op lj lp h1 h2 h3 h4 h5
  rcases hg j o h1 with ⟨rfl,rfl⟩|⟨g1,g2⟩
  ·simp only[A5,List.mem_cons]at h2
   have hps:(ρ p).isSome:=by
    rcases h2 with rfl|hp
    ·rw[hl];rfl
    ·exact(R.pres k _ hk p (hpre p hp)).2
   have hpn:p≠H.next:=by rintro rfl;rw[hn]at hps;cases hps
   rcases hg p op h3 with ⟨e,_⟩|⟨_,g2'⟩
   ·exact absurd e hpn
   ·rw[H3]at h4;cases h4;rw[C9 _ hpn]at h5
    by_cases hpk:p=k
    ·subst hpk
     rw[hsk]at g2';cases g2'
     rw[hl]at h5;cases h5
     refine⟨rfl,fun _=> ?_⟩
     simp[a3h];omega
    ·have hp':p∈pre':=h2.resolve_left hpk
     have hp:p∈pre:=hpre p hp'
     have hgp:H.get p=some op:=by
      rw[hHs,if_neg hpk]at g2'
      split at g2'
      ·cases g2'
      ·exact g2'
     obtain⟨a,b⟩:=R.kin k p _ op l lp hk hp hgp hl h5
     refine⟨a,fun e=> ?_⟩
     have:=(hsame p op lp hpk g2' h5 e).2
     show lp.d+a3h op≤l.d+i+((cs.take cut).drop i++news).length
     simp only[List.length_append,List.length_drop,List.length_take]
     omega
  ·rcases hg p op h3 with ⟨rfl,_⟩|⟨g1',g2'⟩
   ·have:=(R1.pres j o g2 _ h2).2
    rw[hn]at this;cases this
   ·rw[C9 _ g1]at h4;rw[C9 _ g1']at h5
    exact R1.kin j p o op lj lp g2 h2 g2' h4 h5
end
end
section
section
variable{E:j2}{w0:World}{H:AHeap}{w:World}{ρ:B2}{P:Program}
theorem d8{t:TypeId}{d:TypeDesc}(h:P.underlying t=some d)(w:World):(underlying t).run P w= .ok d w:=by
 simp[underlying,h]
theorem B1{t:TypeId}{i:TypeInfo}(h:P.info? t=some i)(w:World):(typeInfo t).run P w= .ok i w:=by
 simp[typeInfo,h]
theorem D2{t:TypeId}{n:Nat}(h:D0 P t=some n)(w:World):(sizeOf t).run P w= .ok n w:=by
 unfold D0 at h
 cases e:P.info? t with
 |none=>rw[e]at h;cases h
 |some i=>rw[e]at h;cases h;simp[sizeOf,B1 e]
theorem a9N{t:TypeId}{b:Bool}(h:b0o P t=some b)(w:World):(isAgg t).run P w= .ok b w:=by
 unfold b0o at h
 split at h
 ·rename_i h1;cases h;simp[isAgg,d8 h1]
 ·rename_i h1;cases h;simp[isAgg,d8 h1]
 ·rename_i d h1 h2 h3
  cases h
  simp only[isAgg,Sem.run_bind,d8 h3,Result.andThen_ok]
  rfl
 ·cases h
theorem a4m{t:TypeId}{z:AV}(h:L6 P t=some z)(w:World):∃v,(zeroValue t).run P w= .ok v w∧rel ρ z v:=by
 unfold L6 at h
 split at h
 ·rename_i i hi
  cases e:i.zero with
  |none=>rw[e]at h;cases h
  |some v=>
   rw[e]at h;cases h
   exact⟨v,by simp[zeroValue,B1 hi,e],b8J v⟩
 ·cases h
theorem c4b{t:TypeId}{n:Nat}(h:b0r P t=some n):∃i,P.info? t=some i∧i.bytes=n:=by
 unfold b0r at h
 cases e:P.info? t with
 |none=>rw[e]at h;cases h
 |some i=>rw[e]at h;cases h;exact⟨i,rfl,rfl⟩
theorem a3Z{t e:TypeId}(h:a7E P t=some e):P.underlying t=some (.slice e):=by
 unfold a7E at h
 split at h
 ·rename_i h1;cases h;exact h1
 ·cases h
theorem a7k(R:G3 E w0 H w ρ){t:TypeId}{o:Id}{i:Nat}{a:AV}(h:L9 P E H t o i=some a):
  ∃b d v,J1 ρ o=some (b,d)∧(loadVar t ⟨b,d+i,none⟩).run P w= .ok v w∧rel ρ a v:=by
 unfold L9 at h
 simp only[Option.bind_eq_bind,Option.bind_eq_some_iff]at h
 obtain⟨g,hg,h⟩:=h
 cases g with
 |true=>
  simp only[if_true,Option.bind_eq_some_iff]at h
  obtain⟨n,hn,as,has,h⟩:=h
  cases h
  obtain⟨b,d,vs,h1,h2,h3,_⟩:=R.loads (P:=P) has
  refine⟨b,d, .agg ⟨vs⟩,h1, ?_,by simp only[rel];exact⟨⟨vs⟩,rfl,h3⟩⟩
  simp[loadVar,a9N hg,D2 hn,h2 w rfl]
 |false=>
  simp only[Bool.false_eq_true,if_false]at h
  obtain⟨b,d,v,h1,h2,h3⟩:=R.load h
  refine⟨b,d,v,h1, ?_,h3⟩
  simp[loadVar,a9N hg,h2]
theorem a4W{t:TypeId}{cs:List AV}{xs:Array Value}{off:Nat}{a:AV}(hr:s8 ρ cs xs.toList)(h:b4N P t cs off=some a)(w:World):
  ∃v,(part t xs off).run P w= .ok v w∧rel ρ a v:=by
 unfold b4N at h
 simp only[Option.bind_eq_bind,Option.bind_eq_some_iff]at h
 obtain⟨g,hg,h⟩:=h
 cases g with
 |true=>
  simp only[if_true,Option.bind_eq_some_iff]at h
  obtain⟨n,hn,h⟩:=h
  cases h
  refine⟨.agg (xs.extract off (off+n)),by simp[part,a9N hg,D2 hn], ?_⟩
  simp only[rel]
  refine⟨_,rfl, ?_⟩
  have:=a8Z (b9b hr off) n
  rw[Array.toList_extract,List.extract_eq_take_drop]
  simpa using this
 |false=>
  simp only[Bool.false_eq_true,if_false]at h
  obtain⟨v,h1,h2⟩:=a4P hr off h
  refine⟨v, ?_,h2⟩
  simp only[part,Sem.run_bind,a9N hg,Result.andThen_ok,Bool.false_eq_true,if_false]
  rw[show xs[off]? =some v by simpa using h1]
  rfl
theorem b1T(off:Nat):∀(l:List Value) (k:Nat) (a:Array Value),
  (l.zipIdx k).foldl (fun cs (x:Value×Nat)=>cs.setIfInBounds (off+x.2) x.1) a=E9 a (off+k) l
 | [],_,_=>rfl
 |v::l,k,a=>by
  rw[List.zipIdx_cons,List.foldl_cons,b1T off l (k+1)]
  rfl
theorem c4s{as:List AV}{vs:List Value}{cs:List AV}{arr:Array Value}{i:Nat}(h:s8 ρ as vs)(hn:i+as.length≤cs.length)
  (hc:s8 ρ cs arr.toList):s8 ρ (B5 cs i as) (E9 arr i vs).toList:=by
 have hl:=A8 hc
 have hc':s8 ρ cs ((arr.toList.drop 0).take cs.length):=by rw[List.drop_zero,List.take_of_length_le (by omega)];exact hc
 have:=a5G (d:=0) i h hn hc'
 rw[List.drop_zero,List.take_of_length_le (by simp[N9];simp at hl;omega),Nat.zero_add]at this
 exact this
def d0U(ρ:B2):List (Nat×AV)→List (Nat×Value)→Prop
 | [],l=>l=[]
 |(i,a)::ps,l=>∃v r,l=(i,v)::r∧rel ρ a v∧d0U ρ ps r
theorem a7G{place:Nat→Option (Nat×Nat)}:∀ {ps:List (Nat×AV)} {qs:List (Nat×Value)} {cs cs':List AV} {xs:Array Value},
  a8P place cs ps=some cs'→d0U ρ ps qs→s8 ρ cs xs.toList→∃xs',Instr.fill place xs qs=some xs'∧s8 ρ cs' xs'.toList∧xs'.size=xs.size
 | [],qs,cs,cs',xs,h,hp,hc=>by
  simp only[d0U]at hp;subst hp
  simp only[a8P]at h;cases h
  exact⟨xs,rfl,hc,rfl⟩
 |(i,a)::ps,qs,cs,cs',xs,h,hp,hc=>by
  simp only[d0U]at hp
  obtain⟨v,r,rfl,hv,hr⟩:=hp
  simp only[a8P]at h
  split at h
  ·cases h
  ·rename_i off size hpl
   split at h
   ·rename_i hcond
    obtain⟨h1,h2⟩:=hcond
    have hcl:=a2N hv
    have e1:=A8 hcl
    have e2:=A8 hc
    simp only[Array.length_toList]at e1 e2
    obtain⟨xs',g1,g2,g3⟩:=a7G (xs:=E9 xs off v.cells.toList) h hr (c4s hcl h2 hc)
    refine⟨xs', ?_,g2,by rw[g3,N9]⟩
    simp only[Instr.fill,hpl]
    rw[if_neg (by simp only[Bool.or_eq_true,decide_eq_true_eq];omega)]
    have:(v.cells.zipIdx.foldl (fun cs x=>cs.setIfInBounds (off+x.2) x.1) xs)=E9 xs off v.cells.toList:=by
     rw[←Array.foldl_toList,Array.toList_zipIdx,b1T off v.cells.toList 0 xs];rfl
    rw[←g1]
    exact congrArg (fun y=>Instr.fill place y r) this
   ·cases h
theorem b4t{α β:Type}{f:α→Sem β}{g:α→Option β}:∀ {l:List α} {r:List β},l.mapM g=some r→
  (∀x y,g x=some y→∀w,(f x).run P w= .ok y w)→∀w,(l.mapM f).run P w= .ok r w
 | [],r,h,_,w=>by simp at h;subst h;rfl
 |x::l,r,h,hf,w=>by
  simp only[List.mapM_cons,Option.bind_eq_bind,Option.bind_eq_some_iff]at h
  obtain⟨y,hy,ys,hys,h⟩:=h
  cases h
  simp[List.mapM_cons,hf x y hy,b4t hys hf]
theorem c6c{t:TypeId}{ps:List (Nat×AV)}{qs:Array (Nat×Value)}{a:AV}(h:b3i P t ps=some a)(hp:d0U ρ ps qs.toList)(w:World):
  ∃v,(Instr.build t qs).run P w= .ok v w∧rel ρ a v:=by
 unfold b3i at h
 simp only[Option.bind_eq_bind,Option.bind_eq_some_iff]at h
 obtain⟨z,hz,h⟩:=h
 obtain⟨zv,h1,h2⟩:=a4m (ρ:=ρ) hz w
 have hzc:=a2N h2
 split at h
 ·rename_i fields hu
  simp only[Option.bind_eq_some_iff]at h
  obtain⟨places,hpl,h⟩:=h
  simp only[Option.map_eq_some_iff]at h
  obtain⟨cs,hcs,rfl⟩:=h
  obtain⟨xs,g1,g2,_⟩:=a7G hcs hp hzc
  refine⟨.agg xs, ?_,by simp only[rel];exact⟨xs,rfl,g2⟩⟩
  have hm:(fields.mapM fun(f:Field)=>do pure (f.offset, ←sizeOf f.type)).run P w= .ok places.toArray w:=by
   rw[Array.mapM_eq_mapM_toList]
   have:=b4t (P:=P) (f:=fun f:Field=>do pure (f.offset, ←sizeOf f.type)) hpl (fun x y hy w=>by
    simp only[Option.map_eq_some_iff]at hy
    obtain⟨s,hs,rfl⟩:=hy
    simp[D2 hs]) w
   simp only[Sem.run_map,this,Result.andThen_ok]
  simp only[Instr.build,Sem.run_bind,h1,Result.andThen_ok,d8 hu,hm]
  have g1':Instr.fill (fun i=>places.toArray[i]?) zv.cells qs.toList=some xs:=by simpa using g1
  rw[g1']
  rfl
 ·rename_i n e hu
  simp only[Option.bind_eq_some_iff]at h
  obtain⟨size,hs,h⟩:=h
  simp only[Option.map_eq_some_iff]at h
  obtain⟨cs,hcs,rfl⟩:=h
  obtain⟨xs,g1,g2,_⟩:=a7G hcs hp hzc
  refine⟨.agg xs, ?_,by simp only[rel];exact⟨xs,rfl,g2⟩⟩
  simp only[Instr.build,Sem.run_bind,h1,Result.andThen_ok,d8 hu,D2 hs,g1]
  rfl
 ·cases h
end
end
section
section
variable{E:j2}{w0:World}{H:AHeap}{w:World}{ρ:B2}{P:Program}
theorem c1T(b:Nat)(i j:Nat)(w:World):(sameAddr ⟨b,i,none⟩ ⟨b,j,none⟩).run P w= .ok (i==j) w:=by
 simp only[sameAddr,beq_self_eq_true,if_true]
 show Result.ok _ _=_
 congr 1
 rw[Bool.eq_iff_iff];simp
theorem b7K(d:Nat)(t:TypeId)(xs ys:List AV)(vx vy:Array Value)(hx:s8 ρ xs vx.toList)(hy:s8 ρ ys vy.toList)
  (ih:∀t a b va vb r,eqA P d t a b=some r→rel ρ a va→rel ρ b vb→∀w,(Op.equalIn d t va vb).run P w= .ok r w):
  ∀(fs:List Field) (r:Bool),a5Z P (fun t a b=>eqA P d t a b) xs ys fs=some r→∀w:World,
   (do
     for f in fs do
      if f.name≠"_" then
       if !(←Op.equalIn d f.type (←part f.type vx f.offset) (←part f.type vy f.offset)) then return false
     pure true:Sem Bool).run P w= .ok r w
 | [],r,h,w=>by simp only[a5Z]at h;cases h;rfl
 |f::fs,r,h,w=>by
  have IH:=fun h=>b7K d t xs ys vx vy hx hy ih fs r h w
  simp only[a5Z]at h
  by_cases hn:f.name≠"_"
  ·rw[if_pos hn]at h
   split at h
   ·rename_i a b ha hb
    obtain⟨va,h1,h2⟩:=a4W hx ha w
    obtain⟨vb,h3,h4⟩:=a4W hy hb w
    split at h
    ·rename_i he
     have:=ih _ _ _ _ _ _ he h2 h4 w
     simpa [hn,h1,h3,this]using IH h
    ·rename_i r' he hr'
     have hr:r=false:=by
      cases r with
      |false=>rfl
      |true=>exact absurd h hr'
     subst hr
     have:=ih _ _ _ _ _ _ h h2 h4 w
     simp[hn,h1,h3,this]
   ·cases h
  ·rw[if_neg hn]at h
   simp only[ne_eq,Decidable.not_not]at hn
   simpa [hn]using IH h
theorem b5j(x y:List UInt8):((ByteArray.mk x.toArray)==(ByteArray.mk y.toArray))=(x==y):=by
 rw[beq_toListBytes,ByteArray.toList_eq,ByteArray.toList_eq]
theorem b8u:∀(d:Nat) (t:TypeId) (a b:AV) (va vb:Value) (r:Bool),eqA P d t a b=some r→rel ρ a va→rel ρ b vb→∀w,(Op.equalIn d t va vb).run P w= .ok r w
 |0,_,_,_,_,_,_,h,_,_,_=>by simp[eqA]at h
 |d+1,t,a,b,va,vb,r,h,ha,hb,w=>by
  unfold eqA at h
  split at h
  case h_1 hu=>simp only[rel]at ha hb;subst ha hb;cases h;(rw[Op.equalIn];simp only[Sem.run_bind,d8 hu,Result.andThen_ok];rfl)
  case h_2 hu=>
   simp only[rel]at ha hb;subst ha hb
   split at h
   ·rename_i e;cases h;(rw[Op.equalIn];simp only[Sem.run_bind,d8 hu,Result.andThen_ok];simp[e])
   ·cases h
  case h_3 hu=>
   simp only[rel]at ha hb;subst ha hb;cases h
   rename_i x y
   rw[Op.equalIn];simp only[Sem.run_bind,d8 hu,Result.andThen_ok,Sem.run_pure]
   congr 1
   exact b5j _ _
  case h_4 hu=>simp only[rel]at ha hb;subst ha hb;cases h;(rw[Op.equalIn];simp only[Sem.run_bind,d8 hu,Result.andThen_ok];rfl)
  case h_5 hu=>simp only[rel]at ha hb;obtain⟨_,_,_,rfl⟩:=hb;subst ha;cases h;(rw[Op.equalIn];simp only[Sem.run_bind,d8 hu,Result.andThen_ok];rfl)
  case h_6 hu=>simp only[rel]at ha hb;obtain⟨_,_,_,rfl⟩:=ha;subst hb;cases h;(rw[Op.equalIn];simp only[Sem.run_bind,d8 hu,Result.andThen_ok];rfl)
  case h_7 hu=>
   simp only[rel]at ha hb
   obtain⟨b1,d1,g1,rfl⟩:=ha
   obtain⟨b2,d2,g2,rfl⟩:=hb
   split at h
   ·rename_i hc
    obtain⟨rfl,h2,h3⟩:=hc
    cases h
    rw[g1]at g2;cases g2
    obtain⟨n,hn⟩:=Option.isSome_iff_exists.1 h3
    have hn0:n≠0:=by rintro rfl;exact h2 hn
    rw[Op.equalIn];simp only[Sem.run_bind,d8 hu,D2 hn,Result.andThen_ok,hn0,ne_eq,not_false_eq_true,if_true,c1T]
    congr 1
    rw[Bool.eq_iff_iff];simp
   ·cases h
  case h_8 hu=>simp only[rel]at ha hb;subst ha hb;cases h;(rw[Op.equalIn];simp only[Sem.run_bind,d8 hu,Result.andThen_ok];rfl)
  case h_9 hu=>simp only[rel]at ha hb;obtain⟨_,rfl,_⟩:=hb;subst ha;cases h;(rw[Op.equalIn];simp only[Sem.run_bind,d8 hu,Result.andThen_ok];rfl)
  case h_10 hu=>simp only[rel]at ha hb;obtain⟨_,rfl,_⟩:=ha;subst hb;cases h;(rw[Op.equalIn];simp only[Sem.run_bind,d8 hu,Result.andThen_ok];rfl)
  case h_11 hu=>
   simp only[rel]at ha hb
   obtain⟨x1,rfl,r1⟩:=ha
   obtain⟨x2,rfl,r2⟩:=hb
   split at h
   ·rename_i e;cases h;(rw[Op.equalIn];simp only[Sem.run_bind,d8 hu,Result.andThen_ok];simp[e])
   ·rename_i e
    split at h
    ·rename_i i hi
     split at h
     ·rename_i hc
      have:=b8u d _ _ _ _ _ _ h r1 r2 w
      (rw[Op.equalIn];simp only[Sem.run_bind,d8 hu,Result.andThen_ok];simp[e,B1 hi,hc,this])
     ·cases h
    ·cases h
  case h_12 hu=>simp only[rel]at ha hb;subst ha hb;cases h;(rw[Op.equalIn];simp only[Sem.run_bind,d8 hu,Result.andThen_ok];rfl)
  case h_13 hu=>simp only[rel]at ha hb;obtain⟨_,_,rfl,_⟩:=hb;subst ha;cases h;(rw[Op.equalIn];simp only[Sem.run_bind,d8 hu,Result.andThen_ok];rfl)
  case h_14 hu=>simp only[rel]at ha hb;obtain⟨_,_,rfl,_⟩:=ha;subst hb;cases h;(rw[Op.equalIn];simp only[Sem.run_bind,d8 hu,Result.andThen_ok];rfl)
  case h_15 hu=>simp only[rel]at ha hb;subst ha hb;cases h;(rw[Op.equalIn];simp only[Sem.run_bind,d8 hu,Result.andThen_ok];rfl)
  case h_16 hu=>simp only[rel]at ha hb;obtain⟨_,_,rfl⟩:=hb;subst ha;cases h;(rw[Op.equalIn];simp only[Sem.run_bind,d8 hu,Result.andThen_ok];rfl)
  case h_17 hu=>simp only[rel]at ha hb;obtain⟨_,_,rfl⟩:=ha;subst hb;cases h;(rw[Op.equalIn];simp only[Sem.run_bind,d8 hu,Result.andThen_ok];rfl)
  case h_18 hu=>simp only[rel]at ha hb;subst ha hb;cases h;(rw[Op.equalIn];simp only[Sem.run_bind,d8 hu,Result.andThen_ok];rfl)
  case h_19 hu=>simp only[rel]at ha hb;obtain⟨_,_,rfl,_⟩:=hb;subst ha;cases h;(rw[Op.equalIn];simp only[Sem.run_bind,d8 hu,Result.andThen_ok];rfl)
  case h_20 hu=>simp only[rel]at ha hb;obtain⟨_,_,rfl,_⟩:=ha;subst hb;cases h;(rw[Op.equalIn];simp only[Sem.run_bind,d8 hu,Result.andThen_ok];rfl)
  case h_21 hu=>
   simp only[rel]at ha hb
   obtain⟨x1,rfl,r1⟩:=ha
   obtain⟨x2,rfl,r2⟩:=hb
   split at h
   ·cases h
   ·rename_i hst
    have:=b7K d t _ _ x1 x2 r1 r2 (fun t a b va vb r h1 h2 h3 w=>b8u d t a b va vb r h1 h2 h3 w) _ r h w
    rw[Op.equalIn];simp only[Sem.run_bind,d8 hu,Result.andThen_ok,run_program,Bool.not_eq_true]at hst ⊢
    simp only[hst,Bool.false_eq_true,if_false,Sem.run_bind]
    rw[←Array.forIn_toList]
    simp only[Sem.run_bind]at this
    exact this
  case h_22=>cases h
end
end
section
section
variable{E:j2}{w0:World}{H:AHeap}{w:World}{ρ:B2}{P:Program}
theorem c4g{op:BinOp}{k:IntKind}{x y:Int}{r:AV}(h:U6 op k x y=some r)(t:TypeId)(w:World):
  ∃v,(binOp op t (.int k x) (.int k y)).run P w= .ok v w∧rel ρ r v:=by
 cases op<;>simp only[U6]at h
 case quo=>
  split at h
  ·cases h
  ·rename_i hy;cases h
   exact⟨.int k (k.wrap (x.tdiv y)),by simp[binOp,Op.intDiv,hy],by simp only[rel]⟩
 case rem=>
  split at h
  ·cases h
  ·rename_i hy;cases h
   exact⟨.int k (x.tmod y),by simp[binOp,Op.intDiv,hy],by simp only[rel]⟩
 all_goals first
  |(cases h;done)
  |(cases h;exact⟨_,by simp only[binOp,ne_eq,not_true_eq_false,if_false];rfl,by simp only[rel]⟩)
theorem c4l{op:BinOp}{x y:List UInt8}{r:AV}(h:a7M op x y=some r)(t:TypeId)(w:World):
  ∃v,(binOp op t (.string ⟨x.toArray⟩) (.string ⟨y.toArray⟩)).run P w= .ok v w∧rel ρ r v:=by
 have e:∀l:List UInt8,(ByteArray.mk l.toArray).toList=l:=fun l=>by rw[ByteArray.toList_eq]
 cases op<;>simp only[a7M]at h
 case add=>
  split at h
  ·rename_i hn
   cases h
   refine⟨.string (⟨x.toArray⟩++⟨y.toArray⟩), ?_, ?_⟩
   ·have hs:¬(((ByteArray.mk x.toArray).size+(ByteArray.mk y.toArray).size:Nat):Int)>IntKind.i64.max:=by
     have e1:(ByteArray.mk x.toArray).size=x.length:=by simp[ByteArray.size]
     have e2:(ByteArray.mk y.toArray).size=y.length:=by simp[ByteArray.size]
     rw[e1,e2];omega
    simp only[binOp,Op.stringOp]
    rw[if_neg hs]
    rfl
   ·simp only[rel]
    have:(ByteArray.mk x.toArray++ByteArray.mk y.toArray)=⟨(x++y).toArray⟩:=by
     apply ByteArray.ext
     simp
    rw[this]
  ·cases h
 all_goals first
  |(cases h;done)
  |(cases h
    refine⟨_,by simp only[binOp,Op.stringOp,e];rfl,by simp only[rel]⟩)
theorem b1U{op:BinOp}{t:TypeId}{x y:Operand}{a b:Value}(h1:a= .nilIface→b= .nilIface→(Region.isConst x||Region.isConst y)=true)
  (h2:∀u v,a= .agg u→b= .agg v→P.eqGuardType P.depth t=false) (w:World):(eqGuard op t x y a b).run P w= .ok () w:=by
 cases op
 case eql|neq=>
  unfold eqGuard
  rw[if_neg (by decide)]
  split
  ·have:=h1 rfl rfl
   cases x<;>cases y<;>first|rfl|(simp[Region.isConst]at this;done)
  ·rename_i u v
   have:=h2 u v rfl rfl
   simp[this]
  ·rfl
 all_goals rfl
theorem c3z{d:Nat}{t:TypeId}{a b:AV}{r:Bool}(h:eqA P d t a b=some r):(∀u,a≠ .opq u)∧(∀u,b≠ .opq u):=by
 cases d with
 |zero=>simp[eqA]at h
 |succ d=>
  constructor
  ·rintro u rfl
   unfold eqA at h
   split at h<;>simp_all
  ·rintro u rfl
   unfold eqA at h
   split at h<;>simp_all
theorem b6C{a:AV}(h:rel ρ a .nilIface):a= .nilIfc∨a= .opq .nilIface:=by
 cases a<;>simp[rel]at h ⊢
 exact h.symm
theorem d2a{a:AV}{u:Array Value}(h:rel ρ a (.agg u)):(∃cs,a= .agg cs)∨a= .opq (.agg u):=by
 cases a<;>simp[rel]at h ⊢
 exact h.symm
theorem c2s{op:BinOp}{t:TypeId}{x y:Operand}{a b:AV}{va vb:Value}{r:Bool}{d:Nat}(hop:op= .eql∨op= .neq)(hg:a2i P op t x y a b=true)(he:eqA P d t a b=some r)
  (ha:rel ρ a va) (hb:rel ρ b vb) (w:World):(eqGuard op t x y va vb).run P w= .ok () w:=by
 obtain⟨n1,n2⟩:=c3z he
 refine b1U ?_ ?_ w
 ·rintro rfl rfl
  have e1:=(b6C ha).resolve_right (n1 _)
  have e2:=(b6C hb).resolve_right (n2 _)
  subst e1 e2
  rcases hop with rfl|rfl<;>simpa only[a2i]using hg
 ·rintro u v rfl rfl
  obtain⟨c1,e1⟩:=(d2a ha).resolve_right (n1 _)
  obtain⟨c2,e2⟩:=(d2a hb).resolve_right (n2 _)
  subst e1 e2
  rcases hop with rfl|rfl<;>simpa only[a2i,Bool.not_eq_true']using hg
theorem d2Q{t:TypeId}{a b:Value}(h1:∀k x k' y,a= .int k x→b= .int k' y→False)(h2:∀x y,a= .string x→b= .string y→False)
  (h3:∀k x k' y,a= .float k x→b= .float k' y→False) (h4:∀k x y k' z u,a= .complex k x y→b= .complex k' z u→False):
  binOp .eql t a b=(do pure (.bool (←Op.equal t a b)))∧binOp .neq t a b=(do pure (.bool (!(←Op.equal t a b)))):=by
 constructor
 ·unfold binOp
  split<;>first|rfl|(exfalso;simp_all;done)|(exfalso;first|exact h1 _ _ _ _ rfl rfl|exact h2 _ _ rfl rfl|exact h3 _ _ _ _ rfl rfl|exact h4 _ _ _ _ _ _ rfl rfl)|skip
 ·unfold binOp
  split<;>first|rfl|(exfalso;simp_all;done)|(exfalso;first|exact h1 _ _ _ _ rfl rfl|exact h2 _ _ rfl rfl|exact h3 _ _ _ _ rfl rfl|exact h4 _ _ _ _ _ _ rfl rfl)|skip
theorem c9R{op:BinOp}{t:TypeId}{x y:Operand}{a b:AV}{va vb:Value}{r:AV}(hg:a2i P op t x y a b=true)(h:b5b P op t a b=some r)
  (ha:rel ρ a va) (hb:rel ρ b vb) (w:World):∃v,(do eqGuard op t x y va vb;binOp op t va vb).run P w= .ok v w∧rel ρ r v:=by
 unfold b5b at h
 split at h
 ·rename_i k m k' n
  simp only[rel]at ha hb;subst ha hb
  have hgd:(eqGuard op t x y (.int k m) (.int k' n)).run P w= .ok () w:=b1U (fun e=>by cases e) (fun _ _ e=>by cases e) w
  simp only[Sem.run_bind,hgd,Result.andThen_ok]
  split at h
  ·split at h
   ·cases h
   ·rename_i hy;cases h
    exact⟨.int k (k.wrap (m*2^(min n.toNat k.bits))),by simp only[binOp,Op.shift];rw[if_neg hy];rfl,by simp only[rel]⟩
  ·split at h
   ·cases h
   ·rename_i hy;cases h
    exact⟨.int k (m.fdiv (2^(min n.toNat k.bits))),by simp only[binOp,Op.shift];rw[if_neg hy];rfl,by simp only[rel]⟩
  ·split at h
   ·rename_i e;subst e
    exact c4g h t w
   ·cases h
 ·rename_i s1 s2
  simp only[rel]at ha hb;subst ha hb
  have hgd:(eqGuard op t x y (.string ⟨s1.toArray⟩) (.string ⟨s2.toArray⟩)).run P w= .ok () w:=b1U (fun e=>by cases e) (fun _ _ e=>by cases e) w
  simp only[Sem.run_bind,hgd,Result.andThen_ok]
  exact c4l h t w
 ·rename_i hi hs
  have key:∀ {e:Bool},eqA P Op.maxDepth t a b=some e→op= .eql∨op= .neq→
    (binOp .eql t va vb).run P w= .ok (.bool e) w∧(binOp .neq t va vb).run P w= .ok (.bool !e) w∧(eqGuard op t x y va vb).run P w= .ok () w:=by
   intro e he hop
   obtain⟨n1,n2⟩:=c3z he
   have hr:(Op.equal t va vb).run P w= .ok e w:=b8u _ _ _ _ _ _ _ he ha hb w
   have hb2:=d2Q (t:=t) (a:=va) (b:=vb)
    (fun k m k' n e1 e2=>by
     subst e1 e2
     cases a<;>simp[rel]at ha<;>try (exact(n1 _ rfl).elim)
     cases b<;>simp[rel]at hb<;>try (exact(n2 _ rfl).elim)
     exact hi _ _ _ _ rfl rfl)
    (fun m n e1 e2=>by
     subst e1 e2
     cases a<;>simp[rel]at ha<;>try (exact(n1 _ rfl).elim)
     cases b<;>simp[rel]at hb<;>try (exact(n2 _ rfl).elim)
     exact hs _ _ rfl rfl)
    (fun k m k' n e1 e2=>by
     subst e1 e2
     cases a<;>simp[rel]at ha<;>try (exact(n1 _ rfl).elim))
    (fun k m p k' n q e1 e2=>by
     subst e1 e2
     cases a<;>simp[rel]at ha<;>try (exact(n1 _ rfl).elim))
   refine⟨?_, ?_,c2s hop hg he ha hb w⟩
   ·rw[hb2.1];simp[hr]
   ·rw[hb2.2];simp[hr]
  split at h
  ·simp only[Option.map_eq_some_iff]at h
   obtain⟨e,he,rfl⟩:=h
   obtain⟨h1,_,h3⟩:=key he (.inl rfl)
   exact⟨.bool e,by simp only[Sem.run_bind,h3,Result.andThen_ok,h1],by simp only[rel]⟩
  ·simp only[Option.map_eq_some_iff]at h
   obtain⟨e,he,rfl⟩:=h
   obtain⟨_,h2,h3⟩:=key he (.inr rfl)
   exact⟨.bool (!e),by simp only[Sem.run_bind,h3,Result.andThen_ok,h2],by simp only[rel]⟩
  ·cases h
theorem d2j{op:UnOp}{a:AV}{va:Value}{r:AV}(h:unA op a=some r)(ha:rel ρ a va)(w:World):∃v,(Op.unary op va).run P w= .ok v w∧rel ρ r v:=by
 unfold unA at h
 split at h
 ·simp only[rel]at ha;subst ha;cases h;exact⟨_,rfl,by simp only[rel]⟩
 ·simp only[rel]at ha;subst ha;cases h;exact⟨_,rfl,by simp only[rel]⟩
 ·simp only[rel]at ha;subst ha;cases h;exact⟨_,rfl,by simp only[rel]⟩
 ·cases h
end
end
end Go.Am
end
