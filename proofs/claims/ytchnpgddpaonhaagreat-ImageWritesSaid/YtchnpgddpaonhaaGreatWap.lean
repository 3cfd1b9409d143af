/- A part of the proof of ImageWrites. -/
import Derived.Test.YtchnpgddpaonhaaGreatWam
import Derived.Test.YtchnpgddpaonhaaGreatWao
import Derived.Test.YtchnpgddpaonhaaGreatRows
import Derived.KernelRfl
set_option linter.unusedVariables false
set_option linter.unusedSimpArgs false
set_option maxRecDepth 100000
section
namespace Go.Am
section
section
variable(P:Program)(E:j6)(w0:World)
def b5e(ops:Array Oper):List Oper→List AV→AHeap→(List AV→AHeap→Prop)→Prop
 | [],T,H,Q=>Q T H
 |o::l,T,H,Q=>if r9 P o≤1 then ∃v,b1m P E ops T H o=some v∧b5e ops l (K1 T o.dst v) H Q else a4g P E w0 ops T H o fun v H'=>b5e ops l (K1 T o.dst v) H' Q
def isW(o:Oper):Bool:=decide (2≤r9 P o)
def d3q(ops:Array Oper):List Oper→List r5→Option (List r5)
 | [],ds=>some ds
 |o::l,ds=>match a1A ds o.after.toList 0 with
  |none=>none
  |some anc=>if b2h (fun j e=>anc.testBit j||(o.apart ops e.o&& !(e.wr||isW P o))) 0 ds then d3q ops l (ds++[⟨o,anc,[],A8,0,0,isW P o,[]⟩]) else none
def d1s(ops:Array Oper):Bool:=(d3q P ops ops.toList []).isSome
end
section
variable{P:Program}{E:j6}{w0:World}{ops:Array Oper}
theorem d1P:∀ {l:List Oper} {T:List AV} {H:AHeap} {Q:List AV→AHeap→Prop},a8S P E w0 ops l T H Q→b5e P E w0 ops l T H Q
 | [],T,H,Q,h=>by simp only[a8S,D0]at h;exact h
 |o::l,T,H,Q,h=>by
  simp only[a8S,D0]at h
  have val:r9 P o≤1→(b7 (a6h P E ops T H o) fun v=>a8S P E w0 ops l (K1 T o.dst v) H Q)→b5e P E w0 ops (o::l) T H Q:=fun hk h=>by
   unfold b7 at h
   split at h
   ·rename_i v hv
    rw[b5e,if_pos hk]
    exact⟨v,by rw[a5L hk];exact hv,d1P h⟩
   ·exact h.elim
  split at h
  ·rename_i x hx
   rw[Z5]at h
   obtain⟨hk,hv⟩:=a4V (P:=P) (E:=E) hx
   exact val (by omega) (by rw[hv];exact h)
  split at h
  ·rename_i hk
   exact val (by omega) h
  ·rename_i hk
   exact val (by omega) h
  ·rename_i k0 k1
   have hn:¬r9 P o≤1:=fun hk=>(show r9 P o=0∨r9 P o=1 by omega).elim k0 k1
   rw[b5e,if_neg hn]
   exact a1L (d6X h) fun v H' h'=>d1P h'
theorem d6c:∀ {l:List Oper} {T:List AV} {H:AHeap} {Q:List AV→AHeap→Prop},b2g P E w0 ops l T H Q→Rb E w0 H T→∃T' H',b5e P E w0 ops l T H (fun T1 H1=>T1=T'∧H1=H')∧Q T' H'
 | [],T,H,Q,h,hr=>by simp only[b2g,D0]at h;exact⟨T,H,⟨rfl,rfl⟩,h⟩
 |o::l,T,H,Q,h,hr=>by
  simp only[b2g,D0]at h
  have val:r9 P o≤1→(b7 (a6h P E ops T H o) fun v=>b2g P E w0 ops l (K1 T o.dst v) H Q)→∃T' H',b5e P E w0 ops (o::l) T H (fun T1 H1=>T1=T'∧H1=H')∧Q T' H':=by
   intro hk h
   unfold b7 at h
   split at h
   ·rename_i v hv
    obtain⟨T',H',h1,h2⟩:=d6c h (c7B hk hv hr)
    refine⟨T',H', ?_,h2⟩
    rw[b5e,if_pos hk]
    exact⟨v,by rw[a5L hk];exact hv,h1⟩
   ·exact h.elim
  split at h
  ·rename_i x hx
   rw[Z5]at h
   obtain⟨hk,hv⟩:=a4V (P:=P) (E:=E) hx
   exact val (by omega) (by rw[hv];exact h)
  split at h
  ·rename_i hk
   exact val (by omega) h
  ·rename_i hk
   exact val (by omega) h
  ·rename_i k0 k1
   obtain⟨v,H1,⟨h1,h2⟩,h3⟩:=c4o (d2c h hr)
   obtain⟨T',H',h4,h5⟩:=d6c h1 h2
   refine⟨T',H', ?_,h5⟩
   have hn:¬r9 P o≤1:=fun hk=>(show r9 P o=0∨r9 P o=1 by omega).elim k0 k1
   rw[b5e,if_neg hn]
   exact a1L (b7s h3) fun v' H'' e=>by obtain⟨rfl,rfl⟩:=e;exact h4
structure b7K (P:Program) (ops:Array Oper) (sd:List r5):Prop where
 op:∀(i:Nat) (d:r5),sd[i]? =some d→ops[i]? =some d.o
 wr:∀(i:Nat) (d:r5),sd[i]? =some d→d.wr=isW P d.o
 anc:∀(i:Nat) (d:r5),sd[i]? =some d→a1A (sd.take i) d.o.after.toList 0=some d.anc
 apart:∀(i j:Nat) (d e:r5),j<i→sd[i]? =some d→sd[j]? =some e→d.anc.testBit j=true∨(d.o.apart ops e.o=true∧e.wr=false∧d.wr=false)
theorem b7K.nil:b7K P ops []:=by constructor<;>intros<;>simp_all
theorem c7l:∀ {l:List Oper} {ds sd:List r5},b7K P ops ds→ops.toList.drop ds.length=l→d3q P ops l ds=some sd→b7K P ops sd∧sd.length=ops.size
 | [],ds,sd,G,hl,h=>by
  simp only[d3q,Option.some.injEq]at h
  subst h
  refine⟨G, ?_⟩
  have h1:=List.drop_eq_nil_iff.1 hl
  simp only[Array.length_toList]at h1
  refine Nat.le_antisymm ?_ h1
  refine Nat.le_of_not_lt fun hlt=> ?_
  have:=G.op ops.size (ds[ops.size]'hlt) (List.getElem?_eq_getElem hlt)
  simp at this
 |o::l,ds,sd,G,hl,h=>by
  have ho:ops[ds.length]? =some o:=by
   have:(ops.toList.drop ds.length)[0]? =some o:=by rw[hl];rfl
   rw[List.getElem?_drop]at this
   simpa using this
  have hdr:∀d,ops.toList.drop (ds++[d]).length=l:=by
   intro d
   have:=congrArg List.tail hl
   rw[List.tail_drop]at this
   simpa using this
  simp only[d3q]at h
  split at h
  ·cases h
  ·rename_i anc hanc
   split at h
   ·rename_i hap
    refine c7l (ds:=ds++[⟨o,anc,[],A8,0,0,isW P o,[]⟩]) ⟨?_, ?_, ?_, ?_⟩ (hdr _) h
    ·intro i d hd
     rcases y8 hd with ⟨h1,h2⟩|⟨rfl,rfl⟩
     ·exact G.op i d h2
     ·exact ho
    ·intro i d hd
     rcases y8 hd with ⟨h1,h2⟩|⟨rfl,rfl⟩
     ·exact G.wr i d h2
     ·rfl
    ·intro i d hd
     rcases y8 hd with ⟨h1,h2⟩|⟨rfl,rfl⟩
     ·rw[List.take_append_of_le_length (by omega)];exact G.anc i d h2
     ·rw[List.take_append_of_le_length (by omega),List.take_length];exact hanc
    ·intro i j d e hj hd he
     rcases y8 hd with ⟨h1,h2⟩|⟨rfl,rfl⟩
     ·rcases y8 he with ⟨h3,h4⟩|⟨rfl,rfl⟩
      ·exact G.apart i j d e hj h2 h4
      ·omega
     ·rcases y8 he with ⟨h3,h4⟩|⟨rfl,rfl⟩
      ·have:=a3u hap j e h4
       simp only[Nat.zero_add,Bool.or_eq_true,Bool.and_eq_true,Bool.not_eq_true',Bool.or_eq_false_iff]at this
       rcases this with h|⟨h1,h2,h3⟩
       ·exact .inl h
       ·exact .inr ⟨h1,h2,h3⟩
      ·omega
   ·cases h
structure Seg (P:Program) (E:j6) (ops:Array Oper) (sd:List r5) (T0:List AV) (ds:List r5) (b:Nat) (H:AHeap):Prop where
 le:b≤ds.length
 st:∀(i:Nat) (d:r5),ds[i]? =some d→∃s,sd[i]? =some s∧d.o=s.o∧d.anc=s.anc
 old:∀(i:Nat) (d:r5),ds[i]? =some d→d.T=A9 (fun _=>true) 0 (ds.take i) T0
 rd:∀(i:Nat) (d:r5),ds[i]? =some d→b≤i→r9 P d.o≤1∧b1m P E ops d.T H d.o=some d.v
theorem Seg.snoc{sd:List r5}{T0:List AV}{ds:List r5}{b:Nat}{H:AHeap}(G:Seg P E ops sd T0 ds b H){s:r5}(hs:sd[ds.length]? =some s){v:AV}{b':Nat}{H':AHeap}
  (h:(b'=b∧H'=H∧r9 P s.o≤1∧b1m P E ops (A9 (fun _=>true) 0 ds T0) H s.o=some v)∨b'=ds.length+1):
  Seg P E ops sd T0 (ds++[⟨s.o,s.anc,A9 (fun _=>true) 0 ds T0,v,0,0,s.wr,[]⟩]) b' H':=by
 have hle:=G.le
 refine⟨by rcases h with ⟨h,_⟩|h<;>simp<;>omega, ?_, ?_, ?_⟩
 ·intro i d hd
  rcases y8 hd with ⟨h1,h2⟩|⟨rfl,rfl⟩
  ·exact G.st i d h2
  ·exact⟨s,hs,rfl,rfl⟩
 ·intro i d hd
  rcases y8 hd with ⟨h1,h2⟩|⟨rfl,rfl⟩
  ·rw[List.take_append_of_le_length (by omega)];exact G.old i d h2
  ·rw[List.take_append_of_le_length (by omega),List.take_length]
 ·intro i d hd hb
  rcases y8 hd with ⟨h1,h2⟩|⟨rfl,rfl⟩
  ·rcases h with ⟨rfl,rfl,_⟩|rfl
   ·exact G.rd i d h2 hb
   ·omega
  ·rcases h with ⟨rfl,rfl,h3,h4⟩|rfl
   ·exact⟨h3,h4⟩
   ·omega
theorem d1B{sd:List r5}(hS:b7K P ops sd)(hsl:sd.length=ops.size){T0:List AV}{b:Nat}{H:AHeap}{Q:List AV→AHeap→Prop}:∀ {l:List Oper} {ds:List r5},Seg P E ops sd T0 ds b H→ops.toList.drop ds.length=l→b5e P E w0 ops l (A9 (fun _=>true) 0 ds T0) H Q→
  ∃ds',Seg P E ops sd T0 ds' b H∧(∃more,ds'=ds++more)∧ds.length≤ds'.length∧ds'.length≤ops.size∧b5e P E w0 ops (ops.toList.drop ds'.length) (A9 (fun _=>true) 0 ds' T0) H Q∧(∀o,ops[ds'.length]? =some o→isW P o=true)
 | [],ds,G,hl,h=>by
  have h1:=List.drop_eq_nil_iff.1 hl
  simp only[Array.length_toList]at h1
  have h2:ds.length≤ops.size:=by
   refine Nat.le_of_not_lt fun hlt=> ?_
   obtain⟨s,e,_⟩:=G.st ops.size _ (List.getElem?_eq_getElem hlt)
   have:=(List.getElem?_eq_some_iff.1 e).1
   omega
  refine⟨ds,G,⟨[],by simp⟩,Nat.le_refl _,h2,by rw[hl];exact h,fun o ho=> ?_⟩
  have:=(Array.getElem?_eq_some_iff.1 ho).1
  omega
 |o::l,ds,G,hl,h=>by
  have hlz:ds.length<ops.size:=by
   have:=congrArg List.length hl
   simp at this
   omega
  have ho:ops[ds.length]? =some o:=by
   have:(ops.toList.drop ds.length)[0]? =some o:=by rw[hl];rfl
   rw[List.getElem?_drop]at this
   simpa using this
  have hdr:∀d,ops.toList.drop (ds++[d]).length=l:=by
   intro d
   have:=congrArg List.tail hl
   rw[List.tail_drop]at this
   simpa using this
  by_cases hk:r9 P o≤1
  ·rw[b5e,if_pos hk]at h
   obtain⟨v,hv,h⟩:=h
   obtain⟨s,hs⟩:∃s,sd[ds.length]? =some s:=⟨sd[ds.length]'(by omega),List.getElem?_eq_getElem (by omega)⟩
   have hso:s.o=o:=by
    have:=hS.op _ _ hs
    rw[ho]at this
    exact(Option.some.inj this).symm
   subst hso
   have hrow:K1 (A9 (fun _=>true) 0 ds T0) s.o.dst v=A9 (fun _=>true) 0 (ds++[⟨s.o,s.anc,A9 (fun _=>true) 0 ds T0,v,0,0,s.wr,[]⟩]) T0:=by
    rw[a9P,if_pos rfl]
   rw[hrow]at h
   obtain⟨ds',g1,⟨more,g2⟩,g3,g4,g5,g6⟩:=d1B hS hsl (G.snoc hs (.inl ⟨rfl,rfl,hk,hv⟩)) (hdr _) h
   refine⟨ds',g1,⟨_,by rw[g2,List.append_assoc]⟩, ?_,g4,g5,g6⟩
   simp at g3;omega
  ·refine⟨ds,G,⟨[],by simp⟩,Nat.le_refl _,by omega,by rw[hl];exact h,fun o' ho'=> ?_⟩
   rw[ho]at ho'
   cases ho'
   exact decide_eq_true (by omega)
structure e2Z (E:j6) (w0:World) (ops:Array Oper) (sd ds:List r5) (b:Nat) (H0 H:AHeap) (T0:List AV) (ρ0:B7) (defs:List Deferred) (L:Array Bool) (a:Act) (w:World) (ρ:B7):Prop where
 size:L.size=ops.size
 nx:Nx ρ0 ρ H0 H
 row:w5 ρ (A9 (J7 L) 0 ds T0) a.tmps.toList
 rep:K9 E w0 H w ρ
 defs:a.defers=defs
 closed:b6u sd L
 done:∀i,i<b→J7 L i=true
 not:∀i,ds.length≤i→J7 L i=false
theorem b7K.ready_anc{sd:List r5}(G:b7K P ops sd){L:Array Bool}(hcl:b6u sd L){i:Nat}{d:r5}(hd:sd[i]? =some d)
  (ha:∀e∈d.o.after,Region.binds .any e=true→L.getD e.on false=true):∀j,d.anc.testBit j=true→J7 L j=true:=by
 refine b2e (S:=fun j=>J7 L j=true) _ _ _ (G.anc i d hd) (fun j hj=>by simp at hj) ?_
 intro e he hb
 have h1:J7 L e.on=true:=ha e (by simpa using he) hb
 refine⟨h1,fun d' hd' j hj=> ?_⟩
 rw[List.getElem?_take]at hd'
 split at hd'
 ·exact hcl _ _ hd' h1 j hj
 ·cases hd'
theorem b7K.all_listed{sd:List r5}(G:b7K P ops sd)(hlen:sd.length=ops.size){L:Array Bool}(hsz:L.size=ops.size)(h:Region.ready .any ops L=[]):∀(N j:Nat),j<N→j<ops.size→J7 L j=true
 |0,j,h,_=>by omega
 |N+1,j,hj,hjs=>by
  cases hb:J7 L j with
  |true=>rfl
  |false=>
   have hm:j∈Region.ready .any ops L:=by
    rw[mem_ready]
    refine⟨?_,ops[j],Array.getElem?_eq_getElem hjs,fun e he hbn=> ?_⟩
    ·unfold J7 at hb
     rw[Array.getD_eq_getD_getElem?]at hb ⊢
     rw[Array.getElem?_eq_getElem (by omega)]at hb ⊢
     exact hb
    ·have hd:sd[j]? =some (sd[j]'(by omega)):=List.getElem?_eq_getElem (by omega)
     have hop:=G.op j _ hd
     rw[Array.getElem?_eq_getElem hjs]at hop
     rw[Option.some.inj hop]at he
     have hon:=b5C _ _ _ (G.anc j _ hd) e (by simpa using he) hbn
     rw[List.length_take]at hon
     exact b7K.all_listed G hlen hsz h N e.on (by omega) (by omega)
   rw[h]at hm
   cases hm
def MM(P:Program)(E:j6)(w0:World)(ops:Array Oper)(sd:List r5)(T0:List AV)(H0:AHeap)(ρ0:B7)(defs:List Deferred)(Q0:List AV→AHeap→Prop)(L:Array Bool)(a:Act)(w:World):Prop:=
 ∃(ds:List r5) (b:Nat) (H:AHeap) (ρ:B7),Seg P E ops sd T0 ds b H∧b5e P E w0 ops (ops.toList.drop ds.length) (A9 (fun _=>true) 0 ds T0) H Q0∧ds.length≤ops.size∧(∀o,ops[ds.length]? =some o→isW P o=true)∧e2Z E w0 ops sd ds b H0 H T0 ρ0 defs L a w ρ
theorem MM.fin{sd:List r5}{T0:List AV}{H0:AHeap}{ρ0:B7}{defs:List Deferred}{Q0:List AV→AHeap→Prop}{L:Array Bool}{a:Act}{w:World}(h:MM P E w0 ops sd T0 H0 ρ0 defs Q0 L a w)(hall:∀i,i<ops.size→J7 L i=true):
  ∃T H ρ,Q0 T H∧Nx ρ0 ρ H0 H∧w5 ρ T a.tmps.toList∧K9 E w0 H w ρ∧a.defers=defs:=by
 obtain⟨ds,b,H,ρ,G,hO,hle,_,I⟩:=h
 have hl:ds.length=ops.size:=by
  refine Nat.le_antisymm hle (Nat.le_of_not_lt fun hlt=> ?_)
  have:=hall _ hlt
  rw[I.not _ (Nat.le_refl _)]at this
  cases this
 have hd:ops.toList.drop ds.length=[]:=List.drop_eq_nil_iff.2 (by simp;omega)
 rw[hd]at hO
 have hrow:=I.row
 rw[a3B (D':=fun _=>true) ds 0 T0 fun m _ h=>hall m (by omega)]at hrow
 exact⟨_,H,ρ,hO,I.nx,hrow,I.rep,I.defs⟩
theorem MM.step{sd:List r5}(hS:b7K P ops sd)(hsl:sd.length=ops.size){T0:List AV}{H0:AHeap}{ρ0:B7}(hf:P4 ρ0 H0){defs:List Deferred}{Q0:List AV→AHeap→Prop}{L:Array Bool}{a:Act}{w:World}(h:MM P E w0 ops sd T0 H0 ρ0 defs Q0 L a w){i:Nat}(hr:i∈Region.ready .any ops L)
  {K:Act→World→Prop} {Q:Exit→Act→World→Prop} (hK:∀a' w',MM P E w0 ops sd T0 H0 ρ0 defs Q0 (L.setIfInBounds i true) a' w'→K a' w'):wpOp P ops Q i K a w:=by
 obtain⟨ds,b,H,ρ,G,hO,hle,hnext,I⟩:=h
 obtain⟨hi0,o,ho,hedge⟩:=mem_ready.1 hr
 have hil:i<ops.size:=(Array.getElem?_eq_some_iff.1 ho).1
 have hi:J7 L i=false:=by
  unfold J7
  have hsz:=I.size
  rw[Array.getD_eq_getD_getElem?]at hi0 ⊢
  rw[Array.getElem?_eq_getElem (by omega)]at hi0 ⊢
  exact hi0
 obtain⟨s,hs⟩:∃s,sd[i]? =some s:=⟨sd[i]'(by omega),List.getElem?_eq_getElem (by omega)⟩
 have hso:s.o=o:=by
  have:=hS.op _ _ hs
  rw[ho]at this
  exact(Option.some.inj this).symm
 subst hso
 have ha:=hS.ready_anc I.closed hs hedge
 have hbi:b≤i:=Nat.le_of_not_lt fun h=>by rw[I.done i h]at hi;cases hi
 have hisL:J7 (L.setIfInBounds i true)=fun x=>x==i||J7 L x:=by
  funext x
  rw[a4k (by rw[I.size];exact hil)]
 have hcl':b6u sd (L.setIfInBounds i true):=by
  intro j e he hj x hx
  rw[hisL]at hj ⊢
  simp only[Bool.or_eq_true,beq_iff_eq]at hj ⊢
  rcases hj with rfl|hj
  ·rw[hs]at he;cases he
   exact .inr (ha x hx)
  ·exact .inr (I.closed j e he hj x hx)
 have hfm:P4 ρ H:=hf.step I.nx
 rcases Nat.lt_trichotomy i ds.length with hlt|heq|hgt
 ·
  obtain⟨d,hd⟩:∃d,ds[i]? =some d:=⟨ds[i],List.getElem?_eq_getElem hlt⟩
  obtain⟨s',hs',e1,e2⟩:=G.st i d hd
  rw[hs]at hs'
  cases hs'
  obtain⟨hk,hv⟩:=G.rd i d hd hbi
  have hag:c4x ops d.o (A9 (J7 L) 0 ds T0) d.T:=by
   intro t ht
   rw[G.old i d hd,a9K]
   refine b0F ds 0 T0 T0 ?_ rfl
   intro x e he hne hdst
   simp only[Nat.zero_add]at hne
   obtain⟨se,hse,f1,f2⟩:=G.st x e he
   by_cases hxi:x<i
   ·have:J7 L x=false:=by
     cases hb:J7 L x with
     |false=>rfl
     |true=>rw[hb]at hne;exact(hne (by simp[hxi])).elim
    rcases hS.apart i x s se hxi hs hse with h|⟨h,_⟩
    ·have:=ha x h;simp_all
    ·rw[←e1, ←f1]at h
     exact(Oper.apart_spec h).2.2 t hdst ht
   ·have hx:J7 L x=true:=by
     cases hb:J7 L x with
     |true=>rfl
     |false=>rw[hb]at hne;exact(hne (by simp[hxi])).elim
    have hix:i<x:=by
     have:x≠i:=by rintro rfl;rw[hi]at hx;cases hx
     omega
    rcases hS.apart x i se s hix hse hs with h|⟨h,_⟩
    ·have:=I.closed x se hse hx i h;rw[hi]at this;cases this
    ·rw[←e1, ←f1]at h
     exact(Oper.apart_spec h).1 t hdst ht
  have hdst:∀(m:Nat) (e:r5),i<m→ds[m]? =some e→J7 L m=true→∀x,d.o.dst=some x→e.o.dst≠some x:=by
   intro m e him he hm x hx hx'
   obtain⟨se,hse,f1,f2⟩:=G.st m e he
   rcases hS.apart m i se s him hse hs with h|⟨h,_⟩
   ·have:=I.closed m se hse hm i h;rw[hi]at this;cases this
   ·rw[←e1, ←f1]at h
    exact(Oper.apart_spec h).2.1 x hx' hx
  rw[←e1]at ho
  refine a6a (b6F (fun t ht=>(hag t ht).symm) (b7s (b3j (w0:=w0) hk hv))) ho I.rep I.row hfm ?_
  rintro v H' ρ' vv w' ⟨rfl,rfl⟩ g1 g2 g3
  refine hK _ _ ⟨ds,b,_,ρ',G,hO,hle,hnext,⟨by rw[Array.size_setIfInBounds];exact I.size,I.nx.trans g1, ?_,g3,by rw[b3I];exact I.defs,hcl', ?_, ?_⟩⟩
  ·have:J7 (L.setIfInBounds i true)=fun x=>x==0+i||J7 L x:=by rw[hisL];funext x;rw[Nat.zero_add]
   rw[this,b2A ds 0 i T0 hd (by rw[Nat.zero_add];exact hi) (by simpa using hdst)]
   exact a5C (L5 g1.1 _ _ I.row) g2
  ·intro j hj
   rw[hisL];simp only[I.done j hj,Bool.or_true]
  ·intro j hj
   rw[hisL];simp only[I.not j hj,Bool.or_false]
   exact beq_false_of_ne (by omega)
 ·
  subst heq
  have hw:isW P s.o=true:=hnext _ ho
  have hsw:s.wr=true:=by rw[hS.wr _ _ hs];exact hw
  have hall:∀j,j<ds.length→J7 L j=true:=fun j hj=>by
   obtain⟨se,hse⟩:∃se,sd[j]? =some se:=⟨sd[j]'(by omega),List.getElem?_eq_getElem (by omega)⟩
   rcases hS.apart ds.length j s se hj hs hse with h|⟨_,_,h⟩
   ·exact ha j h
   ·rw[hsw]at h;cases h
  have hrow:=I.row
  rw[a3B (D':=fun _=>true) ds 0 T0 fun m _ h=>hall m (by omega)]at hrow
  have hdrop:ops.toList.drop ds.length=s.o::ops.toList.drop (ds.length+1):=by
   rw[List.drop_eq_getElem_cons (by simpa using hil)]
   congr 1
   rw[Array.getElem_toList]
   have:=(Array.getElem?_eq_some_iff.1 ho).2
   exact this
  rw[hdrop,b5e,if_neg (by unfold isW at hw;have:=of_decide_eq_true hw;omega)]at hO
  refine a6a hO ho I.rep hrow hfm ?_
  intro v H' ρ' vv w' hO' g1 g2 g3
  have G1:=G.snoc hs (v:=v) (b':=ds.length+1) (H':=H') (.inr rfl)
  have hr1:K1 (A9 (fun _=>true) 0 ds T0) s.o.dst v=A9 (fun _=>true) 0 (ds++[⟨s.o,s.anc,A9 (fun _=>true) 0 ds T0,v,0,0,s.wr,[]⟩]) T0:=by
   rw[a9P,if_pos rfl]
  rw[hr1]at hO'
  obtain⟨ds',k1,⟨more,k2⟩,k3,k4,k5,k6⟩:=d1B hS hsl G1 (by simp) hO'
  have hL':∀j,J7 (L.setIfInBounds ds.length true) j=decide (j<ds.length+1):=fun j=>by
   rw[hisL]
   rcases Nat.lt_trichotomy j ds.length with h|h|h
   ·simp only[hall j h,Bool.or_true];exact(decide_eq_true (by omega)).symm
   ·subst h;simp
   ·simp only[I.not j (by omega),Bool.or_false]
    rw[beq_false_of_ne (by omega)];exact(decide_eq_false (by omega)).symm
  refine hK _ _ ⟨ds',ds.length+1,H',ρ',k1,k5,k4,k6,⟨by rw[Array.size_setIfInBounds];exact I.size,I.nx.trans g1, ?_,g3,by rw[b3I];exact I.defs,hcl',fun j hj=>by rw[hL' j];exact decide_eq_true hj,fun j hj=>by rw[hL' j];simp at k3;exact decide_eq_false (by omega)⟩⟩
  have hfold:A9 (J7 (L.setIfInBounds ds.length true)) 0 ds' T0=K1 (A9 (fun _=>true) 0 ds T0) s.o.dst v:=by
   have e0:J7 (L.setIfInBounds ds.length true)=fun x=>decide (x<0+(ds.length+1)):=by funext j;rw[hL' j,Nat.zero_add]
   rw[e0, ←a9K ds' (ds.length+1) 0 T0,k2,hr1]
   congr 1
   rw[List.take_append_of_le_length (by simp),List.take_of_length_le (by simp)]
  rw[hfold]
  exact a5C (L5 g1.1 _ _ hrow) g2
 ·
  obtain⟨sc,hsc⟩:∃sc,sd[ds.length]? =some sc:=⟨sd[ds.length]'(by omega),List.getElem?_eq_getElem (by omega)⟩
  have hw:sc.wr=true:=by rw[hS.wr _ _ hsc];exact hnext _ (hS.op _ _ hsc)
  rcases hS.apart i ds.length s sc hgt hs hsc with h|⟨_,h,_⟩
  ·have:=ha _ h
   rw[I.not _ (Nat.le_refl _)]at this;cases this
  ·rw[hw]at h;cases h
theorem MM.size{sd:List r5}{T0:List AV}{H0:AHeap}{ρ0:B7}{defs:List Deferred}{Q0:List AV→AHeap→Prop}{L:Array Bool}{a:Act}{w:World}(h:MM P E w0 ops sd T0 H0 ρ0 defs Q0 L a w):L.size=ops.size:=by
 obtain⟨_,_,_,_,_,_,_,_,I⟩:=h
 exact I.size
theorem a9r(n m:Nat):J7 (Array.replicate n false) m=false:=by
 unfold J7
 rw[Array.getD_eq_getD_getElem?,Array.getElem?_replicate]
 split<;>rfl
theorem c7a(n:Nat):unl n (Array.replicate n false)≤n:=by
 unfold unl
 refine Nat.le_trans List.countP_le_length ?_
 rw[List.length_range]
 exact Nat.le_refl _
theorem MM.start{sd:List r5}(hS:b7K P ops sd)(hsl:sd.length=ops.size){T:List AV}{H:AHeap}{Q0:List AV→AHeap→Prop}(h:b5e P E w0 ops ops.toList T H Q0){a:Act}{w:World}{ρ:B7}(hR:K9 E w0 H w ρ)(hT:w5 ρ T a.tmps.toList):MM P E w0 ops sd T H ρ a.defers Q0 (Array.replicate ops.size false) a w:=by
 have G0:Seg P E ops sd T [] 0 H:=⟨Nat.le_refl _,fun i d hd=>by simp at hd,fun i d hd=>by simp at hd,fun i d hd=>by simp at hd⟩
 obtain⟨ds,k1,_,k3,k4,k5,k6⟩:=d1B hS hsl G0 rfl h
 refine⟨ds,0,H,ρ,k1,k5,k4,k6,⟨by simp,Nx.refl _ _, ?_,hR,rfl, ?_,fun i hi=>by omega,fun i _=>a9r _ i⟩⟩
 ·rw[a7W ds 0 T fun m _=>a9r _ m];exact hT
 ·intro i d hd hi
  rw[a9r _ i]at hi;cases hi
theorem d8W{sd:List r5}(hS:b7K P ops sd)(hsl:sd.length=ops.size){T0:List AV}{H0:AHeap}{ρ0:B7}(hf:P4 ρ0 H0){defs:List Deferred}{Q0:List AV→AHeap→Prop}{Q:Exit→Act→World→Prop}
  (hQ:∀T H a w ρ,Q0 T H→Nx ρ0 ρ H0 H→w5 ρ T a.tmps.toList→K9 E w0 H w ρ→a.defers=defs→Q .normal a w):
  ∀(fuel:Nat) (L:Array Bool) (a:Act) (w:World),MM P E w0 ops sd T0 H0 ρ0 defs Q0 L a w→unl ops.size L≤fuel→wpAny P .any ops Q fuel L a w:=by
 have fin:∀ {L:Array Bool} {a:Act} {w:World},MM P E w0 ops sd T0 H0 ρ0 defs Q0 L a w→(∀i,i<ops.size→J7 L i=true)→Q .normal a w:=fun h hall=>by
  obtain⟨T,H,ρ,h1,h2,h3,h4,h5⟩:=h.fin hall
  exact hQ T H _ _ ρ h1 h2 h3 h4 h5
 intro fuel
 induction fuel with
 |zero=>
  intro L a w I hfu
  have hall:=b5A (n:=ops.size) (L:=L) (by omega)
  refine⟨?_,fin I hall⟩
  rw[List.eq_nil_iff_forall_not_mem]
  intro i hi
  obtain⟨hi0,o,ho,_⟩:=mem_ready.1 hi
  have hil:i<ops.size:=(Array.getElem?_eq_some_iff.1 ho).1
  have h1:=hall i hil
  unfold J7 at h1
  have hsz:=I.size
  rw[Array.getD_eq_getD_getElem?,Array.getElem?_eq_getElem (by omega)]at hi0 h1
  simp only[Option.getD_some]at hi0 h1
  rw[h1]at hi0;cases hi0
 |succ fuel ih=>
  intro L a w I hfu
  refine⟨fun hr=>fin I fun i hi=>hS.all_listed hsl I.size hr (i+1) i (by omega) hi,fun i hr=> ?_⟩
  obtain⟨hi0,o,ho,hedge⟩:=mem_ready.1 hr
  have hil:i<ops.size:=(Array.getElem?_eq_some_iff.1 ho).1
  have hi:J7 L i=false:=by
   unfold J7
   have hsz:=I.size
   rw[Array.getD_eq_getD_getElem?]at hi0 ⊢
   rw[Array.getElem?_eq_getElem (by omega)]at hi0 ⊢
   exact hi0
  have hul:=c1M (n:=ops.size) hil (by have:=I.size;omega) hi
  exact I.step hS hsl hf hr fun a' w' I'=>ih _ a' w' I' (by omega)
theorem c9B(hm:P.follows .mixedOrders=true)(hB:d1s P ops=true){id:Nat}{T:List AV}{H:AHeap}{Q:o6→List AV→AHeap→Prop}(h:b5e P E w0 ops ops.toList T H (Q .normal)):H9 P E w0 (.region id ops true) T H Q:=by
 intro w ρ a R hR hf hT hk
 obtain⟨sd,hsd⟩:=Option.isSome_iff_exists.1 hB
 obtain⟨hS,hsl⟩:=c7l b7K.nil rfl hsd
 refine wp_region_any hm ?_
 exact d8W hS hsl hf (fun T' H' a' w' ρ' hq g1 g2 g3 g4=>hk _ _ _ _ _ hq ⟨ρ',g1,g2,g3,g4⟩) ops.size _ a _ (MM.start hS hsl h (hR.heap_eq rfl) hT) (c7a _)
variable{order:List Nat}{extra:List (Nat×Nat)}
theorem d9P(h:a4s ops.size order extra=true)(hg:b1I ops=true)(hb:c7m ops=true){sd:List r5}(hS:b7K P (A0 ops order extra) sd)(hsl:sd.length=(A0 ops order extra).size){T0:List AV}{H0:AHeap}{ρ0:B7}(hf:P4 ρ0 H0){defs:List Deferred}{Q0:List AV→AHeap→Prop}
  {Q:Exit→Act→World→Prop} (hQ:∀L a w,MM P E w0 (A0 ops order extra) sd T0 H0 ρ0 defs Q0 L a w→(∀i,i<(A0 ops order extra).size→J7 L i=true)→Q .normal a w) {π:List Nat} (hex:∀xy∈extra,π.idxOf xy.1<π.idxOf xy.2):
  ∀(fuel:Nat) (rest done:List Nat) (L L':Array Bool) (a:Act) (w:World),Run ops fuel rest L→unl ops.size L≤fuel→π=done++rest→L.size=ops.size→(∀x,x<ops.size→(J7 L x=true↔x∈done))→
   (∀x,x<ops.size→J7 L' (H7 order x)=J7 L x)→MM P E w0 (A0 ops order extra) sd T0 H0 ρ0 defs Q0 L' a w→wpOps P ops Q rest a w:=by
 have onto:∀L L':Array Bool,(∀x,x<ops.size→J7 L' (H7 order x)=J7 L x)→(∀x,x<ops.size→J7 L x=true)→∀i,i<(A0 ops order extra).size→J7 L' i=true:=by
  intro L L' hLL hall i hi
  rw[a5e h]at hi
  obtain⟨x,hx,rfl⟩:=d1m h hi
  rw[hLL x hx]
  exact hall x hx
 intro fuel
 induction fuel with
 |zero=>
  intro rest done L L' a w hrun hu hπ hsz hd hLL I
  cases hrun
  exact hQ L' a w I (onto L L' hLL fun x hx=>b5A (by omega) x hx)
 |succ fuel ih=>
  intro rest done L L' a w hrun hu hπ hsz hd hLL I
  cases hrun with
  |stop hr=>exact hQ L' a w I (onto L L' hLL fun x hx=>b0r hb hsz hr (x+1) x (by omega) hx)
  | @step _ i π' _ hi hrest=>
   rw[wpOps_cons]
   obtain⟨hi0,o,ho,hedge⟩:=mem_ready.1 hi
   have hil:i<ops.size:=(Array.getElem?_eq_some_iff.1 ho).1
   have hoi:ops[i]=o:=by rw[Array.getElem?_eq_getElem hil]at ho;exact Option.some.inj ho
   have hiL:J7 L i=false:=by
    unfold J7
    rw[Array.getD_eq_getD_getElem?]at hi0 ⊢
    rw[Array.getElem?_eq_getElem (by omega)]at hi0 ⊢
    exact hi0
   have hnd:i ∉ done:=fun hm=>by rw[(hd i hil).2 hm]at hiL;cases hiL
   have hpi:π.idxOf i=done.length:=by
    rw[hπ,List.idxOf_append,if_neg hnd,List.idxOf_cons_self,Nat.zero_add]
   have hrd:H7 order i∈Region.ready .any (A0 ops order extra) L':=by
    rw[mem_ready]
    refine⟨?_,_,c6O h hil,fun e he hbn=> ?_⟩
    ·have h1:=hLL i hil
     rw[hiL]at h1
     have hs':=I.size
     rw[a5e h]at hs'
     have hlt:=c1t h hil
     unfold J7 at h1
     rw[Array.getD_eq_getD_getElem?]at h1 ⊢
     rw[Array.getElem?_eq_getElem (by omega)]at h1 ⊢
     exact h1
    ·rw[c4k hil]at he
     simp only[Array.mem_append]at he
     rcases he with he|he
     ·obtain⟨e0,he0,rfl⟩:=Array.mem_map.1 he
      have hb0:Region.binds .any e0=true:=hbn
      have h1:=hedge e0 (by rw[←hoi];exact he0) hb0
      have hlt:e0.on<ops.size:=by
       rw[Array.getD_eq_getD_getElem?]at h1
       by_cases hl:e0.on<L.size
       ·omega
       ·rw[Array.getElem?_eq_none (by omega)]at h1;cases h1
      have:=hLL e0.on hlt
      unfold J7 at this
      rw[this];exact h1
     ·simp only[List.mem_toArray,List.mem_map,List.mem_filter,beq_iff_eq]at he
      obtain⟨xy,⟨hxy,hy⟩,rfl⟩:=he
      have h1:=hex xy hxy
      have hx:=c4p h hxy
      rw[hy,hpi]at h1
      have hmem:xy.1∈done:=by
       by_cases hm:xy.1∈done
       ·exact hm
       ·rw[hπ,List.idxOf_append,if_neg hm]at h1;omega
      have h2:=hLL xy.1 hx
      rw[(hd xy.1 hx).2 hmem]at h2
      exact h2
   refine d0Z h hg hil (I.step hS hsl hf hrd fun a' w' I'=> ?_)
   have hs':=I.size
   rw[a5e h]at hs'
   have hul:=c1M (n:=ops.size) hil (by omega) hiL
   refine ih π' (done++[i]) _ _ a' w' hrest (by omega) (by rw[hπ,List.append_assoc];rfl) (by rw[Array.size_setIfInBounds];exact hsz) ?_ ?_ I'
   ·intro x hx
    rw[a4k (by omega)]
    simp only[Bool.or_eq_true,beq_iff_eq,List.mem_append,List.mem_singleton,hd x hx]
    exact⟨fun h=>h.elim .inr .inl,fun h=>h.elim .inr .inl⟩
   ·intro x hx
    rw[a4k (L:=L') (by have:=c1t h hil;omega),a4k (L:=L) (by omega),hLL x hx]
    congr 1
    rw[Bool.eq_iff_iff,beq_iff_eq,beq_iff_eq]
    exact⟨fun e=>d0U h hx hil e,fun e=>by rw[e]⟩
theorem d4l(hm:P.follows .mixedOrders=true){id:Nat}{T:List AV}{H:AHeap}{Q:o6→List AV→AHeap→Prop}(arrs:List (List Nat×List (Nat×Nat)))(hg:b1I ops=true)(hb:c7m ops=true)(hp:(arrs.all fun oe=>a4s ops.size oe.1 oe.2)=true)(hc:(arrs.all fun oe=>d1s P (A0 ops oe.1 oe.2))=true)
  (hcover:∀p:Nat→Nat,(∀i j,i<ops.size→j<ops.size→p i=p j→i=j)→∃oe∈arrs,∀xy∈oe.2,p xy.1<p xy.2)
  (h:∀oe∈arrs,b5e P E w0 (A0 ops oe.1 oe.2) (A0 ops oe.1 oe.2).toList T H (Q .normal)):H9 P E w0 (.region id ops true) T H Q:=by
 intro w ρ a R hR hf hT hk
 refine wp_region_draw fun t=> ?_
 simp only[Region.schedule,hm,Bool.true_or,if_true]
 have hrun:Run ops ops.size (Region.linearise .any ops t) (Array.replicate ops.size false):=d5P _ _ _
 obtain⟨g1,g2⟩:=d7g hb (π:=Region.linearise .any ops t) ops.size _ [] _ hrun (c7a _) rfl (by simp) (fun x _=>by rw[a9r];simp)
 obtain⟨oe,hoe,hex⟩:=hcover (fun x=>(Region.linearise .any ops t).idxOf x) (fun i j hi hj e=>by
  have hi':=List.idxOf_lt_length_of_mem (g1 i hi)
  have hj':=List.idxOf_lt_length_of_mem (g1 j hj)
  have a:=List.getElem_idxOf hi'
  have b:=List.getElem_idxOf hj'
  rw[←a, ←b]
  simp only[e])
 have hpo:=List.all_eq_true.1 hp oe hoe
 obtain⟨sd,hsd⟩:=Option.isSome_iff_exists.1 (List.all_eq_true.1 hc oe hoe)
 obtain⟨hS,hsl⟩:=c7l b7K.nil rfl hsd
 refine d9P hpo hg hb hS hsl hf (defs:=a.defers) (Q0:=Q .normal) ?_ hex ops.size _ [] _ (Array.replicate (A0 ops oe.1 oe.2).size false) a _ hrun (c7a _) rfl (by simp) (fun x _=>by rw[a9r];simp) (fun x hx=>by rw[a9r,a9r]) (MM.start hS hsl (h oe hoe) (hR.heap_eq rfl) hT)
 intro L a' w' I hall
 obtain⟨T',H',ρ',q1,q2,q3,q4,q5⟩:=I.fin hall
 exact hk _ _ _ _ _ q1 ⟨ρ',q2,q3,q4,q5⟩
end
end
section
section
variable(P:Program)(E:j6)(w0:World)(x:Bool)
def FnF:FW:=match x with
 |true=>J6 P E w0
 |false=>FnW P E w0
def a6U(c:Code)(T:List AV)(H:AHeap)(Q:o6→List AV→AHeap→Prop):Prop:=match x with
 |true=>a4w P E w0 c T H Q
 |false=>H9 P E w0 c T H Q
abbrev o9:=DF E (FnF P E w0 x)
def d8A(E:j6)(R:Fz)(n:Nat)(Q:o6→List D→b9→Prop)(ex:o6)(avs':List AV)(H':AHeap):Prop:=a4O E R n (Q ex) avs' H'
def j0(c:Code)(T:List D)(S:b9)(Q:o6→List D→b9→Prop):Prop:=
 ∀R H avs,P8 H→G4 E R S H→C8 E R T avs→a6U P E w0 x c avs H (d8A E R T.length Q)
end
def b3B:List D→List Nat→List D→List D
 |T,i::L,v::vs=>b3B (T.set i v) L vs
 |T,_,_=>T
def j9(n:Nat)(L:List Nat)(vs:List D):List D:=b3B (List.replicate n .any) L vs
def b3C(T:List D):List Nat→List D
 | []=>[]
 |i::L=>T.getD i d9::b3C T L
def j1(c:D)(a b:Prop):Prop:=match c with
 | .bool true=>a
 | .bool false=>b
 |_=>False
def o8(id:Nat)(Q:o6→List D→b9→Prop):o6→List D→b9→Prop
 | .exit id',T,S=>if id'=id then Q .normal T S else Q (.exit id') T S
 |e,T,S=>Q e T S
def d6U(k:Nat):List (Nat×List Nat)→Option (List Nat)
 | []=>none
 |(i,L)::l=>if i=k then some L else d6U k l
def hdD:Code→Option Nat
 | .region id _ _=>some (2*id)
 | .seq a b=>match hdD a with
  |some k=>some k
  |none=>hdD b
 | .cond _ a b=>match hdD a with
  |some k=>some (2*k+1)
  |none=>match hdD b with
   |some k=>some (2*k+1)
   |none=>none
 | .block _ c| .loop c=>hdD c
 |_=>none
def e2i(cuts:List (Nat×List Nat))(c:Code):Option (List Nat):=match hdD c with
 |some id=>d6U id cuts
 |none=>none
def d2w(P:Program)(G:DW)(ops:Array Oper)(T:List D)(S:b9)(Q:List D→b9→Prop):List (List Nat×List (Nat×Nat))→Prop
 | []=>True
 |oe::l=>b1X P G (A0 ops oe.1 oe.2) (A0 ops oe.1 oe.2).toList T S Q∧d2w P G ops T S Q l
def d6L(P:Program)(G:DW)(ops:Array Oper)(T:List D)(S:b9)(Q:List D→b9→Prop)(l:List (List Nat×List (Nat×Nat))):Prop:=
 if d6k ops l&&l.all fun oe=>d1s P (A0 ops oe.1 oe.2) then d2w P G ops T S Q l else False
section
variable(P:Program)(E:j6)(w0:World)(x:Bool)(loops cuts:List (Nat×List Nat))
def vcD:Code→List D→b9→(o6→List D→b9→Prop)→Prop
 | .skip,T,S,Q=>Q .normal T S
 | .label _,T,S,Q=>Q .normal T S
 | .ret,T,S,Q=>Q .ret T S
 | .exit id,T,S,Q=>Q (.exit id) T S
 | .region id ops draw,T,S,Q=>match draw with
  |false=>b1X P (DF E (FnF P E w0 x)) ops ops.toList T S (Q .normal)
  |true=>match d6U (1000000+id) cuts with
   |some []=>if d1s P ops then b1X P (DF E (FnF P E w0 x)) ops ops.toList T S (Q .normal) else False
   |some (i::L)=>x=false∧d6L P (DF E (FnF P E w0 x)) ops T S (Q .normal) (b3S ops.size (b7C ops) (d3u P ops++i::L) (ops.size*ops.size) [])
   |none=>e1h P (DF E (J6 P E w0)) x ops T S (Q .normal)
 | .seq a b,T,S,Q=>match e2i cuts b with
  |some L=>vcD a T S fun ex T' S'=>match ex with
   | .normal=>j0 P E w0 x b (j9 T.length L (b3C T' L)) S' Q
   |e=>Q e T' S'
  |none=>vcD a T S fun ex T' S'=>match ex with
   | .normal=>vcD b T' S' Q
   |e=>Q e T' S'
 | .cond c a b,T,S,Q=>j1 (C7 T c) (vcD a T S Q) (vcD b T S Q)
 | .block id c,T,S,Q=>vcD c T S (o8 id Q)
 | .loop c,T,S,Q=>match e2i loops c with
  |some L=>j0 P E w0 x (.loop c) (j9 T.length L (b3C T L)) S Q
  |none=>j0 P E w0 x (.loop c) T S Q
 |_,_,_,_=>False
end
section
variable(P:Program)(E:j6)(w0:World)(x:Bool)(loops cuts:List (Nat×List Nat))
def w6(b:Code)(Q:o6→List D→b9→Prop)(ex:o6)(T:List D)(S:b9):Prop:=match ex with
 | .normal=>vcD P E w0 x loops cuts b T S Q
 |e=>Q e T S
def d9U(n:Nat)(L:List Nat)(b:Code)(Q:o6→List D→b9→Prop)(ex:o6)(T:List D)(S:b9):Prop:=match ex with
 | .normal=>j0 P E w0 x b (j9 n L (b3C T L)) S Q
 |e=>Q e T S
end
def q8(N:List D→b9→Prop)(Q:o6→List D→b9→Prop)(ex:o6)(T:List D)(S:b9):Prop:=match ex with
 | .normal=>N T S
 |e=>Q e T S
def b7j(P:Program)(S:b9)(T:List D):List ResultVar→(List D→Prop)→Prop
 | [],K=>K []
 | .tmp t::l,K=>b7j P S T l fun vs=>K (T.getD t d9::vs)
 | .cell a t::l,K=>b7 (d7h P S t (T.getD a d9)) fun v=>b7j P S T l fun vs=>K (v::vs)
def d8R:List D→D
 | [v]=>v
 |vs=> .tup vs
def z7(P:Program)(fn:Func)(Q:D→b9→Prop):o6→List D→b9→Prop
 | .exit _,_,_=>False
 |_,T,S=>b7j P S T fn.results.toList fun vs=>Q (d8R vs) S
def i9(E:j6)(Q:D→b9→Prop)(d:D)(S:b9):Prop:=
 ∀R H v,G4 E R S H→Rp E R d v→∃R' S' d',R.le R'∧G4 E R' S' H∧Rp E R' d' v∧Q d' S'
section
variable{P:Program}{E:j6}{w0:World}{x:Bool}
theorem a6U.mono{c:Code}{T:List AV}{H:AHeap}{Q Q':o6→List AV→AHeap→Prop}(h:a6U P E w0 x c T H Q)(hq:∀ex T' H',Q ex T' H'→Q' ex T' H'):a6U P E w0 x c T H Q':=by
 cases x
 ·exact H9.mono h hq
 ·exact a4w.mono h hq
theorem d4t:d0P (FnF P E w0 x):=by
 cases x
 ·exact c8q
 ·exact b1K
theorem b7u{c:Code}{T:List AV}{H:AHeap}{Q:o6→List AV→AHeap→Prop}{ex:o6}(hq:Q ex T H)(h:∀Q',Q' ex T H→H9 P E w0 c T H Q'):a6U P E w0 x c T H Q:=by
 cases x
 ·exact h Q hq
 ·exact d7K hq h
theorem d7Q{a b:Code}{T:List AV}{H:AHeap}{Q:o6→List AV→AHeap→Prop}
  (h:a6U P E w0 x a T H fun ex T' H'=>match ex with| .normal=>a6U P E w0 x b T' H' Q|e=>Q e T' H'):a6U P E w0 x (.seq a b) T H Q:=by
 cases x
 ·exact b7k (H9.mono h fun ex T' H' hq=>by cases ex<;>exact hq)
 ·exact d7S (a4w.mono h fun ex T' H' hq=>by cases ex<;>exact hq)
theorem d4g{id:Nat}{c:Code}{T:List AV}{H:AHeap}{Q:o6→List AV→AHeap→Prop}(h:a6U P E w0 x c T H (b3g id Q)):a6U P E w0 x (.block id c) T H Q:=by
 cases x
 ·exact a5V h
 ·exact d3B h
theorem c8T{c:Operand}{a b:Code}{T:List AV}{H:AHeap}{Q:o6→List AV→AHeap→Prop}{t:Bool}(hc:p8 T c= .bool t)(h:a6U P E w0 x (if t then a else b) T H Q):a6U P E w0 x (.cond c a b) T H Q:=by
 have key:∀ {Q:o6→List AV→AHeap→Prop},H9 P E w0 (if t then a else b) T H Q→H9 P E w0 (.cond c a b) T H Q:=fun h=>d5Z (by
  rw[hc]
  cases t<;>exact h)
 cases x
 ·exact key h
 ·intro hr
  obtain⟨ex,T',H',h1,h2⟩:=h hr
  exact⟨ex,T',H',key h1,h2⟩
theorem d5d{c:Code}{Q:o6→List AV→AHeap→Prop}{I:Nat→List AV→AHeap→Prop}
  (step:∀n T H,I n T H→a6U P E w0 x c T H fun ex T' H'=>match ex with| .normal=>∃m,m<n∧I m T' H'|e=>Q e T' H')
  {n:Nat} {T:List AV} {H:AHeap} (h:I n T H):a6U P E w0 x (.loop c) T H Q:=by
 cases x
 ·exact c9p (fun n T H hI=>H9.mono (step n T H hI) fun ex T' H' hq=>by cases ex<;>exact hq) h
 ·exact d5z (fun n T H hI=>a4w.mono (step n T H hI) fun ex T' H' hq=>by cases ex<;>exact hq) h
theorem j0.mono{c:Code}{T:List D}{S:b9}{Q Q':o6→List D→b9→Prop}(h:j0 P E w0 x c T S Q)(hq:∀ex T' S',T'.length=T.length→Q ex T' S'→Q' ex T' S'):j0 P E w0 x c T S Q':=fun R H avs F hC hT=>
 (h R H avs F hC hT).mono fun ex T' H' ⟨F',R',S',T1,a,b,c,d,e⟩=>⟨F',R',S',T1,a,b,c,d,hq _ _ _ d e⟩
theorem DF.mono{F:FW}(hF:d0P F){f:FuncId}{ds:List D}{S:b9}{Q Q':D→b9→Prop}(h:DF E F f ds S Q)(hq:∀d S',Q d S'→Q' d S'):DF E F f ds S Q':=fun R H avs hFi hC ha=>
 hF _ _ _ _ _ (h R H avs hFi hC ha) fun v H' ⟨F',R',S',d,a,b,c,e⟩=>⟨F',R',S',d,a,b,c,hq _ _ e⟩
theorem o9.use{f:FuncId}{ds:List D}{S:b9}{Q Q':D→b9→Prop}(h:o9 P E w0 x f ds S Q)(hq:∀d S',Q d S'→Q' d S'):o9 P E w0 x f ds S Q':=DF.mono d4t h hq
theorem o9.toX{f:FuncId}{ds:List D}{S:b9}{Q Q':D→b9→Prop}(h:o9 P E w0 true f ds S Q)(hq:∀d S',Q d S'→Q' d S'):DF E (J6 P E w0) f ds S Q':=DF.mono b1K h hq
theorem o9.any{f:FuncId}{ds:List D}{S:b9}{Q:D→b9→Prop}(h:o9 P E w0 true f ds S Q):o9 P E w0 x f ds S Q:=by
 cases x
 ·exact fun R H avs hFi hC ha=>(h R H avs hFi hC ha).toW
 ·exact h
theorem b8s:∀(T:List D) (L:List Nat) (vs:List D),(b3B T L vs).length=T.length
 |T,i::L,v::vs=>by rw[b3B,b8s,List.length_set]
 |T,[],_=>by simp[b3B]
 |T,_::_,[]=>by simp[b3B]
theorem l8(n:Nat)(L:List Nat)(vs:List D):(j9 n L vs).length=n:=by rw[j9,b8s,List.length_replicate]
theorem d7j{R:Fz}:∀ {avs:List AV},C8 E R (List.replicate avs.length .any) avs
 | []=>K4
 |v::avs=>D4 b2Y d7j
theorem e0e{R:Fz}{T:List D}{avs:List AV}(h:C8 E R T avs)(L:List Nat):C8 E R (j9 T.length L (b3C T L)) avs:=by
 have main:∀(L:List Nat) (T0:List D),T0.length=T.length→C8 E R T0 avs→C8 E R (b3B T0 L (b3C T L)) avs:=by
  intro L
  induction L with
  |nil=>intro T0 hl h0;simpa [b3B,b3C]using h0
  |cons i L ih=>
   intro T0 hl h0
   simp only[b3C,b3B]
   refine ih _ (by rw[List.length_set,hl]) ?_
   by_cases hi:i<T.length
   ·have hlen:=h.length
    have:=h0.set i (c2h h i)
    rw[List.getD_eq_getElem?_getD (l:=avs),List.getElem?_eq_getElem (by omega),Option.getD_some,List.set_getElem_self]at this
    exact this
   ·rw[List.set_eq_of_length_le (by omega)]
    exact h0
 refine main L _ (by rw[List.length_replicate]) ?_
 rw[←h.length]
 exact d7j
theorem o5{c:Code}{T:List D}{S:b9}{Q:o6→List D→b9→Prop}{n:Nat}(L:List Nat)(hn:T.length=n)(h:j0 P E w0 x c (j9 n L (b3C T L)) S Q):j0 P E w0 x c T S Q:=fun R H avs F hC hT=>by
 have:=h R H avs F hC (by rw[←hn];exact e0e hT L)
 rw[l8, ←hn]at this
 exact this
theorem o3{c:Code}{Q:o6→List D→b9→Prop}{I:Nat→List D→b9→Prop}{k:Nat}
  (step:∀n T S,T.length=k→I n T S→j0 P E w0 x c T S fun ex T' S'=>match ex with| .normal=>∃m,m<n∧I m T' S'|e=>Q e T' S')
  {n:Nat} {T:List D} {S:b9} (hk:T.length=k) (h:I n T S):j0 P E w0 x (.loop c) T S Q:=fun R H avs F hC hT=>by
 refine d5d (I:=fun n avs H=>a4O E R k (I n) avs H) (fun n avs H hI=> ?_) (n:=n) ⟨F,R,S,T,Fz.le_refl R,hC,hT,hk,h⟩
 obtain⟨F1,R1,S1,T1,a,b,c1,d,e⟩:=hI
 refine(step n T1 S1 d e R1 H avs F1 b c1).mono fun ex T' H' hq=> ?_
 cases ex with
 |normal=>
  obtain⟨F2,R2,S2,T2,a2,b2,c2,d2,m,hm,e2⟩:=hq
  exact⟨m,hm,F2,R2,S2,T2,Fz.le_trans a a2,b2,c2,by rw[d2,d],e2⟩
 |exit id=>
  obtain⟨F2,R2,S2,T2,a2,b2,c2,d2,e2⟩:=hq
  exact⟨F2,R2,S2,T2,Fz.le_trans a a2,b2,c2,by rw[d2,d,hk],e2⟩
 |ret=>
  obtain⟨F2,R2,S2,T2,a2,b2,c2,d2,e2⟩:=hq
  exact⟨F2,R2,S2,T2,Fz.le_trans a a2,b2,c2,by rw[d2,d,hk],e2⟩
theorem d8k{id:Nat}{ops:Array Oper}{T:List D}{S:b9}{Q:o6→List D→b9→Prop}(h:b1X P (DF E (FnF P E w0 x)) ops ops.toList T S (Q .normal)):j0 P E w0 x (.region id ops false) T S Q:=fun R H avs F hC hT=>by
 cases x
 ·exact c1T (c1d (d3f F hC hT h))
 ·intro hr
  obtain⟨T',H',h1,h2⟩:=d1W (d5T F hC hT h) hr
  exact⟨.normal,T',H',c1T (by simpa using h1),h2⟩
theorem d5D(hm:P.follows .mixedOrders=true){id:Nat}{ops:Array Oper}{T:List D}{S:b9}{Q:o6→List D→b9→Prop}(h:b4r P (DF E (J6 P E w0)) ops ops.toList [] T S [] (Q .normal)):j0 P E w0 x (.region id ops true) T S Q:=fun R H avs F hC hT=>by
 have hd:=c7J (ds:=[]) (ys:=[]) (older:=[]) (Gs:=[]) F hC hT trivial trivial h
 have hX:a4w P E w0 (.region id ops true) avs H (d8A E R T.length Q):=fun hr=>by
  obtain⟨T',H',h1,h2⟩:=b7x (b1T (fun d hd=>by cases hd) hd hr)
  exact⟨.normal,T',H',d5w hm (by simpa using h1),h2⟩
 cases x
 ·exact hX.toW
 ·exact hX
theorem d5H(hm:P.follows .mixedOrders=true){id:Nat}{ops:Array Oper}(hB:d1s P ops=true){T:List D}{S:b9}{Q:o6→List D→b9→Prop}(h:b1X P (DF E (FnF P E w0 x)) ops ops.toList T S (Q .normal)):j0 P E w0 x (.region id ops true) T S Q:=fun R H avs F hC hT=>by
 cases x
 ·exact c9B hm hB (d1P (d3f F hC hT h))
 ·intro hr
  obtain⟨T',H',h1,h2⟩:=d6c (d5T F hC hT h) hr
  exact⟨.normal,T',H',c9B hm hB (by simpa using h1),h2⟩
theorem c4q{G:DW}{ops:Array Oper}{T:List D}{S:b9}{Q:List D→b9→Prop}:∀ {l:List (List Nat×List (Nat×Nat))},d2w P G ops T S Q l→∀oe∈l,b1X P G (A0 ops oe.1 oe.2) (A0 ops oe.1 oe.2).toList T S Q
 | [],_,_,h=>by cases h
 |_::l,h,oe,hm=>by
  rcases List.mem_cons.1 hm with e|hm
  ·subst e;exact h.1
  ·exact c4q h.2 oe hm
theorem d4z(hm:P.follows .mixedOrders=true){id:Nat}{ops:Array Oper}{ws:List Nat}{f:Nat}{T:List D}{S:b9}{Q:o6→List D→b9→Prop}(h:d6L P (DF E (FnW P E w0)) ops T S (Q .normal) (b3S ops.size (b7C ops) ws f [])):j0 P E w0 false (.region id ops true) T S Q:=fun R H avs F hC hT=>by
 unfold d6L at h
 split at h
 ·rename_i hok
  unfold d6k at hok
  simp only[Bool.and_eq_true]at hok
  exact d4l hm _ hok.1.1.1 hok.1.1.2 hok.1.2 hok.2 (fun p hinj=>b4d hinj _ _ (fun xy hx=>by cases hx)) fun oe hoe=>d1P (d3f F hC hT (c4q h oe hoe))
 ·exact h.elim
variable{loops cuts:List (Nat×List Nat)}
theorem b6H(hm:P.follows .mixedOrders=true):∀(c:Code) (T:List D) (S:b9) (Q:o6→List D→b9→Prop),vcD P E w0 x loops cuts c T S Q→j0 P E w0 x c T S Q
 | .skip,T,S,Q,h=>fun R H avs F hC hT=>b7u ⟨F,R,S,T,Fz.le_refl R,hC,hT,rfl,h⟩ fun _=>d6f
 | .label _,T,S,Q,h=>fun R H avs F hC hT=>b7u ⟨F,R,S,T,Fz.le_refl R,hC,hT,rfl,h⟩ fun _=>d4f
 | .ret,T,S,Q,h=>fun R H avs F hC hT=>b7u ⟨F,R,S,T,Fz.le_refl R,hC,hT,rfl,h⟩ fun _=>d7N
 | .exit id,T,S,Q,h=>fun R H avs F hC hT=>b7u ⟨F,R,S,T,Fz.le_refl R,hC,hT,rfl,h⟩ fun _=>d5N
 | .region _ ops false,T,S,Q,h=>d8k h
 | .region id ops true,T,S,Q,h=>by
  change (match d6U (1000000+id) cuts with
   |some []=>if d1s P ops then b1X P (DF E (FnF P E w0 x)) ops ops.toList T S (Q .normal) else False
   |some (i::L)=>x=false∧d6L P (DF E (FnF P E w0 x)) ops T S (Q .normal) (b3S ops.size (b7C ops) (d3u P ops++i::L) (ops.size*ops.size) [])
   |none=>e1h P (DF E (J6 P E w0)) x ops T S (Q .normal))at h
  split at h
  ·split at h
   ·rename_i hB
    exact d5H hm hB h
   ·exact h.elim
  ·obtain⟨rfl,h⟩:=h
   exact d4z hm h
  unfold e1h at h
  split at h
  ·exact d5D hm h
  ·obtain⟨rfl,h⟩:=h
   exact fun R H avs F hC hT=>e0b hm F hC hT h
 | .seq a b,T,S,Q,h=>fun R H avs F hC hT=>by
  simp only[vcD]at h
  have fin:j0 P E w0 x a T S (fun ex T' S'=>match ex with| .normal=>j0 P E w0 x b T' S' Q|e=>Q e T' S')→a6U P E w0 x (.seq a b) avs H (d8A E R T.length Q):=by
   intro h
   refine d7Q ((h R H avs F hC hT).mono fun ex T' H' hq=> ?_)
   cases ex with
   |normal=>
    obtain⟨F2,R2,S2,T2,a2,b2,c2,d2,e2⟩:=hq
    have:=e2 R2 H' T' F2 b2 c2
    rw[d2]at this
    exact this.mono fun ex T' H' hq=>a4O.le a2 hq
   |exit id=>exact hq
   |ret=>exact hq
  split at h
  ·rename_i L hL
   refine fin ((b6H hm a T S _ h).mono fun ex T' S' hl hq=> ?_)
   cases ex with
   |normal=>exact o5 L hl hq
   |exit id=>exact hq
   |ret=>exact hq
  ·refine fin ((b6H hm a T S _ h).mono fun ex T' S' hl hq=> ?_)
   cases ex with
   |normal=>exact b6H hm b T' S' Q hq
   |exit id=>exact hq
   |ret=>exact hq
 | .cond c a b,T,S,Q,h=>fun R H avs F hC hT=>by
  simp only[vcD]at h
  have hr:=A1 hT c
  unfold j1 at h
  split at h
  ·rename_i e
   rw[e]at hr
   simp only[Rp]at hr
   exact c8T hr (b6H hm a T S Q h R H avs F hC hT)
  ·rename_i e
   rw[e]at hr
   simp only[Rp]at hr
   exact c8T hr (b6H hm b T S Q h R H avs F hC hT)
  ·exact h.elim
 | .block id c,T,S,Q,h=>fun R H avs F hC hT=>by
  refine d4g ((b6H hm c T S _ h R H avs F hC hT).mono fun ex T' H' hq=> ?_)
  cases ex with
  |normal=>exact hq
  |ret=>exact hq
  |exit id'=>
   obtain⟨F2,R2,S2,T2,a2,b2,c2,d2,e2⟩:=hq
   simp only[o8]at e2
   simp only[b3g]
   split at e2
   ·rename_i e;rw[if_pos e];exact⟨F2,R2,S2,T2,a2,b2,c2,d2,e2⟩
   ·rename_i e;rw[if_neg e];exact⟨F2,R2,S2,T2,a2,b2,c2,d2,e2⟩
 | .loop c,T,S,Q,h=>by
  simp only[vcD]at h
  split at h
  ·rename_i L hL;exact o5 L rfl h
  ·exact h
 | .rangeFunc ..,T,S,Q,h=>h.elim
 | .scope ..,T,S,Q,h=>h.elim
 | .goto ..,T,S,Q,h=>h.elim
 | .refuse ..,T,S,Q,h=>h.elim
theorem b9q{R:Fz}{S:b9}{H:AHeap}{T:List D}{avs:List AV}(hC:G4 E R S H)(hT:C8 E R T avs):∀ {l:List ResultVar} {K:List D→Prop} {K':List AV→Prop},(∀ds vs,C8 E R ds vs→K ds→K' vs)→b7j P S T l K→P0 P E H avs l K'
 | [],K,K',hk,h=>hk [] [] K4 h
 | .tmp t::l,K,K',hk,h=>by
  have:=b9q (l:=l) (K':=fun vs=>K' (avs.getD t A8::vs)) hC hT (fun ds vs hr hK=>hk (T.getD t d9::ds) (avs.getD t A8::vs) (D4 (c2h hT t) hr) hK) h
  exact this
 | .cell a t::l,K,K',hk,h=>by
  simp only[b7j]at h
  unfold b7 at h
  split at h
  ·rename_i d hd
   have ha:=c2h hT a
   obtain⟨v,h1,h2⟩:=d6G hC ha hd
   have h2:=h2 H (hC.agr _)
   have:=b9q (l:=l) (K':=fun vs=>K' (v::vs)) hC hT (fun ds vs hr hK=>hk (d::ds) (v::vs) (D4 h1 hr) hK) h
   simp only[P0]
   unfold d6r at h2
   split at h2
   ·rename_i o i e
    simp only[e,h2,d1j]
    exact this
   ·cases h2
  ·exact h.elim
theorem d9J{R:Fz}{ds:List D}{vs:List AV}(h:C8 E R ds vs):Rp E R (d8R ds) (b8z vs):=by
 rcases ds with _|⟨d,_|⟨d',ds⟩⟩
 ·simp only[C8]at h;subst h;exact a8W
 ·simp only[C8]at h
  obtain⟨v,_,rfl,h1,rfl⟩:=h
  exact h1
 ·have h':=h
  simp only[C8]at h
  obtain⟨v,_,rfl,h1,v2,vs',rfl,h2,h3⟩:=h
  show Rp E R (.tup (d::d'::ds)) (.tup (v::v2::vs'))
  simp only[Rp]
  exact⟨_,rfl,h'⟩
theorem d3y{f:FuncId}{fn:Func}{c:Code}(hfn:P.funcs[f]? =some fn)(hb:fn.body=some c){ds:List D}{S:b9}{Q:D→b9→Prop}
  (h:j0 P E w0 x c (ds++List.replicate (fn.ntmps - ds.length) d9) S (z7 P fn (i9 E Q))):o9 P E w0 x f ds S Q:=fun R H avs F hC ha=>by
 have hrow:C8 E R (ds++List.replicate (fn.ntmps - ds.length) d9) (avs++List.replicate (fn.ntmps - avs.length) A8):=by
  refine ha.append ?_
  rw[ha.length]
  generalize fn.ntmps - ds.length=m
  induction m with
  |zero=>exact K4
  |succ m ih=>exact D4 a8W ih
 have h':a6U P E w0 x c (avs++List.replicate (fn.ntmps - avs.length) A8) H (e0P P E fn (a4t E R Q)):=by
  refine(h R H _ F hC hrow).mono fun ex T' H' hq=> ?_
  obtain⟨F2,R2,S2,T2,a2,b2,c2,d2,e2⟩:=hq
  have go:∀ {l:List ResultVar},b7j P S2 T2 l (fun vs=>i9 E Q (d8R vs) S2)→P0 P E H' T' l fun vs=>a4t E R Q (b8z vs) H':=fun h=>b9q b2 c2 (fun ds vs hr hK=>by
   obtain⟨R',S',d',k1,k2,k3,k4⟩:=hK R2 H' _ b2 (d9J hr)
   exact⟨F2,R',S',d',Fz.le_trans a2 k1,k2,k3,k4⟩) h
  cases ex with
  |normal=>exact go e2
  |ret=>exact go e2
  |exit id=>exact e2
 cases x
 ·exact c4W hfn hb h'
 ·exact d4q hfn hb h'
theorem l7(loops cuts:List (Nat×List Nat))(hm:P.follows .mixedOrders=true){f:FuncId}{fn:Func}{c:Code}(hfn:P.funcs[f]? =some fn)(hb:fn.body=some c){ds:List D}{S:b9}{Q:D→b9→Prop}{V:Prop}
  (e:vcD P E w0 x loops cuts c (ds++List.replicate (fn.ntmps - ds.length) d9) S (z7 P fn (i9 E Q))=V) (h:V):o9 P E w0 x f ds S Q:=
 d3y hfn hb (b6H hm _ _ _ _ (e▸h))
theorem j3(loops cuts:List (Nat×List Nat))(hm:P.follows .mixedOrders=true){c:Code}{T:List D}{S:b9}{Q:o6→List D→b9→Prop}{V:Prop}(e:vcD P E w0 x loops cuts c T S Q=V)(h:V):j0 P E w0 x c T S Q:=
 b6H hm _ _ _ _ (e▸h)
theorem i9.here{Q:D→b9→Prop}{d:D}{S:b9}(h:Q d S):i9 E Q d S:=fun R H v hC hd=>⟨R,S,d,Fz.le_refl R,hC,hd,h⟩
theorem i9.less{Q:D→b9→Prop}{d:D}{S S':b9}(hs:S'.le S)(h:i9 E Q d S'):i9 E Q d S:=fun R H v hC hd=>h R H v (hC.less hs) hd
theorem i9.mono{Q Q':D→b9→Prop}{d:D}{S:b9}(h:i9 E Q d S)(hq:∀d S,Q d S→Q' d S):i9 E Q' d S:=fun R H v hC hd=>by
 obtain⟨R',S',d',a,b,c,e⟩:=h R H v hC hd
 exact⟨R',S',d',a,b,c,hq _ _ e⟩
theorem i9.freeze{Q:D→b9→Prop}{S:b9}{k:Nat}{o:K8}(hk:S k=some o){i len cap:Nat}{ex:Bool}{sz:Nat}(hsz:o.sz=sz)(hl:i+len≤o.rows.length)(hc:len≤cap)
  (h:i9 E Q (.lst ((o.rows.drop i).take len) sz) (S.erase k)):i9 E Q (.raw k i len cap ex sz) S:=fun R H v hC hd=>by
 obtain⟨h1,h2⟩:=hC.freeze hk
 obtain⟨R',S',d',a,b,c,e⟩:=h _ H v h1 (b7l hC hk hd hsz hl hc)
 exact⟨R',S',d',Fz.le_trans h2 a,b,c,e⟩
theorem i9.freezeT{Q:D→b9→Prop}{S:b9}{k:Nat}{o:K8}(hk:S k=some o){i len cap:Nat}{ex:Bool}{sz:Nat}(hsz:o.sz=sz)(hl:i+len≤o.rows.length)(hc:len≤cap){lp lq:List D}
  (h:i9 E Q (.tup (lp++ .lst ((o.rows.drop i).take len) sz::lq)) (S.erase k)):i9 E Q (.tup (lp++ .raw k i len cap ex sz::lq)) S:=fun R H v hC hd=>by
 obtain⟨h1,h2⟩:=hC.freeze hk
 simp only[Rp]at hd
 obtain⟨vs,rfl,hv⟩:=hd
 obtain⟨v1,v2,rfl,g1,g2⟩:=b1U hv
 simp only[C8]at g2
 obtain⟨w,ws,rfl,g3,g4⟩:=g2
 obtain⟨R',S',d',a,b,c,e⟩:=h _ H (.tup (v1++w::ws)) h1 (by
  simp only[Rp]
  exact⟨_,rfl,(C8.le h2 _ _ g1).append (D4 (b7l hC hk g3 hsz hl hc) (C8.le h2 _ _ g4))⟩)
 exact⟨R',S',d',Fz.le_trans h2 a,b,c,e⟩
theorem i9.nil{Q:D→b9→Prop}{S:b9}{sz:Nat}(h:i9 E Q (.lst [] sz) S):i9 E Q .nilSlc S:=fun R H v hC hd=>h R H v hC (by simp only[Rp]at hd ⊢;exact .inl ⟨trivial,hd⟩)
theorem i9.nilT{Q:D→b9→Prop}{S:b9}{sz:Nat}{lp lq:List D}(h:i9 E Q (.tup (lp++ .lst [] sz::lq)) S):i9 E Q (.tup (lp++ .nilSlc::lq)) S:=fun R H v hC hd=>h R H v hC (by
 simp only[Rp]at hd ⊢
 obtain⟨vs,rfl,hv⟩:=hd
 obtain⟨v1,v2,rfl,g1,g2⟩:=b1U hv
 simp only[C8]at g2
 obtain⟨w,ws,rfl,g3,g4⟩:=g2
 exact⟨_,rfl,g1.append (D4 (by simp only[Rp]at g3 ⊢;exact .inl ⟨trivial,g3⟩) g4)⟩)
def L1(P:Program)(E:j6)(w0:World)(f:FuncId)(ds:List D)(d:D):Prop:=∀x S,o9 P E w0 x f ds S fun d' S'=>d'=d∧S'=S
theorem L1.use{f:FuncId}{ds:List D}{d:D}(h:L1 P E w0 f ds d){S:b9}{K:D→b9→Prop}(hk:K d S):o9 P E w0 x f ds S K:=(h x S).use fun d' S' ⟨a,b⟩=>by subst a b;exact hk
theorem L1.useX{f:FuncId}{ds:List D}{d:D}(h:L1 P E w0 f ds d){S:b9}{K:D→b9→Prop}(hk:K d S):DF E (J6 P E w0) f ds S K:=(h true S).toX fun d' S' ⟨a,b⟩=>by subst a b;exact hk
end
end
end Go.Am
end
section
open Go.Proofs Go Go.Am
namespace Go.Proofs.YtchnpgddpaonhaaGreat.d
section
theorem m7:Tryz.prog.follows .mixedOrders=true:=by kernel_rfl
abbrev b6a:TypeId:=47
abbrev a6O:FuncId:=3
abbrev b9u:FuncId:=5
abbrev a0S:FuncId:=6
abbrev a5s:FuncId:=7
abbrev a8w:FuncId:=8
abbrev G5:FuncId:=9
abbrev a2x:FuncId:=10
abbrev a2s:FuncId:=11
abbrev Z7:FuncId:=12
abbrev a9h:FuncId:=13
abbrev a5r:FuncId:=16
abbrev a8r:FuncId:=17
abbrev a4q:FuncId:=19
abbrev b3G:FuncId:=20
abbrev a2A:FuncId:=21
abbrev b6G:FuncId:=22
abbrev a4i:FuncId:=23
abbrev b3M:FuncId:=24
abbrev N9:FuncId:=25
abbrev a1W:FuncId:=26
abbrev b9o:FuncId:=27
abbrev b3E:FuncId:=28
abbrev a2H:FuncId:=29
abbrev a2D:FuncId:=30
abbrev a7z:FuncId:=31
abbrev a4v:FuncId:=32
abbrev a8i:FuncId:=38
abbrev a3Q:FuncId:=39
abbrev B4:FuncId:=40
abbrev a0r:FuncId:=41
abbrev a2F:FuncId:=42
abbrev C4:FuncId:=43
abbrev a2h:FuncId:=44
abbrev a2L:FuncId:=45
abbrev P5:FuncId:=46
abbrev a2g:FuncId:=47
abbrev a2E:FuncId:=48
abbrev s6:FuncId:=49
abbrev M6:FuncId:=50
abbrev H5:FuncId:=51
abbrev Q7:FuncId:=52
abbrev a2X:FuncId:=53
abbrev a0P:FuncId:=54
abbrev b0H:FuncId:=55
abbrev b7d:FuncId:=56
abbrev a5A:FuncId:=57
abbrev u4:FuncId:=58
abbrev a1F:FuncId:=59
abbrev b5Z:FuncId:=67
abbrev a5c:FuncId:=75
abbrev a6i:FuncId:=76
abbrev P1:FuncId:=77
abbrev Y5:FuncId:=78
abbrev a1j:FuncId:=79
abbrev V5:FuncId:=80
abbrev a3V:FuncId:=81
abbrev L4:FuncId:=82
abbrev c2U:FuncId:=83
abbrev L3:FuncId:=84
abbrev a4c:FuncId:=85
abbrev b0m:FuncId:=86
abbrev b8S:FuncId:=87
abbrev a8j:FuncId:=88
abbrev b9V:FuncId:=89
abbrev b0t:FuncId:=90
abbrev b2D:FuncId:=91
abbrev b1o:FuncId:=92
abbrev a0v:FuncId:=96
abbrev a7p:FuncId:=97
abbrev P2:FuncId:=98
abbrev b9n:FuncId:=99
abbrev r8:FuncId:=100
abbrev m6:FuncId:=101
abbrev r0:FuncId:=102
abbrev V0:FuncId:=103
abbrev b9Q:FuncId:=104
abbrev b7f:FuncId:=105
abbrev a5I:FuncId:=106
abbrev C6:FuncId:=107
abbrev a2f:FuncId:=108
abbrev a0q:FuncId:=109
abbrev U1:FuncId:=110
abbrev b3P:FuncId:=111
abbrev R6:FuncId:=112
abbrev a7B:FuncId:=113
abbrev D1:FuncId:=114
abbrev u7:FuncId:=115
abbrev F3:FuncId:=116
abbrev b2I:FuncId:=117
abbrev a0k:FuncId:=118
abbrev a0O:FuncId:=119
abbrev Y3:FuncId:=120
abbrev a4n:FuncId:=121
abbrev b3k:FuncId:=122
abbrev a0D:FuncId:=123
abbrev a3O:FuncId:=124
abbrev b6m:FuncId:=125
abbrev b2u:FuncId:=126
abbrev a1R:FuncId:=127
abbrev b3x:FuncId:=128
abbrev Z8:FuncId:=129
abbrev b6r:FuncId:=130
abbrev b5K:FuncId:=131
abbrev a1P:FuncId:=132
end
section
variable{E:j6}{w0:World}{x:Bool}{Q:D→b9→Prop}
def d1v:List (Nat×List Nat):=[]
def d2H:List (Nat×List Nat):=[]
def c4D(E:j6)(w0:World)(x:Bool)(Q:D→b9→Prop)(a0:D)(S:b9):Prop:=
 b7 (i6 .eql a0 (.int .u8 1)) fun v0=>
 j1 v0
 (Q (.int .i64 8) S)
 (b7 (i6 .eql a0 (.int .u8 2)) fun v1=>
 j1 v1
 (Q (.int .i64 32) S)
 (b7 (i6 .eql a0 (.int .u8 3)) fun v2=>
 j1 v2
 (Q (.int .i64 64) S)
 (Q (.int .i64 0) S)))
theorem c6Y{a0:D}{S:b9}(h:c4D E w0 x (i9 E Q) a0 S):o9 Tryz.prog E w0 x b6r [a0] S Q:=
 l7 d1v d2H (fn:=Tryz.f130) (c:=Tryz.f130.body.getD .skip) m7 Tryz.func130 (by kernel_rfl) (by kernel_rfl) h
def d1z:List (Nat×List Nat):=[]
def d2y:List (Nat×List Nat):=[]
def c4y(E:j6)(w0:World)(x:Bool)(Q:D→b9→Prop)(a0 a1:D)(S:b9):Prop:=
 b7 (i6 .eql a0 (.int .u8 1)) fun v0=>
 j1 v0
 (b7 (E7 .i8 a1) fun v1=>
 b7 (E7 .i64 v1) fun v2=>
 Q v2 S)
 (b7 (i6 .eql a0 (.int .u8 2)) fun v3=>
 j1 v3
 (b7 (E7 .i32 a1) fun v4=>
 b7 (E7 .i64 v4) fun v5=>
 Q v5 S)
 (b7 (i6 .eql a0 (.int .u8 3)) fun v6=>
 j1 v6
 (Q a1 S)
 (Q (.int .i64 0) S)))
theorem c9c{a0 a1:D}{S:b9}(h:c4y E w0 x (i9 E Q) a0 a1 S):o9 Tryz.prog E w0 x b5K [a0,a1] S Q:=
 l7 d1z d2y (fn:=Tryz.f131) (c:=Tryz.f131.body.getD .skip) m7 Tryz.func131 (by kernel_rfl) (by kernel_rfl) h
def d1R:List (Nat×List Nat):=[]
def d1V:List (Nat×List Nat):=[]
def c4C(E:j6)(w0:World)(x:Bool)(Q:D→b9→Prop)(a0 a1:D)(S:b9):Prop:=
 o9 Tryz.prog E w0 x b6r [a0] S fun v0 S1=>
 b7 (i6 .gtr v0 (.int .i64 0)) fun v2=>
 b7 (i4 (i0 v2 true) (some a0)) fun v3=>
 b7 (i4 (i0 v2 true) (some a1)) fun v4=>
 F7 (i0 v2 true) (fun K=>o9 Tryz.prog E w0 x b5K [v3,v4] S1 K) S1 fun v5 S6=>
 b7 (i4 (i0 v2 true) (some a1)) fun v7=>
 b7 (i4 (i0 v2 true) (i6 .eql v5 v7)) fun v8=>
 b7 (o7 v2 v8 (.bool false)) fun v9=>
 Q v9 S6
theorem c9t{a0 a1:D}{S:b9}(h:c4C E w0 x (i9 E Q) a0 a1 S):o9 Tryz.prog E w0 x b6m [a0,a1] S Q:=
 l7 d1R d1V (fn:=Tryz.f125) (c:=Tryz.f125.body.getD .skip) m7 Tryz.func125 (by kernel_rfl) (by kernel_rfl) h
def d0q:List (Nat×List Nat):=[]
def c9Q:List (Nat×List Nat):=[]
def c1v(E:j6)(w0:World)(x:Bool)(Q:D→b9→Prop)(a0:D)(S:b9):Prop:=
 b7 (i6 .eql a0 (.int .u8 1)) fun v0=>
 j1 v0
 (Q (.int .i64 8) S)
 (b7 (i6 .eql a0 (.int .u8 2)) fun v1=>
 j1 v1
 (Q (.int .i64 32) S)
 (b7 (i6 .eql a0 (.int .u8 3)) fun v2=>
 j1 v2
 (Q (.int .i64 64) S)
 (Q (.int .i64 0) S)))
theorem c5W{a0:D}{S:b9}(h:c1v E w0 x (i9 E Q) a0 S):o9 Tryz.prog E w0 x a4n [a0] S Q:=
 l7 d0q c9Q (fn:=Tryz.f121) (c:=Tryz.f121.body.getD .skip) m7 Tryz.func121 (by kernel_rfl) (by kernel_rfl) h
def a2q:List (Nat×List Nat):=[(8,[1,5,6,7]),(16,[1,5,6,8])]
def a2t:List (Nat×List Nat):=[]
noncomputable def a8N:Code:=(j4 [1,1,1,1,0,1,0,0] (Tryz.f122.body.getD .skip))
def a7O(E:j6)(w0:World)(x:Bool)(Q:D→b9→Prop):o6→List D→b9→Prop:=
 (o8 2 (w6 Tryz.prog E w0 x a2q a2t (j4 [1,1,1,1,1] (Tryz.f122.body.getD .skip)) (z7 Tryz.prog Tryz.f122 Q)))
def a9O(E:j6)(w0:World)(x:Bool)(N1:D→D→D→D→b9→Prop)(Q:D→b9→Prop)(x1 x5 x6 x8:D)(S:b9):Prop:=
 b7 (i6 .gtr x5 (.int .i64 0)) fun v9=>
 b7 (i4 (i0 v9 true) (some x8)) fun v10=>
 b7 (i4 (i0 v9 true) (i6 .lss v10 (.int .i64 64))) fun v11=>
 b7 (o7 v9 v11 (.bool false)) fun v12=>
 j1 v12
 (b7 (E7 .u64 x1) fun v13=>
 b7 (i6 .sub x5 (.int .i64 1)) fun v14=>
 b7 (i6 .shr v13 v14) fun v15=>
 b7 (i6 .and v15 (.int .u64 1)) fun v16=>
 b7 (i6 .shl v16 x8) fun v17=>
 b7 (i6 .or x6 v17) fun v18=>
 b7 (i6 .add x8 (.int .i64 1)) fun v19=>
 N1 x1 x5 v18 v19 S)
 (b7 (E7 .i64 x6) fun v20=>
 Q v20 S)
theorem c0M{N1:D→D→D→D→b9→Prop}{Q:D→b9→Prop}{x1 x5 x6 x8:D}{S:b9}(h:a9O E w0 x N1 Q x1 x5 x6 x8 S):
  j0 Tryz.prog E w0 x a8N (j9 46 [1,5,6,8] [x1,x5,x6,x8]) S (q8 (fun T S=>N1 (T.getD 1 d9) (T.getD 5 d9) (T.getD 6 d9) (T.getD 8 d9) S) (a7O E w0 x Q)):=j3 a2q a2t m7 (by kernel_rfl) h
theorem c1K(I:Nat→D→D→D→D→b9→Prop)
  (step:∀n x1 x5 x6 x8 S,I n x1 x5 x6 x8 S→a9O E w0 x (fun x1 x5 x6 x8 S=>∃m,m<n∧I m x1 x5 x6 x8 S) Q x1 x5 x6 x8 S)
  {n:Nat} {x1 x5 x6 x8:D} {S:b9} (h:I n x1 x5 x6 x8 S):j0 Tryz.prog E w0 x (.loop a8N) (j9 46 [1,5,6,8] [x1,x5,x6,x8]) S (a7O E w0 x Q):=
 o3 (k:=46) (n:=n) (I:=fun n T S=>I n (T.getD 1 d9) (T.getD 5 d9) (T.getD 6 d9) (T.getD 8 d9) S) (fun n T S hl hI=>o5 [1,5,6,8] hl (j0.mono (c0M (step n _ _ _ _ S hI)) fun ex T' S' _ hq=>by cases ex<;>exact hq)) (l8 ..) (Eq.mp (by kernel_rfl) h)
noncomputable def a9D:Code:=(j4 [1,1,1,0,1,0,0] (Tryz.f122.body.getD .skip))
def a8A(E:j6)(w0:World)(x:Bool)(Q:D→b9→Prop):o6→List D→b9→Prop:=
 (o8 0 (w6 Tryz.prog E w0 x a2q a2t (j4 [1,1,1,1] (Tryz.f122.body.getD .skip)) (z7 Tryz.prog Tryz.f122 Q)))
def a8f(E:j6)(w0:World)(x:Bool)(N0:D→D→D→D→b9→Prop)(Q:D→b9→Prop)(x1 x5 x6 x7:D)(S:b9):Prop:=
 b7 (i6 .lss x7 x5) fun v2=>
 j1 v2
 (b7 (E7 .u64 x1) fun v3=>
 b7 (i6 .shr v3 x7) fun v4=>
 b7 (i6 .and v4 (.int .u64 1)) fun v5=>
 b7 (i6 .shl v5 x7) fun v6=>
 b7 (i6 .or x6 v6) fun v7=>
 b7 (i6 .add x7 (.int .i64 1)) fun v8=>
 N0 x1 x5 v7 v8 S)
 (j0 Tryz.prog E w0 x (.loop a8N) (j9 46 [1,5,6,8] [x1,x5,x6,x5]) S (a7O E w0 x Q))
theorem c1B{N0:D→D→D→D→b9→Prop}{Q:D→b9→Prop}{x1 x5 x6 x7:D}{S:b9}(h:a8f E w0 x N0 Q x1 x5 x6 x7 S):
  j0 Tryz.prog E w0 x a9D (j9 46 [1,5,6,7] [x1,x5,x6,x7]) S (q8 (fun T S=>N0 (T.getD 1 d9) (T.getD 5 d9) (T.getD 6 d9) (T.getD 7 d9) S) (a8A E w0 x Q)):=j3 a2q a2t m7 (by kernel_rfl) h
theorem c0I(I:Nat→D→D→D→D→b9→Prop)
  (step:∀n x1 x5 x6 x7 S,I n x1 x5 x6 x7 S→a8f E w0 x (fun x1 x5 x6 x7 S=>∃m,m<n∧I m x1 x5 x6 x7 S) Q x1 x5 x6 x7 S)
  {n:Nat} {x1 x5 x6 x7:D} {S:b9} (h:I n x1 x5 x6 x7 S):j0 Tryz.prog E w0 x (.loop a9D) (j9 46 [1,5,6,7] [x1,x5,x6,x7]) S (a8A E w0 x Q):=
 o3 (k:=46) (n:=n) (I:=fun n T S=>I n (T.getD 1 d9) (T.getD 5 d9) (T.getD 6 d9) (T.getD 7 d9) S) (fun n T S hl hI=>o5 [1,5,6,7] hl (j0.mono (c1B (step n _ _ _ _ S hI)) fun ex T' S' _ hq=>by cases ex<;>exact hq)) (l8 ..) (Eq.mp (by kernel_rfl) h)
def c0p(E:j6)(w0:World)(x:Bool)(Q:D→b9→Prop)(a0 a1:D)(S:b9):Prop:=
 o9 Tryz.prog E w0 x a4n [a0] S fun v0 S1=>
 j0 Tryz.prog E w0 x (.loop a9D) (j9 46 [1,5,6,7] [a1,v0,(.int .u64 0),(.int .i64 0)]) S1 (a8A E w0 x Q)
theorem c5j{a0 a1:D}{S:b9}(h:c0p E w0 x (i9 E Q) a0 a1 S):o9 Tryz.prog E w0 x b3k [a0,a1] S Q:=
 l7 a2q a2t (fn:=Tryz.f122) (c:=Tryz.f122.body.getD .skip) m7 Tryz.func122 (by kernel_rfl) (by kernel_rfl) h
def d0e:List (Nat×List Nat):=[]
def c9W:List (Nat×List Nat):=[]
def c0m(E:j6)(w0:World)(x:Bool)(Q:D→b9→Prop)(a0 a1:D)(S:b9):Prop:=
 o9 Tryz.prog E w0 x a4n [a0] S fun v0 S1=>
 b7 (i6 .gtr v0 (.int .i64 0)) fun v2=>
 b7 (i4 (i0 v2 true) (some a0)) fun v3=>
 b7 (i4 (i0 v2 true) (some a1)) fun v4=>
 F7 (i0 v2 true) (fun K=>o9 Tryz.prog E w0 x b3k [v3,v4] S1 K) S1 fun v5 S6=>
 b7 (i4 (i0 v2 true) (some a1)) fun v7=>
 b7 (i4 (i0 v2 true) (i6 .eql v5 v7)) fun v8=>
 b7 (o7 v2 v8 (.bool false)) fun v9=>
 Q v9 S6
theorem c5h{a0 a1:D}{S:b9}(h:c0m E w0 x (i9 E Q) a0 a1 S):o9 Tryz.prog E w0 x b3P [a0,a1] S Q:=
 l7 d0e c9W (fn:=Tryz.f111) (c:=Tryz.f111.body.getD .skip) m7 Tryz.func111 (by kernel_rfl) (by kernel_rfl) h
def b1x:List (Nat×List Nat):=[(10,[0,5,15,16])]
def b0O:List (Nat×List Nat):=[]
noncomputable def a8h:Code:=(j4 [1,1,1,0,1,0,0] (Tryz.f26.body.getD .skip))
def a8l(E:j6)(w0:World)(x:Bool)(Q:D→b9→Prop):o6→List D→b9→Prop:=
 (o8 0 (w6 Tryz.prog E w0 x b1x b0O (j4 [1,1,1,1] (Tryz.f26.body.getD .skip)) (z7 Tryz.prog Tryz.f26 Q)))
def a8c(E:j6)(w0:World)(x:Bool)(N0:D→D→D→D→b9→Prop)(Q:D→b9→Prop)(x0 x5 x15 x16:D)(S:b9):Prop:=
 b7 (i6 .lss x16 x15) fun v6=>
 j1 v6
 (b7 (i6 .mul (.int .i64 8) x16) fun v7=>
 b7 (i6 .shr x0 v7) fun v8=>
 b7 (E7 .u8 v8) fun v9=>
 b7 (p6 1 x5 x16) fun v10=>
 j7 S 1 v10 v9 fun v11 S12=>
 b7 (i6 .add x16 (.int .i64 1)) fun v13=>
 N0 x0 x5 x15 v13 S12)
 (Q x5 S)
theorem c0i{N0:D→D→D→D→b9→Prop}{Q:D→b9→Prop}{x0 x5 x15 x16:D}{S:b9}(h:a8c E w0 x N0 Q x0 x5 x15 x16 S):
  j0 Tryz.prog E w0 x a8h (j9 29 [0,5,15,16] [x0,x5,x15,x16]) S (q8 (fun T S=>N0 (T.getD 0 d9) (T.getD 5 d9) (T.getD 15 d9) (T.getD 16 d9) S) (a8l E w0 x Q)):=j3 b1x b0O m7 (by kernel_rfl) h
theorem c0A(I:Nat→D→D→D→D→b9→Prop)
  (step:∀n x0 x5 x15 x16 S,I n x0 x5 x15 x16 S→a8c E w0 x (fun x0 x5 x15 x16 S=>∃m,m<n∧I m x0 x5 x15 x16 S) Q x0 x5 x15 x16 S)
  {n:Nat} {x0 x5 x15 x16:D} {S:b9} (h:I n x0 x5 x15 x16 S):j0 Tryz.prog E w0 x (.loop a8h) (j9 29 [0,5,15,16] [x0,x5,x15,x16]) S (a8l E w0 x Q):=
 o3 (k:=29) (n:=n) (I:=fun n T S=>I n (T.getD 0 d9) (T.getD 5 d9) (T.getD 15 d9) (T.getD 16 d9) S) (fun n T S hl hI=>o5 [0,5,15,16] hl (j0.mono (c0i (step n _ _ _ _ S hI)) fun ex T' S' _ hq=>by cases ex<;>exact hq)) (l8 ..) (Eq.mp (by kernel_rfl) h)
def c2F(E:j6)(w0:World)(x:Bool)(Q:D→b9→Prop)(a0 a1:D)(S:b9):Prop:=
 b7 (i6 .lss a1 (.int .i64 1)) fun v0=>
 b7 (i4 (i0 v0 false) (some a1)) fun v1=>
 b7 (i4 (i0 v0 false) (i6 .gtr v1 (.int .i64 8))) fun v2=>
 b7 (o7 v0 (.bool true) v2) fun v3=>
 j1 v3
 (Q .nilSlc S)
 (b8O S 1 1 [(.int .u8 0)] a1 a1 fun v4 S5=>
 j0 Tryz.prog E w0 x (.loop a8h) (j9 29 [0,5,15,16] [a0,v4,a1,(.int .i64 0)]) S5 (a8l E w0 x Q))
theorem c5o{a0 a1:D}{S:b9}(h:c2F E w0 x (i9 E Q) a0 a1 S):o9 Tryz.prog E w0 x a1W [a0,a1] S Q:=
 l7 b1x b0O (fn:=Tryz.f26) (c:=Tryz.f26.body.getD .skip) m7 Tryz.func26 (by kernel_rfl) (by kernel_rfl) h
def b3K:List (Nat×List Nat):=[(20,[0,1,2,9,29,30])]
def b2N:List (Nat×List Nat):=[]
noncomputable def b1C:Code:=(j4 [1,1,1,0,1,0,0] (Tryz.f67.body.getD .skip))
def b1j(E:j6)(w0:World)(x:Bool)(Q:D→b9→Prop):o6→List D→b9→Prop:=
 (o8 1 (w6 Tryz.prog E w0 x b3K b2N (j4 [1,1,1,1] (Tryz.f67.body.getD .skip)) (z7 Tryz.prog Tryz.f67 Q)))
def b1c(E:j6)(w0:World)(x:Bool)(N0:D→D→D→D→D→D→b9→Prop)(Q:D→b9→Prop)(x0 x1 x2 x9 x29 x30:D)(S:b9):Prop:=
 b7 (i6 .lss x30 x29) fun v3=>
 j1 v3
 (b7 (i6 .add x1 x30) fun v4=>
 b7 (p6 1 x0 v4) fun v5=>
 b7 (b8 S v5) fun v6=>
 b7 (E7 .u64 v6) fun v7=>
 b7 (i6 .mul (.int .i64 8) x30) fun v8=>
 b7 (i6 .shl v7 v8) fun v9=>
 b7 (i6 .or x9 v9) fun v10=>
 b7 (i6 .add x30 (.int .i64 1)) fun v11=>
 N0 x0 x1 x2 v10 x29 v11 S)
 (b7 (i6 .add x1 x2) fun v12=>
 Q (.tup [x9,v12,(.int .i64 0)]) S)
theorem c3t{N0:D→D→D→D→D→D→b9→Prop}{Q:D→b9→Prop}{x0 x1 x2 x9 x29 x30:D}{S:b9}(h:b1c E w0 x N0 Q x0 x1 x2 x9 x29 x30 S):
  j0 Tryz.prog E w0 x b1C (j9 50 [0,1,2,9,29,30] [x0,x1,x2,x9,x29,x30]) S (q8 (fun T S=>N0 (T.getD 0 d9) (T.getD 1 d9) (T.getD 2 d9) (T.getD 9 d9) (T.getD 29 d9) (T.getD 30 d9) S) (b1j E w0 x Q)):=j3 b3K b2N m7 (by kernel_rfl) h
theorem c3S(I:Nat→D→D→D→D→D→D→b9→Prop)
  (step:∀n x0 x1 x2 x9 x29 x30 S,I n x0 x1 x2 x9 x29 x30 S→b1c E w0 x (fun x0 x1 x2 x9 x29 x30 S=>∃m,m<n∧I m x0 x1 x2 x9 x29 x30 S) Q x0 x1 x2 x9 x29 x30 S)
  {n:Nat} {x0 x1 x2 x9 x29 x30:D} {S:b9} (h:I n x0 x1 x2 x9 x29 x30 S):j0 Tryz.prog E w0 x (.loop b1C) (j9 50 [0,1,2,9,29,30] [x0,x1,x2,x9,x29,x30]) S (b1j E w0 x Q):=
 o3 (k:=50) (n:=n) (I:=fun n T S=>I n (T.getD 0 d9) (T.getD 1 d9) (T.getD 2 d9) (T.getD 9 d9) (T.getD 29 d9) (T.getD 30 d9) S) (fun n T S hl hI=>o5 [0,1,2,9,29,30] hl (j0.mono (c3t (step n _ _ _ _ _ _ S hI)) fun ex T' S' _ hq=>by cases ex<;>exact hq)) (l8 ..) (Eq.mp (by kernel_rfl) h)
def a2v(E:j6)(w0:World)(x:Bool)(Q:D→b9→Prop)(x0 x1 x2 x11:D)(S:b9):Prop:=
 j1 x11
 (Q (.tup [(.int .u64 0),(.int .i64 0),(.int .i64 2)]) S)
 (b7 (l9 x0) fun v0=>
 b7 (i6 .sub v0 x1) fun v1=>
 b7 (i6 .gtr x2 v1) fun v2=>
 j1 v2
 (Q (.tup [(.int .u64 0),(.int .i64 0),(.int .i64 10)]) S)
 (j0 Tryz.prog E w0 x (.loop b1C) (j9 50 [0,1,2,9,29,30] [x0,x1,x2,(.int .u64 0),x2,(.int .i64 0)]) S (b1j E w0 x Q)))
def c5a(E:j6)(w0:World)(x:Bool)(Q:D→b9→Prop)(a0 a1 a2:D)(S:b9):Prop:=
 b7 (i6 .lss a2 (.int .i64 1)) fun v13=>
 j1 v13
 (a2v E w0 x Q a0 a1 a2 v13 S)
 (b7 (i6 .gtr a2 (.int .i64 8)) fun v14=>
 j1 v14
 (a2v E w0 x Q a0 a1 a2 v14 S)
 (b7 (i6 .lss a1 (.int .i64 0)) fun v15=>
 j1 v15
 (a2v E w0 x Q a0 a1 a2 v15 S)
 (b7 (l9 a0) fun v16=>
 b7 (i6 .gtr a1 v16) fun v17=>
 a2v E w0 x Q a0 a1 a2 v17 S)))
theorem c9D{a0 a1 a2:D}{S:b9}(h:c5a E w0 x (i9 E Q) a0 a1 a2 S):o9 Tryz.prog E w0 x b5Z [a0,a1,a2] S Q:=
 l7 b3K b2N (fn:=Tryz.f67) (c:=Tryz.f67.body.getD .skip) m7 Tryz.func67 (by kernel_rfl) (by kernel_rfl) h
def c7C:List (Nat×List Nat):=[]
def c8F:List (Nat×List Nat):=[]
def b8w(E:j6)(w0:World)(x:Bool)(Q:D→b9→Prop)(a0 a1:D)(S:b9):Prop:=
 b7 (q6 a0) fun cs=>m8 S cs fun v0 S1=>
 b7 (q6 a1) fun cs=>m8 S1 cs fun v2 S3=>
 b7 (some (.fn (.func a0D) [] [v0,v2])) fun v4=>
 Q v4 S3
theorem c4h{a0 a1:D}{S:b9}(h:b8w E w0 x (i9 E Q) a0 a1 S):o9 Tryz.prog E w0 x u7 [a0,a1] S Q:=
 l7 c7C c8F (fn:=Tryz.f115) (c:=Tryz.f115.body.getD .skip) m7 Tryz.func115 (by kernel_rfl) (by kernel_rfl) h
def d4e:List (Nat×List Nat):=[]
def d3z:List (Nat×List Nat):=[]
def c7T(E:j6)(w0:World)(x:Bool)(Q:D→b9→Prop)(a0:D)(S:b9):Prop:=
 b7 (q6 a0) fun cs=>m8 S cs fun v0 S1=>
 b7 (some (.fn (.func a3O) [] [v0])) fun v2=>
 Q v2 S1
theorem d0b{a0:D}{S:b9}(h:c7T E w0 x (i9 E Q) a0 S):o9 Tryz.prog E w0 x F3 [a0] S Q:=
 l7 d4e d3z (fn:=Tryz.f116) (c:=Tryz.f116.body.getD .skip) m7 Tryz.func116 (by kernel_rfl) (by kernel_rfl) h
def c2R:List (Nat×List Nat):=[]
def c2Z:List (Nat×List Nat):=[]
def b4G(E:j6)(w0:World)(x:Bool)(Q:D→b9→Prop)(a0 c0 c1:D)(S:b9):Prop:=
 b7 (b8 S c0) fun v0=>
 b7 (i6 .leq v0 a0) fun v1=>
 b7 (i4 (i0 v1 true) (some a0)) fun v2=>
 b7 (i4 (i0 v1 true) (b8 S c1)) fun v3=>
 b7 (i4 (i0 v1 true) (i6 .leq v2 v3)) fun v4=>
 b7 (o7 v1 v4 (.bool false)) fun v5=>
 Q v5 S
theorem b8Y{a0 c0 c1:D}{S:b9}(h:b4G E w0 x (i9 E Q) a0 c0 c1 S):o9 Tryz.prog E w0 x a0D [a0,c0,c1] S Q:=
 l7 c2R c2Z (fn:=Tryz.f123) (c:=Tryz.f123.body.getD .skip) m7 Tryz.func123 (by kernel_rfl) (by kernel_rfl) h
def d0C:List (Nat×List Nat):=[]
def d0o:List (Nat×List Nat):=[]
def c1S(E:j6)(w0:World)(x:Bool)(Q:D→b9→Prop)(a0 c0:D)(S:b9):Prop:=
 b7 (b8 S c0) fun v0=>
 o9 Tryz.prog E w0 x b6m [v0,a0] S fun v1 S2=>
 Q v1 S2
theorem c5Q{a0 c0:D}{S:b9}(h:c1S E w0 x (i9 E Q) a0 c0 S):o9 Tryz.prog E w0 x a3O [a0,c0] S Q:=
 l7 d0C d0o (fn:=Tryz.f124) (c:=Tryz.f124.body.getD .skip) m7 Tryz.func124 (by kernel_rfl) (by kernel_rfl) h
end
end Go.Proofs.YtchnpgddpaonhaaGreat.d
end
