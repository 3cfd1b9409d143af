/-
  BlocksCutsSaid: part Pak of its proof.
-/
import Derived.Test.YtdkidgkiplcggaaPaj
set_option linter.unusedVariables false
set_option linter.unusedSimpArgs false
set_option maxRecDepth 100000
section
namespace Go.Am
def E2(order:List Nat)(i:Nat):Nat:=order.idxOf i
def b2r(ops:Array Oper)(order:List Nat)(extra:List (Nat×Nat))(i:Nat):Oper:=
 let o:=ops.getD i default
 { o with
  after:=o.after.map (fun e=>(⟨E2 order e.on,e.ground⟩:Edge))++((extra.filter fun xy=>xy.2==i).map fun xy=>(⟨E2 order xy.1, .data⟩:Edge)).toArray,
  guard:=o.guard.map fun jw=>(E2 order jw.1,jw.2) }
def D6(ops:Array Oper)(order:List Nat)(extra:List (Nat×Nat)):Array Oper:=(order.map (b2r ops order extra)).toArray
def a2h(n:Nat)(order:List Nat)(extra:List (Nat×Nat)):Bool:=
 order.length==n&&(List.range n).all (fun i=>order.contains i&&decide (order.getD i 0<n)&&E2 order (order.getD i 0)==i)&&extra.all fun xy=>decide (xy.1<n)
section
variable{P:Program}{E:g8}{w0:a4P}{ops:Array Oper}{order:List Nat}{extra:List (Nat×Nat)}
theorem a8s(h:a2h ops.size order extra=true){i:Nat}(hi:i<ops.size):i∈order:=by
 simp only[a2h,Bool.and_eq_true,List.all_eq_true,List.mem_range]at h
 simpa using(h.1.2 i hi).1.1
theorem c5C(h:a2h ops.size order extra=true){i:Nat}(hi:i<ops.size):∃x,x<ops.size∧E2 order x=i:=by
 simp only[a2h,Bool.and_eq_true,List.all_eq_true,List.mem_range,decide_eq_true_eq,beq_iff_eq]at h
 exact⟨_,(h.1.2 i hi).1.2,(h.1.2 i hi).2⟩
theorem a9U(h:a2h ops.size order extra=true):(D6 ops order extra).size=ops.size:=by
 simp only[a2h,Bool.and_eq_true,beq_iff_eq]at h
 simp[D6,h.1.1]
theorem c1a(h:a2h ops.size order extra=true){xy:Nat×Nat}(hx:xy∈extra):xy.1<ops.size:=by
 simp only[a2h,Bool.and_eq_true,List.all_eq_true,decide_eq_true_eq]at h
 exact h.2 xy hx
theorem c1s(h:a2h ops.size order extra=true){i:Nat}(hi:i<ops.size):E2 order i<ops.size:=by
 have:=List.idxOf_lt_length_of_mem (a8s h hi)
 simp only[a2h,Bool.and_eq_true,beq_iff_eq]at h
 unfold E2
 omega
theorem c5m(h:a2h ops.size order extra=true){i j:Nat}(hi:i<ops.size)(hj:j<ops.size)(e:E2 order i=E2 order j):i=j:=by
 have hi':=List.idxOf_lt_length_of_mem (a8s h hi)
 have hj':=List.idxOf_lt_length_of_mem (a8s h hj)
 have a:=List.getElem_idxOf hi'
 have b:=List.getElem_idxOf hj'
 unfold E2 at e
 rw[←a, ←b]
 simp only[e]
theorem c0V(h:a2h ops.size order extra=true){i:Nat}(hi:i<ops.size):(D6 ops order extra)[E2 order i]? =some (b2r ops order extra i):=by
 have hi':=List.idxOf_lt_length_of_mem (a8s h hi)
 unfold D6 E2
 rw[List.getElem?_toArray,List.getElem?_map,List.getElem?_eq_getElem hi',List.getElem_idxOf hi']
 rfl
theorem c3l(h:a2h ops.size order extra=true){j:Nat}(hj:j<ops.size)(tmps:Array Value):yielded (D6 ops order extra) tmps (E2 order j)=yielded ops tmps j:=by
 unfold yielded
 rw[c0V h hj,Array.getElem?_eq_getElem hj]
 have:(b2r ops order extra j).dst=ops[j].dst:=by
  unfold b2r
  simp[Array.getD_eq_getD_getElem?,Array.getElem?_eq_getElem hj]
 simp only[Option.bind_some,this]
def a5m(ops:Array Oper):Bool:=ops.all fun o=>match o.guard with
 |none=>true
 |some (j,_)=>decide (j<ops.size)
theorem b9p{i:Nat}(hi:i<ops.size):b2r ops order extra i= { ops[i]with
  after:=ops[i].after.map (fun e=>(⟨E2 order e.on,e.ground⟩:Edge))++((extra.filter fun xy=>xy.2==i).map fun xy=>(⟨E2 order xy.1, .data⟩:Edge)).toArray,
  guard:=ops[i].guard.map fun jw=>(E2 order jw.1,jw.2) }:=by
 unfold b2r
 simp[Array.getD_eq_getD_getElem?,Array.getElem?_eq_getElem hi]
theorem c5P(h:a2h ops.size order extra=true)(hg:a5m ops=true){i:Nat}(hi:i<ops.size){Q:Exit→Act→World→Prop}{K:Act→World→Prop}{a:Act}{w:World}
  (hw:wpOp P (D6 ops order extra) Q (E2 order i) K a w):wpOp P ops Q i K a w:=by
 unfold wpOp at hw ⊢
 rw[c0V h hi,b9p hi]at hw
 rw[Array.getElem?_eq_getElem hi]
 simp only at hw ⊢
 have hgi:(match ops[i].guard with
   |none=>true
   |some (j,_)=>decide (j<ops.size))=true:=by
  have:=Array.all_eq_true.1 hg i hi
  exact this
 have hwant:Region.wanted { ops[i]with
   after:=ops[i].after.map (fun e=>(⟨E2 order e.on,e.ground⟩:Edge))++((extra.filter fun xy=>xy.2==i).map fun xy=>(⟨E2 order xy.1, .data⟩:Edge)).toArray,
   guard:=ops[i].guard.map fun jw=>(E2 order jw.1,jw.2) } (yielded (D6 ops order extra) a.tmps)=Region.wanted ops[i] (yielded ops a.tmps):=by
  unfold Region.wanted
  simp only
  cases hgu:ops[i].guard with
  |none=>rfl
  |some jw=>
   obtain⟨j,wt⟩:=jw
   rw[hgu]at hgi
   simp only[decide_eq_true_eq]at hgi
   simp only[Option.map_some,c3l h hgi]
 rw[hwant]at hw
 exact hw
inductive Run (ops:Array Oper):Nat→List Nat→Array Bool→Prop where
 |zero (L:Array Bool):Run ops 0 [] L
 |stop {n:Nat} {L:Array Bool} (h:Region.ready .any ops L=[]):Run ops (n+1) [] L
 |step {n i:Nat} {π:List Nat} {L:Array Bool} (hi:i∈Region.ready .any ops L) (h:Run ops n π (L.setIfInBounds i true)):Run ops (n+1) (i::π) L
theorem c7y:∀(fuel t:Nat) (L:Array Bool),Run ops fuel (Region.linearise.go .any ops fuel t L []) L
 |0,t,L=>by simp only[Region.linearise.go,List.reverse_nil];exact .zero L
 |fuel+1,t,L=>by
  simp only[Region.linearise.go]
  change Run ops (fuel+1) (match (Region.ready .any ops L)[t % (Region.ready .any ops L).length]? with
   |some i=>Region.linearise.go .any ops fuel (t / (Region.ready .any ops L).length) (L.setIfInBounds i true) [i]
   |none=>[].reverse) L
  cases hi:(Region.ready .any ops L)[t % (Region.ready .any ops L).length]? with
  |none=>
   have hnil:Region.ready .any ops L=[]:=by
    cases hr:Region.ready .any ops L with
    |nil=>rfl
    |cons x xs=>
     rw[hr]at hi
     have hlt:t % (x::xs).length<(x::xs).length:=Nat.mod_lt _ (by simp)
     simp at hi
     simp at hlt
     omega
   exact .stop hnil
  |some i=>
   simp only[]
   rw[linearise_go_acc,List.reverse_singleton,List.singleton_append]
   exact .step (List.mem_of_getElem? hi) (c7y fuel _ _)
def b6q(ops:Array Oper):Bool:=(List.range ops.size).all fun i=>(ops.getD i default).after.all fun e=>decide (e.on<i)|| !Region.binds .any e
theorem a7q(hb:b6q ops=true){L:Array Bool}(hsz:L.size=ops.size)(h:Region.ready .any ops L=[]):∀(N j:Nat),j<N→j<ops.size→X1 L j=true
 |0,j,hj,_=>by omega
 |N+1,j,hj,hjs=>by
  cases hl:X1 L j with
  |true=>rfl
  |false=>
   have hm:j∈Region.ready .any ops L:=by
    rw[mem_ready]
    refine⟨?_,ops[j],Array.getElem?_eq_getElem hjs,fun e he hbn=> ?_⟩
    ·unfold X1 at hl
     rw[Array.getD_eq_getD_getElem?]at hl ⊢
     rw[Array.getElem?_eq_getElem (by omega)]at hl ⊢
     exact hl
    ·have h1:=List.all_eq_true.1 hb j (List.mem_range.2 hjs)
     have hoj:ops.getD j default=ops[j]:=by simp[Array.getD_eq_getD_getElem?,Array.getElem?_eq_getElem hjs]
     rw[hoj,Array.all_eq_true_iff_forall_mem]at h1
     have h2:e.on<j:=by simpa [hbn]using h1 e he
     exact a7q hb hsz h N e.on (by omega) (by omega)
   rw[h]at hm
   cases hm
theorem c8s(hb:b6q ops=true){π:List Nat}:∀(fuel:Nat) (rest done:List Nat) (L:Array Bool),Run ops fuel rest L→unl ops.size L≤fuel→π=done++rest→L.size=ops.size→(∀x,x<ops.size→(X1 L x=true↔x∈done))→
  (∀x,x<ops.size→x∈π)∧∀i,i<ops.size→i ∉ done→∀e∈(ops.getD i default).after,Region.binds .any e=true→π.idxOf e.on<π.idxOf i:=by
 have last:∀(rest done:List Nat) (L:Array Bool),π=done++rest→(∀x,x<ops.size→(X1 L x=true↔x∈done))→(∀x,x<ops.size→X1 L x=true)→
   (∀x,x<ops.size→x∈π)∧∀i,i<ops.size→i ∉ done→∀e∈(ops.getD i default).after,Region.binds .any e=true→π.idxOf e.on<π.idxOf i:=by
  intro rest done L hπ hd hall
  refine⟨fun x hx=> ?_,fun i hi hn=>(hn ((hd i hi).1 (hall i hi))).elim⟩
  rw[hπ]
  exact List.mem_append_left _ ((hd x hx).1 (hall x hx))
 intro fuel
 induction fuel with
 |zero=>
  intro rest done L hrun hu hπ hsz hd
  cases hrun
  exact last _ done L hπ hd fun x hx=>b7t (by omega) x hx
 |succ fuel ih=>
  intro rest done L hrun hu hπ hsz hd
  cases hrun with
  |stop hr=>exact last _ done L hπ hd fun x hx=>a7q hb hsz hr (x+1) x (by omega) hx
  | @step _ i π' _ hi hrest=>
   obtain⟨hi0,o,ho,hedge⟩:=mem_ready.1 hi
   have hil:i<ops.size:=(Array.getElem?_eq_some_iff.1 ho).1
   have hiL:X1 L i=false:=by
    unfold X1
    rw[Array.getD_eq_getD_getElem?]at hi0 ⊢
    rw[Array.getElem?_eq_getElem (by omega)]at hi0 ⊢
    exact hi0
   have hnd:i ∉ done:=fun hm=>by rw[(hd i hil).2 hm]at hiL;cases hiL
   have hpi:π.idxOf i=done.length:=by
    rw[hπ,List.idxOf_append,if_neg hnd,List.idxOf_cons_self,Nat.zero_add]
   have hul:=b9F (n:=ops.size) hil (by omega) hiL
   obtain⟨g1,g2⟩:=ih π' (done++[i]) _ hrest (by omega) (by rw[hπ,List.append_assoc];rfl) (by rw[Array.size_setIfInBounds];exact hsz) (fun x hx=>by
    rw[a6H (by omega)]
    simp only[Bool.or_eq_true,beq_iff_eq,List.mem_append,List.mem_singleton,hd x hx]
    exact⟨fun h=>h.elim .inr .inl,fun h=>h.elim .inr .inl⟩)
   refine⟨g1,fun j hj hjn e he hbn=> ?_⟩
   by_cases hji:j=i
   ·subst hji
    have hoj:ops.getD j default=o:=by rw[Array.getD_eq_getD_getElem?,ho];rfl
    rw[hoj]at he
    have h1:=hedge e he hbn
    have hlt:e.on<ops.size:=by
     rw[Array.getD_eq_getD_getElem?]at h1
     by_cases hl:e.on<L.size
     ·omega
     ·rw[Array.getElem?_eq_none (by omega)]at h1;cases h1
    have hm:=(hd e.on hlt).1 h1
    rw[hpi,hπ,List.idxOf_append,if_pos hm]
    exact List.idxOf_lt_length_of_mem hm
   ·exact g2 j hj (by simp only[List.mem_append,List.mem_singleton];intro h;exact h.elim hjn hji) e he hbn
end
section
variable(P:Program)
theorem b5L{D:Nat→Bool}:∀ {ds:List o9} {j:Nat} {T:List AV} {more:List o9},(∀m,j+ds.length≤m→D m=false)→A1 D j (ds++more) T=A1 D j ds T
 | [],j,T,more,h=>by
  rw[List.nil_append,a6F more j T (by simpa using h)];rfl
 |d::ds,j,T,more,h=>by
  rw[List.cons_append,A1,A1]
  exact b5L fun m hm=>h m (by simp;omega)
def isW(o:Oper):Bool:=decide (2≤r7 P o)
def a8p(ops:Array Oper):List Oper→List o9→Option (List o9)
 | [],ds=>some ds
 |o::l,ds=>match a7I ds o.after.toList 0 with
  |none=>none
  |some anc=>if c3Y (fun j e=>anc.testBit j||(o.apart ops e.o&& !e.wr)) 0 ds then a8p ops l (ds++[⟨o,anc,[],s8,0,0,isW P o,[]⟩]) else none
def a6s(E:g8)(w0:a4P)(ops:Array Oper):List o9→List o9→List AV→AHeap→(List AV→AHeap→Prop)→Prop
 | [],ds,T,H,Q=>Q T H
 |s::l,ds,T,H,Q=>if r7 P s.o≤1 then ∃v,b0x P E ops T H s.o=some v∧a6s E w0 ops l (ds++[⟨s.o,s.anc,T,v,0,0,s.wr,[]⟩]) (a0X T s.o.dst v) H Q
  else a1t P E w0 ops T H s.o fun v H'=>(∀(i:Nat) (d:o9),ds[i]? =some d→r7 P d.o=1→s.anc.testBit i=false→b0x P E ops d.T H' d.o=some d.v)∧
   a6s E w0 ops l (ds++[⟨s.o,s.anc,T,v,0,0,s.wr,[]⟩]) (a0X T s.o.dst v) H' Q
end
section
variable{P:Program}{E:g8}{w0:a4P}{ops:Array Oper}
theorem b3v:∀ {l ds:List o9} {T:List AV} {H:AHeap} {Q Q':List AV→AHeap→Prop},(∀T H,Q T H→Q' T H)→a6s P E w0 ops l ds T H Q→a6s P E w0 ops l ds T H Q'
 | [],ds,T,H,Q,Q',hq,h=>hq _ _ h
 |s::l,ds,T,H,Q,Q',hq,h=>by
  rw[a6s]at*
  split at h
  ·rename_i hk
   rw[if_pos hk]
   obtain⟨v,h1,h2⟩:=h
   exact⟨v,h1,b3v hq h2⟩
  ·rename_i hk
   rw[if_neg hk]
   exact a0I h fun v H' h'=>⟨h'.1,b3v hq h'.2⟩
structure a9h (P:Program) (ops:Array Oper) (sd:List o9):Prop where
 op:∀(i:Nat) (d:o9),sd[i]? =some d→ops[i]? =some d.o
 wr:∀(i:Nat) (d:o9),sd[i]? =some d→d.wr=isW P d.o
 anc:∀(i:Nat) (d:o9),sd[i]? =some d→a7I (sd.take i) d.o.after.toList 0=some d.anc
 apart:∀(i j:Nat) (d e:o9),j<i→sd[i]? =some d→sd[j]? =some e→d.anc.testBit j=true∨(d.o.apart ops e.o=true∧e.wr=false)
theorem a9h.nil:a9h P ops []:=by constructor<;>intros<;>simp_all
theorem b6y:∀ {l:List Oper} {ds sd:List o9},a9h P ops ds→ops.toList.drop ds.length=l→a8p P ops l ds=some sd→a9h P ops sd∧sd.length=ops.size
 | [],ds,sd,G,hl,h=>by
  simp only[a8p,Option.some.injEq]at h
  subst h
  refine⟨G, ?_⟩
  have h1:=List.drop_eq_nil_iff.1 hl
  simp only[Array.length_toList]at h1
  refine Nat.le_antisymm ?_ h1
  refine Nat.le_of_not_lt fun hlt=> ?_
  have:=G.op ops.size (ds[ops.size]'hlt) (List.getElem?_eq_getElem hlt)
  simp at this
 |o::l,ds,sd,G,hl,h=>by
  have ho:ops[ds.length]? =some o:=by
   have:(ops.toList.drop ds.length)[0]? =some o:=by rw[hl];rfl
   rw[List.getElem?_drop]at this
   simpa using this
  have hdr:∀d,ops.toList.drop (ds++[d]).length=l:=by
   intro d
   have:=congrArg List.tail hl
   rw[List.tail_drop]at this
   simpa using this
  simp only[a8p]at h
  split at h
  ·cases h
  ·rename_i anc hanc
   split at h
   ·rename_i hap
    refine b6y (ds:=ds++[⟨o,anc,[],s8,0,0,isW P o,[]⟩]) ⟨?_, ?_, ?_, ?_⟩ (hdr _) h
    ·intro i d hd
     rcases C8 hd with ⟨h1,h2⟩|⟨rfl,rfl⟩
     ·exact G.op i d h2
     ·exact ho
    ·intro i d hd
     rcases C8 hd with ⟨h1,h2⟩|⟨rfl,rfl⟩
     ·exact G.wr i d h2
     ·rfl
    ·intro i d hd
     rcases C8 hd with ⟨h1,h2⟩|⟨rfl,rfl⟩
     ·rw[List.take_append_of_le_length (by omega)];exact G.anc i d h2
     ·rw[List.take_append_of_le_length (by omega),List.take_length];exact hanc
    ·intro i j d e hj hd he
     rcases C8 hd with ⟨h1,h2⟩|⟨rfl,rfl⟩
     ·rcases C8 he with ⟨h3,h4⟩|⟨rfl,rfl⟩
      ·exact G.apart i j d e hj h2 h4
      ·omega
     ·rcases C8 he with ⟨h3,h4⟩|⟨rfl,rfl⟩
      ·have:=a2V hap j e h4
       simp only[Nat.zero_add,Bool.or_eq_true,Bool.and_eq_true,Bool.not_eq_true',beq_iff_eq]at this
       exact this
      ·omega
   ·cases h
structure Seg (P:Program) (E:g8) (ops:Array Oper) (sd:List o9) (T0:List AV) (ds:List o9) (b:Nat) (H:AHeap):Prop where
 le:b≤ds.length
 st:∀(i:Nat) (d:o9),ds[i]? =some d→∃s,sd[i]? =some s∧d.o=s.o∧d.anc=s.anc
 old:∀(i:Nat) (d:o9),ds[i]? =some d→d.T=A1 (fun _=>true) 0 (ds.take i) T0
 rd:∀(i:Nat) (d:o9),ds[i]? =some d→(b≤i∨isW P d.o=false)→(∀(x:Nat) (s:o9),i<x→x<b→sd[x]? =some s→s.wr=true→s.anc.testBit i=false)→r7 P d.o≤1∧b0x P E ops d.T H d.o=some d.v
theorem Seg.snoc{sd:List o9}{T0:List AV}{ds:List o9}{b:Nat}{H:AHeap}(G:Seg P E ops sd T0 ds b H){s:o9}(hs:sd[ds.length]? =some s){v:AV}{b':Nat}{H':AHeap}
  (h:(b'=b∧H'=H∧r7 P s.o≤1∧b0x P E ops (A1 (fun _=>true) 0 ds T0) H s.o=some v)∨(b'=ds.length+1∧s.wr=true∧isW P s.o=true∧∀(i:Nat) (d:o9),ds[i]? =some d→r7 P d.o=1→s.anc.testBit i=false→b0x P E ops d.T H' d.o=some d.v)):
  Seg P E ops sd T0 (ds++[⟨s.o,s.anc,A1 (fun _=>true) 0 ds T0,v,0,0,s.wr,[]⟩]) b' H':=by
 have hle:=G.le
 refine⟨by rcases h with ⟨h,_⟩|⟨h,_⟩<;>simp<;>omega, ?_, ?_, ?_⟩
 ·intro i d hd
  rcases C8 hd with ⟨h1,h2⟩|⟨rfl,rfl⟩
  ·exact G.st i d h2
  ·exact⟨s,hs,rfl,rfl⟩
 ·intro i d hd
  rcases C8 hd with ⟨h1,h2⟩|⟨rfl,rfl⟩
  ·rw[List.take_append_of_le_length (by omega)];exact G.old i d h2
  ·rw[List.take_append_of_le_length (by omega),List.take_length]
 ·intro i d hd hb hx
  rcases C8 hd with ⟨h1,h2⟩|⟨rfl,rfl⟩
  ·rcases h with ⟨rfl,rfl,_⟩|⟨rfl,hsw,hiw,hag⟩
   ·exact G.rd i d h2 hb hx
   ·have hsi:=hx ds.length s h1 (by omega) hs hsw
    have g:=G.rd i d h2 (by rcases hb with hb|hb; ·omega
                            ·exact .inr hb) fun x s' a b=>hx x s' a (by omega)
    refine⟨g.1, ?_⟩
    rcases Nat.eq_zero_or_pos (r7 P d.o) with h0|h0
    ·exact c5n h0 g.2 H'
    ·exact hag i d h2 (by have:=g.1;omega) hsi
  ·rcases h with ⟨rfl,rfl,h3,h4⟩|⟨rfl,hsw,hiw,_⟩
   ·exact⟨h3,h4⟩
   ·rcases hb with hb|hb
    ·omega
    ·simp only at hb;rw[hiw]at hb;cases hb
theorem c0P{sd:List o9}(hS:a9h P ops sd)(hsl:sd.length=ops.size){T0:List AV}{b:Nat}{H:AHeap}{Q:List AV→AHeap→Prop}:∀ {l:List o9} {ds:List o9},Seg P E ops sd T0 ds b H→sd.drop ds.length=l→a6s P E w0 ops l ds (A1 (fun _=>true) 0 ds T0) H Q→
  ∃ds',Seg P E ops sd T0 ds' b H∧(∃more,ds'=ds++more)∧ds.length≤ds'.length∧ds'.length≤ops.size∧a6s P E w0 ops (sd.drop ds'.length) ds' (A1 (fun _=>true) 0 ds' T0) H Q∧(∀o,ops[ds'.length]? =some o→isW P o=true)
 | [],ds,G,hl,h=>by
  have h1:=List.drop_eq_nil_iff.1 hl
  have h2:ds.length≤ops.size:=by
   refine Nat.le_of_not_lt fun hlt=> ?_
   obtain⟨s,e,_⟩:=G.st ops.size _ (List.getElem?_eq_getElem hlt)
   have:=(List.getElem?_eq_some_iff.1 e).1
   omega
  refine⟨ds,G,⟨[],by simp⟩,Nat.le_refl _,h2,by rw[hl];exact h,fun o ho=> ?_⟩
  have:=(Array.getElem?_eq_some_iff.1 ho).1
  omega
 |s::l,ds,G,hl,h=>by
  have hlz:ds.length<ops.size:=by
   have:=congrArg List.length hl
   simp at this
   omega
  have hs:sd[ds.length]? =some s:=by
   have:(sd.drop ds.length)[0]? =some s:=by rw[hl];rfl
   rw[List.getElem?_drop]at this
   simpa using this
  have ho:=hS.op _ _ hs
  have hdr:∀d,sd.drop (ds++[d]).length=l:=by
   intro d
   have:=congrArg List.tail hl
   rw[List.tail_drop]at this
   simpa using this
  by_cases hk:r7 P s.o≤1
  ·rw[a6s,if_pos hk]at h
   obtain⟨v,hv,h⟩:=h
   have hrow:a0X (A1 (fun _=>true) 0 ds T0) s.o.dst v=A1 (fun _=>true) 0 (ds++[⟨s.o,s.anc,A1 (fun _=>true) 0 ds T0,v,0,0,s.wr,[]⟩]) T0:=by
    rw[a3u,if_pos rfl]
   rw[hrow]at h
   obtain⟨ds',g1,⟨more,g2⟩,g3,g4,g5,g6⟩:=c0P hS hsl (G.snoc hs (.inl ⟨rfl,rfl,hk,hv⟩)) (hdr _) h
   refine⟨ds',g1,⟨_,by rw[g2,List.append_assoc]⟩, ?_,g4,g5,g6⟩
   simp at g3;omega
  ·refine⟨ds,G,⟨[],by simp⟩,Nat.le_refl _,by omega,by rw[hl];exact h,fun o' ho'=> ?_⟩
   rw[ho]at ho'
   cases ho'
   exact decide_eq_true (by omega)
structure d1v (P:Program) (E:g8) (w0:a4P) (ops:Array Oper) (sd ds:List o9) (b:Nat) (H0 H:AHeap) (T0:List AV) (ρ0:u5) (defs:List Deferred) (L:Array Bool) (a:Act) (w:World) (ρ:u5):Prop where
 size:L.size=ops.size
 nx:Nx ρ0 ρ H0 H
 row:m6 ρ (A1 (X1 L) 0 ds T0) a.tmps.toList
 rep:B6 E w0 H w ρ
 defs:a.defers=defs
 closed:c0n sd L
 done:∀i d,i<b→ds[i]? =some d→X1 L i=true∨isW P d.o=false
 not:∀i,ds.length≤i→X1 L i=false
theorem a9h.ready_anc{sd:List o9}(G:a9h P ops sd){L:Array Bool}(hcl:c0n sd L){i:Nat}{d:o9}(hd:sd[i]? =some d)
  (ha:∀e∈d.o.after,Region.binds .any e=true→L.getD e.on false=true):∀j,d.anc.testBit j=true→X1 L j=true:=by
 refine a8P (S:=fun j=>X1 L j=true) _ _ _ (G.anc i d hd) (fun j hj=>by simp at hj) ?_
 intro e he hb
 have h1:X1 L e.on=true:=ha e (by simpa using he) hb
 refine⟨h1,fun d' hd' j hj=> ?_⟩
 rw[List.getElem?_take]at hd'
 split at hd'
 ·exact hcl _ _ hd' h1 j hj
 ·cases hd'
theorem a9h.all_listed{sd:List o9}(G:a9h P ops sd)(hlen:sd.length=ops.size){L:Array Bool}(hsz:L.size=ops.size)(h:Region.ready .any ops L=[]):∀(N j:Nat),j<N→j<ops.size→X1 L j=true
 |0,j,h,_=>by omega
 |N+1,j,hj,hjs=>by
  cases hb:X1 L j with
  |true=>rfl
  |false=>
   have hm:j∈Region.ready .any ops L:=by
    rw[mem_ready]
    refine⟨?_,ops[j],Array.getElem?_eq_getElem hjs,fun e he hbn=> ?_⟩
    ·unfold X1 at hb
     rw[Array.getD_eq_getD_getElem?]at hb ⊢
     rw[Array.getElem?_eq_getElem (by omega)]at hb ⊢
     exact hb
    ·have hd:sd[j]? =some (sd[j]'(by omega)):=List.getElem?_eq_getElem (by omega)
     have hop:=G.op j _ hd
     rw[Array.getElem?_eq_getElem hjs]at hop
     rw[Option.some.inj hop]at he
     have hon:=b1K _ _ _ (G.anc j _ hd) e (by simpa using he) hbn
     rw[List.length_take]at hon
     exact a9h.all_listed G hlen hsz h N e.on (by omega) (by omega)
   rw[h]at hm
   cases hm
def MM(P:Program)(E:g8)(w0:a4P)(ops:Array Oper)(sd:List o9)(T0:List AV)(H0:AHeap)(ρ0:u5)(defs:List Deferred)(Q0:List AV→AHeap→Prop)(L:Array Bool)(a:Act)(w:World):Prop:=
 ∃(ds:List o9) (b:Nat) (H:AHeap) (ρ:u5),Seg P E ops sd T0 ds b H∧a6s P E w0 ops (sd.drop ds.length) ds (A1 (fun _=>true) 0 ds T0) H Q0∧ds.length≤ops.size∧(∀o,ops[ds.length]? =some o→isW P o=true)∧d1v P E w0 ops sd ds b H0 H T0 ρ0 defs L a w ρ
theorem MM.fin{sd:List o9}(hsl:sd.length=ops.size){T0:List AV}{H0:AHeap}{ρ0:u5}{defs:List Deferred}{Q0:List AV→AHeap→Prop}{L:Array Bool}{a:Act}{w:World}(h:MM P E w0 ops sd T0 H0 ρ0 defs Q0 L a w)(hall:∀i,i<ops.size→X1 L i=true):
  ∃T H ρ,Q0 T H∧Nx ρ0 ρ H0 H∧m6 ρ T a.tmps.toList∧B6 E w0 H w ρ∧a.defers=defs:=by
 obtain⟨ds,b,H,ρ,G,hO,hle,_,I⟩:=h
 have hl:ds.length=ops.size:=by
  refine Nat.le_antisymm hle (Nat.le_of_not_lt fun hlt=> ?_)
  have:=hall _ hlt
  rw[I.not _ (Nat.le_refl _)]at this
  cases this
 have hd:sd.drop ds.length=[]:=List.drop_eq_nil_iff.2 (by omega)
 rw[hd]at hO
 have hrow:=I.row
 rw[a4k (D':=fun _=>true) ds 0 T0 fun m _ h=>hall m (by omega)]at hrow
 exact⟨_,H,ρ,hO,I.nx,hrow,I.rep,I.defs⟩
theorem MM.step{sd:List o9}(hS:a9h P ops sd)(hsl:sd.length=ops.size){T0:List AV}{H0:AHeap}{ρ0:u5}(hf:M5 ρ0 H0){defs:List Deferred}{Q0:List AV→AHeap→Prop}{L:Array Bool}{a:Act}{w:World}(h:MM P E w0 ops sd T0 H0 ρ0 defs Q0 L a w){i:Nat}(hr:i∈Region.ready .any ops L)
  {K:Act→World→Prop} {Q:Exit→Act→World→Prop} (hK:∀a' w',MM P E w0 ops sd T0 H0 ρ0 defs Q0 (L.setIfInBounds i true) a' w'→K a' w') (hP:b4y E w0 H0 ρ0 defs Q):wpOp P ops Q i K a w:=by
 obtain⟨ds,b,H,ρ,G,hO,hle,hnext,I⟩:=h
 obtain⟨hi0,o,ho,hedge⟩:=mem_ready.1 hr
 have hil:i<ops.size:=(Array.getElem?_eq_some_iff.1 ho).1
 have hi:X1 L i=false:=by
  unfold X1
  have hsz:=I.size
  rw[Array.getD_eq_getD_getElem?]at hi0 ⊢
  rw[Array.getElem?_eq_getElem (by omega)]at hi0 ⊢
  exact hi0
 obtain⟨s,hs⟩:∃s,sd[i]? =some s:=⟨sd[i]'(by omega),List.getElem?_eq_getElem (by omega)⟩
 have hso:s.o=o:=by
  have:=hS.op _ _ hs
  rw[ho]at this
  exact(Option.some.inj this).symm
 subst hso
 have ha:=hS.ready_anc I.closed hs hedge
 have hP1:b4y E w0 H ρ a.defers Q:=by rw[I.defs];exact hP.trans I.nx
 have hisL:X1 (L.setIfInBounds i true)=fun x=>x==i||X1 L x:=by
  funext x
  rw[a6H (by rw[I.size];exact hil)]
 have hcl':c0n sd (L.setIfInBounds i true):=by
  intro j e he hj x hx
  rw[hisL]at hj ⊢
  simp only[Bool.or_eq_true,beq_iff_eq]at hj ⊢
  rcases hj with rfl|hj
  ·rw[hs]at he;cases he
   exact .inr (ha x hx)
  ·exact .inr (I.closed j e he hj x hx)
 have hfm:M5 ρ H:=hf.step I.nx
 rcases Nat.lt_trichotomy i ds.length with hlt|heq|hgt
 ·
  obtain⟨d,hd⟩:∃d,ds[i]? =some d:=⟨ds[i],List.getElem?_eq_getElem hlt⟩
  obtain⟨s',hs',e1,e2⟩:=G.st i d hd
  rw[hs]at hs'
  cases hs'
  have hni:b≤i∨isW P d.o=false:=by
   rcases Nat.lt_or_ge i b with h|h
   ·rcases I.done i d h hd with h|h
    ·rw[h]at hi;cases hi
    ·exact .inr h
   ·exact .inl h
  obtain⟨hk,hv⟩:=G.rd i d hd hni fun x sx hix hxb hsx hwx=>by
   cases hb:sx.anc.testBit i with
   |false=>rfl
   |true=>
    have hxl:x<ds.length:=by have:=G.le;omega
    obtain⟨dx,hdx⟩:∃dx,ds[x]? =some dx:=⟨ds[x],List.getElem?_eq_getElem hxl⟩
    obtain⟨sx',hsx',f1,f2⟩:=G.st x dx hdx
    rw[hsx]at hsx';cases hsx'
    have hwx':isW P dx.o=true:=by rw[f1, ←hS.wr _ _ hsx];exact hwx
    rcases I.done x dx hxb hdx with h|h
    ·have:=I.closed x sx hsx h i hb;rw[hi]at this;cases this
    ·rw[hwx']at h;cases h
  have hag:b6o ops d.o (A1 (X1 L) 0 ds T0) d.T:=by
   intro t ht
   rw[G.old i d hd,b6Z]
   refine a7D ds 0 T0 T0 ?_ rfl
   intro x e he hne hdst
   simp only[Nat.zero_add]at hne
   obtain⟨se,hse,f1,f2⟩:=G.st x e he
   by_cases hxi:x<i
   ·have:X1 L x=false:=by
     cases hb:X1 L x with
     |false=>rfl
     |true=>rw[hb]at hne;exact(hne (by simp[hxi])).elim
    rcases hS.apart i x s se hxi hs hse with h|⟨h,_⟩
    ·have:=ha x h;simp_all
    ·rw[←e1, ←f1]at h
     exact(Oper.apart_spec h).2.2 t hdst ht
   ·have hx:X1 L x=true:=by
     cases hb:X1 L x with
     |true=>rfl
     |false=>rw[hb]at hne;exact(hne (by simp[hxi])).elim
    have hix:i<x:=by
     have:x≠i:=by rintro rfl;rw[hi]at hx;cases hx
     omega
    rcases hS.apart x i se s hix hse hs with h|⟨h,_⟩
    ·have:=I.closed x se hse hx i h;rw[hi]at this;cases this
    ·rw[←e1, ←f1]at h
     exact(Oper.apart_spec h).1 t hdst ht
  have hdst:∀(m:Nat) (e:o9),i<m→ds[m]? =some e→X1 L m=true→∀x,d.o.dst=some x→e.o.dst≠some x:=by
   intro m e him he hm x hx hx'
   obtain⟨se,hse,f1,f2⟩:=G.st m e he
   rcases hS.apart m i se s him hse hs with h|⟨h,_⟩
   ·have:=I.closed m se hse hm i h;rw[hi]at this;cases this
   ·rw[←e1, ←f1]at h
    exact(Oper.apart_spec h).2.1 x hx' hx
  rw[←e1]at ho
  refine a4o (b4f (fun t ht=>(hag t ht).symm) (b6k (w0:=w0) hk hv)) ho I.rep I.row hfm ?_ hP1
  rintro v H' ρ' vv w' ⟨rfl,rfl⟩ g1 g2 g3
  refine hK _ _ ⟨ds,b,_,ρ',G,hO,hle,hnext,⟨by rw[Array.size_setIfInBounds];exact I.size,I.nx.trans g1, ?_,g3,by rw[I7];exact I.defs,hcl', ?_, ?_⟩⟩
  ·have:X1 (L.setIfInBounds i true)=fun x=>x==0+i||X1 L x:=by rw[hisL];funext x;rw[Nat.zero_add]
   rw[this,b2e ds 0 i T0 hd (by rw[Nat.zero_add];exact hi) (by simpa using hdst)]
   exact a8G (H5 g1.1 _ _ I.row) g2
  ·intro j d' hj hd'
   rw[hisL]
   rcases I.done j d' hj hd' with h|h
   ·exact .inl (by simp only[h,Bool.or_true])
   ·exact .inr h
  ·intro j hj
   rw[hisL];simp only[I.not j hj,Bool.or_false]
   exact beq_false_of_ne (by omega)
 ·
  subst heq
  have hw:isW P s.o=true:=hnext _ ho
  have hsw:s.wr=true:=by rw[hS.wr _ _ hs];exact hw
  have hw2:2≤r7 P s.o:=of_decide_eq_true hw
  have hall:∀j se,j<ds.length→sd[j]? =some se→X1 L j=true∨(s.o.apart ops se.o=true∧isW P se.o=false):=fun j se hj hse=>by
   rcases hS.apart ds.length j s se hj hs hse with h|⟨h1,h2⟩
   ·exact .inl (ha j h)
   ·exact .inr ⟨h1,by rw[←hS.wr _ _ hse];exact h2⟩
  have hag:b6o ops s.o (A1 (X1 L) 0 ds T0) (A1 (fun _=>true) 0 ds T0):=by
   intro t ht
   refine a7D ds 0 T0 T0 ?_ rfl
   intro x e he hne hdst
   simp only[Nat.zero_add]at hne
   obtain⟨se,hse,f1,f2⟩:=G.st x e he
   rcases hall x se (List.getElem?_eq_some_iff.1 he).1 hse with h|⟨h,_⟩
   ·exact hne h
   ·rw[←f1]at h
    exact(Oper.apart_spec h).2.2 t hdst ht
  have hdrop:sd.drop ds.length=s::sd.drop (ds.length+1):=by
   rw[List.drop_eq_getElem_cons (by omega)]
   congr 1
   exact(List.getElem?_eq_some_iff.1 hs).2
  rw[hdrop,a6s,if_neg (by omega)]at hO
  refine a4o (b4f (fun t ht=>(hag t ht).symm) hO) ho I.rep I.row hfm ?_ hP1
  rintro v H' ρ' vv w' ⟨hagn,hO'⟩ g1 g2 g3
  have G1:=G.snoc hs (v:=v) (b':=ds.length+1) (H':=H') (.inr ⟨rfl,hsw,hw,hagn⟩)
  have hr1:a0X (A1 (fun _=>true) 0 ds T0) s.o.dst v=A1 (fun _=>true) 0 (ds++[⟨s.o,s.anc,A1 (fun _=>true) 0 ds T0,v,0,0,s.wr,[]⟩]) T0:=by
   rw[a3u,if_pos rfl]
  rw[hr1]at hO'
  obtain⟨ds',k1,⟨more,k2⟩,k3,k4,k5,k6⟩:=c0P hS hsl G1 (by simp) hO'
  have hL':∀j,X1 (L.setIfInBounds ds.length true) j=(j==ds.length||X1 L j):=fun j=>by rw[hisL]
  refine hK _ _ ⟨ds',ds.length+1,H',ρ',k1,k5,k4,k6,⟨by rw[Array.size_setIfInBounds];exact I.size,I.nx.trans g1, ?_,g3,by rw[I7];exact I.defs,hcl',fun j d' hj hd'=> ?_,fun j hj=> ?_⟩⟩
  ·have hfold:A1 (X1 (L.setIfInBounds ds.length true)) 0 ds' T0=a0X (A1 (X1 L) 0 ds T0) s.o.dst v:=by
    have e1:A1 (X1 (L.setIfInBounds ds.length true)) 0 ds' T0=A1 (X1 (L.setIfInBounds ds.length true)) 0 (ds++[⟨s.o,s.anc,A1 (fun _=>true) 0 ds T0,v,0,0,s.wr,[]⟩]) T0:=by
     rw[k2]
     refine b5L (fun m hm=> ?_)
     simp at hm
     rw[hL' m,I.not _ (by omega),Bool.or_false]
     exact beq_false_of_ne (by omega)
    rw[e1,a3u,if_pos (by rw[hL' (0+ds.length)];simp),a4k (D':=X1 L) ds 0 T0 fun m _ hm=>by
     rw[hL' m,beq_false_of_ne (by omega),Bool.false_or]]
   rw[hfold]
   exact a8G (H5 g1.1 _ _ I.row) g2
  ·rw[hL' j]
   by_cases e:j=ds.length
   ·subst e;exact .inl (by simp)
   ·have hj1:j<ds.length:=by omega
    obtain⟨se,hse⟩:∃se,sd[j]? =some se:=⟨sd[j]'(by omega),List.getElem?_eq_getElem (by omega)⟩
    rcases hall j se hj1 hse with h|⟨_,h⟩
    ·exact .inl (by simp[h])
    ·obtain⟨se',hse',f1,_⟩:=k1.st j d' hd'
     rw[hse]at hse';cases hse'
     exact .inr (by rw[f1];exact h)
  ·simp at k3
   rw[hL' j,I.not j (by omega),Bool.or_false]
   exact beq_false_of_ne (by omega)
 ·
  obtain⟨sc,hsc⟩:∃sc,sd[ds.length]? =some sc:=⟨sd[ds.length]'(by omega),List.getElem?_eq_getElem (by omega)⟩
  have hw:sc.wr=true:=by rw[hS.wr _ _ hsc];exact hnext _ (hS.op _ _ hsc)
  rcases hS.apart i ds.length s sc hgt hs hsc with h|⟨_,h⟩
  ·have:=ha _ h
   rw[I.not _ (Nat.le_refl _)]at this;cases this
  ·rw[hw]at h;cases h
theorem MM.size{sd:List o9}{T0:List AV}{H0:AHeap}{ρ0:u5}{defs:List Deferred}{Q0:List AV→AHeap→Prop}{L:Array Bool}{a:Act}{w:World}(h:MM P E w0 ops sd T0 H0 ρ0 defs Q0 L a w):L.size=ops.size:=by
 obtain⟨_,_,_,_,_,_,_,_,I⟩:=h
 exact I.size
theorem a3H(n m:Nat):X1 (Array.replicate n false) m=false:=by
 unfold X1
 rw[Array.getD_eq_getD_getElem?,Array.getElem?_replicate]
 split<;>rfl
theorem b6C(n:Nat):unl n (Array.replicate n false)≤n:=by
 unfold unl
 refine Nat.le_trans List.countP_le_length ?_
 rw[List.length_range]
 exact Nat.le_refl _
theorem MM.start{sd:List o9}(hS:a9h P ops sd)(hsl:sd.length=ops.size){T:List AV}{H:AHeap}{Q0:List AV→AHeap→Prop}(h:a6s P E w0 ops sd [] T H Q0){a:Act}{w:World}{ρ:u5}(hR:B6 E w0 H w ρ)(hT:m6 ρ T a.tmps.toList):MM P E w0 ops sd T H ρ a.defers Q0 (Array.replicate ops.size false) a w:=by
 have G0:Seg P E ops sd T [] 0 H:=⟨Nat.le_refl _,fun i d hd=>by simp at hd,fun i d hd=>by simp at hd,fun i d hd=>by simp at hd⟩
 obtain⟨ds,k1,_,k3,k4,k5,k6⟩:=c0P hS hsl G0 (by simp) h
 refine⟨ds,0,H,ρ,k1,k5,k4,k6,⟨by simp,Nx.refl _ _, ?_,hR,rfl, ?_,fun i _ hi=>by omega,fun i _=>a3H _ i⟩⟩
 ·rw[a6F ds 0 T fun m _=>a3H _ m];exact hT
 ·intro i d hd hi
  rw[a3H _ i]at hi;cases hi
theorem c7k{sd:List o9}(hS:a9h P ops sd)(hsl:sd.length=ops.size){T0:List AV}{H0:AHeap}{ρ0:u5}(hf:M5 ρ0 H0){defs:List Deferred}{Q0:List AV→AHeap→Prop}{Q:Exit→Act→World→Prop}
  (hQ:∀T H a w ρ,Q0 T H→Nx ρ0 ρ H0 H→m6 ρ T a.tmps.toList→B6 E w0 H w ρ→a.defers=defs→Q .normal a w) (hP:b4y E w0 H0 ρ0 defs Q):
  ∀(fuel:Nat) (L:Array Bool) (a:Act) (w:World),MM P E w0 ops sd T0 H0 ρ0 defs Q0 L a w→unl ops.size L≤fuel→wpAny P .any ops Q fuel L a w:=by
 have fin:∀ {L:Array Bool} {a:Act} {w:World},MM P E w0 ops sd T0 H0 ρ0 defs Q0 L a w→(∀i,i<ops.size→X1 L i=true)→Q .normal a w:=fun h hall=>by
  obtain⟨T,H,ρ,h1,h2,h3,h4,h5⟩:=h.fin hsl hall
  exact hQ T H _ _ ρ h1 h2 h3 h4 h5
 intro fuel
 induction fuel with
 |zero=>
  intro L a w I hfu
  have hall:=b7t (n:=ops.size) (L:=L) (by omega)
  refine⟨?_,fin I hall⟩
  rw[List.eq_nil_iff_forall_not_mem]
  intro i hi
  obtain⟨hi0,o,ho,_⟩:=mem_ready.1 hi
  have hil:i<ops.size:=(Array.getElem?_eq_some_iff.1 ho).1
  have h1:=hall i hil
  unfold X1 at h1
  have hsz:=I.size
  rw[Array.getD_eq_getD_getElem?,Array.getElem?_eq_getElem (by omega)]at hi0 h1
  simp only[Option.getD_some]at hi0 h1
  rw[h1]at hi0;cases hi0
 |succ fuel ih=>
  intro L a w I hfu
  refine⟨fun hr=>fin I fun i hi=>hS.all_listed hsl I.size hr (i+1) i (by omega) hi,fun i hr=> ?_⟩
  obtain⟨hi0,o,ho,hedge⟩:=mem_ready.1 hr
  have hil:i<ops.size:=(Array.getElem?_eq_some_iff.1 ho).1
  have hi:X1 L i=false:=by
   unfold X1
   have hsz:=I.size
   rw[Array.getD_eq_getD_getElem?]at hi0 ⊢
   rw[Array.getElem?_eq_getElem (by omega)]at hi0 ⊢
   exact hi0
  have hul:=b9F (n:=ops.size) hil (by have:=I.size;omega) hi
  exact I.step hS hsl hf hr (fun a' w' I'=>ih _ a' w' I' (by omega)) hP
theorem c3x(hm:P.follows .mixedOrders=true){sd:List o9}(hsd:a8p P ops ops.toList []=some sd){id:Nat}{T:List AV}{H:AHeap}{Q:j7→List AV→AHeap→Prop}(h:a6s P E w0 ops sd [] T H (Q .normal)):E6 P E w0 (.region id ops true) T H Q:=by
 intro w ρ a R hR hf hT hk hp
 obtain⟨hS,hsl⟩:=b6y a9h.nil rfl hsd
 refine wp_region_any hm ?_
 exact c7k hS hsl hf (fun T' H' a' w' ρ' hq g1 g2 g3 g4=>hk _ _ _ _ _ hq ⟨ρ',g1,g2,g3,g4⟩) hp ops.size _ a _ (MM.start hS hsl h (hR.heap_eq rfl) hT) (b6C _)
variable{order:List Nat}{extra:List (Nat×Nat)}
theorem c8i(h:a2h ops.size order extra=true)(hg:a5m ops=true)(hb:b6q ops=true){sd:List o9}(hS:a9h P (D6 ops order extra) sd)(hsl:sd.length=(D6 ops order extra).size){T0:List AV}{H0:AHeap}{ρ0:u5}(hf:M5 ρ0 H0){defs:List Deferred}{Q0:List AV→AHeap→Prop}
  {Q:Exit→Act→World→Prop} (hQ:∀L a w,MM P E w0 (D6 ops order extra) sd T0 H0 ρ0 defs Q0 L a w→(∀i,i<(D6 ops order extra).size→X1 L i=true)→Q .normal a w) (hP:b4y E w0 H0 ρ0 defs Q) {π:List Nat} (hex:∀xy∈extra,π.idxOf xy.1<π.idxOf xy.2):
  ∀(fuel:Nat) (rest done:List Nat) (L L':Array Bool) (a:Act) (w:World),Run ops fuel rest L→unl ops.size L≤fuel→π=done++rest→L.size=ops.size→(∀x,x<ops.size→(X1 L x=true↔x∈done))→
   (∀x,x<ops.size→X1 L' (E2 order x)=X1 L x)→MM P E w0 (D6 ops order extra) sd T0 H0 ρ0 defs Q0 L' a w→wpOps P ops Q rest a w:=by
 have onto:∀L L':Array Bool,(∀x,x<ops.size→X1 L' (E2 order x)=X1 L x)→(∀x,x<ops.size→X1 L x=true)→∀i,i<(D6 ops order extra).size→X1 L' i=true:=by
  intro L L' hLL hall i hi
  rw[a9U h]at hi
  obtain⟨x,hx,rfl⟩:=c5C h hi
  rw[hLL x hx]
  exact hall x hx
 intro fuel
 induction fuel with
 |zero=>
  intro rest done L L' a w hrun hu hπ hsz hd hLL I
  cases hrun
  exact hQ L' a w I (onto L L' hLL fun x hx=>b7t (by omega) x hx)
 |succ fuel ih=>
  intro rest done L L' a w hrun hu hπ hsz hd hLL I
  cases hrun with
  |stop hr=>exact hQ L' a w I (onto L L' hLL fun x hx=>a7q hb hsz hr (x+1) x (by omega) hx)
  | @step _ i π' _ hi hrest=>
   rw[wpOps_cons]
   obtain⟨hi0,o,ho,hedge⟩:=mem_ready.1 hi
   have hil:i<ops.size:=(Array.getElem?_eq_some_iff.1 ho).1
   have hoi:ops[i]=o:=by rw[Array.getElem?_eq_getElem hil]at ho;exact Option.some.inj ho
   have hiL:X1 L i=false:=by
    unfold X1
    rw[Array.getD_eq_getD_getElem?]at hi0 ⊢
    rw[Array.getElem?_eq_getElem (by omega)]at hi0 ⊢
    exact hi0
   have hnd:i ∉ done:=fun hm=>by rw[(hd i hil).2 hm]at hiL;cases hiL
   have hpi:π.idxOf i=done.length:=by
    rw[hπ,List.idxOf_append,if_neg hnd,List.idxOf_cons_self,Nat.zero_add]
   have hrd:E2 order i∈Region.ready .any (D6 ops order extra) L':=by
    rw[mem_ready]
    refine⟨?_,_,c0V h hil,fun e he hbn=> ?_⟩
    ·have h1:=hLL i hil
     rw[hiL]at h1
     have hs':=I.size
     rw[a9U h]at hs'
     have hlt:=c1s h hil
     unfold X1 at h1
     rw[Array.getD_eq_getD_getElem?]at h1 ⊢
     rw[Array.getElem?_eq_getElem (by omega)]at h1 ⊢
     exact h1
    ·rw[b9p hil]at he
     simp only[Array.mem_append]at he
     rcases he with he|he
     ·obtain⟨e0,he0,rfl⟩:=Array.mem_map.1 he
      have hb0:Region.binds .any e0=true:=hbn
      have h1:=hedge e0 (by rw[←hoi];exact he0) hb0
      have hlt:e0.on<ops.size:=by
       rw[Array.getD_eq_getD_getElem?]at h1
       by_cases hl:e0.on<L.size
       ·omega
       ·rw[Array.getElem?_eq_none (by omega)]at h1;cases h1
      have:=hLL e0.on hlt
      unfold X1 at this
      rw[this];exact h1
     ·simp only[List.mem_toArray,List.mem_map,List.mem_filter,beq_iff_eq]at he
      obtain⟨xy,⟨hxy,hy⟩,rfl⟩:=he
      have h1:=hex xy hxy
      have hx:=c1a h hxy
      rw[hy,hpi]at h1
      have hmem:xy.1∈done:=by
       by_cases hm:xy.1∈done
       ·exact hm
       ·rw[hπ,List.idxOf_append,if_neg hm]at h1;omega
      have h2:=hLL xy.1 hx
      rw[(hd xy.1 hx).2 hmem]at h2
      exact h2
   refine c5P h hg hil (I.step hS hsl hf hrd (fun a' w' I'=> ?_) hP)
   have hs':=I.size
   rw[a9U h]at hs'
   have hul:=b9F (n:=ops.size) hil (by omega) hiL
   refine ih π' (done++[i]) _ _ a' w' hrest (by omega) (by rw[hπ,List.append_assoc];rfl) (by rw[Array.size_setIfInBounds];exact hsz) ?_ ?_ I'
   ·intro x hx
    rw[a6H (by omega)]
    simp only[Bool.or_eq_true,beq_iff_eq,List.mem_append,List.mem_singleton,hd x hx]
    exact⟨fun h=>h.elim .inr .inl,fun h=>h.elim .inr .inl⟩
   ·intro x hx
    rw[a6H (L:=L') (by have:=c1s h hil;omega),a6H (L:=L) (by omega),hLL x hx]
    congr 1
    rw[Bool.eq_iff_iff,beq_iff_eq,beq_iff_eq]
    exact⟨fun e=>c5m h hx hil e,fun e=>by rw[e]⟩
end
inductive Arr where
 |leaf (order:List Nat)
 |node (i j:Nat) (a b:Arr)
def a7B(P:Program)(ops:Array Oper)(K:Array Oper→List o9→Prop):Arr→List (Nat×Nat)→Prop
 | .leaf order,ex=>if a2h ops.size order ex then match a8p P (D6 ops order ex) (D6 ops order ex).toList []with
   |some sd=>K (D6 ops order ex) sd
   |none=>False
  else False
 | .node i j a b,ex=>if i != j&&(decide (i<ops.size)&&decide (j<ops.size)) then a7B P ops K a (ex++[(i,j)])∧a7B P ops K b (ex++[(j,i)]) else False
theorem a7B.mono{P:Program}{ops:Array Oper}{K K':Array Oper→List o9→Prop}(hk:∀o sd,K o sd→K' o sd):∀ {t:Arr} {ex:List (Nat×Nat)},a7B P ops K t ex→a7B P ops K' t ex
 | .leaf order,ex,h=>by
  unfold a7B at*
  split at h
  ·rename_i c;rw[if_pos c]
   cases e:a8p P (D6 ops order ex) (D6 ops order ex).toList []with
   |none=>rw[e]at h;exact h
   |some sd=>rw[e]at h;exact hk _ _ h
  ·exact h.elim
 | .node i j a b,ex,h=>by
  unfold a7B at*
  split at h
  ·rename_i c;rw[if_pos c];exact⟨a7B.mono hk h.1,a7B.mono hk h.2⟩
  ·exact h.elim
theorem a7B.find{P:Program}{ops:Array Oper}{K:Array Oper→List o9→Prop}{p:Nat→Nat}(hinj:∀i j,i<ops.size→j<ops.size→p i=p j→i=j):∀ {t:Arr} {ex:List (Nat×Nat)},a7B P ops K t ex→(∀xy∈ex,p xy.1<p xy.2)→
  ∃order ex' sd,(∀xy∈ex',p xy.1<p xy.2)∧a2h ops.size order ex'=true∧a8p P (D6 ops order ex') (D6 ops order ex').toList []=some sd∧K (D6 ops order ex') sd
 | .leaf order,ex,h,he=>by
  unfold a7B at h
  split at h
  ·rename_i c
   split at h
   ·rename_i sd hsd
    exact⟨order,ex,sd,he,c,hsd,h⟩
   ·exact h.elim
  ·exact h.elim
 | .node i j a b,ex,h,he=>by
  unfold a7B at h
  split at h
  ·rename_i c
   simp only[Bool.and_eq_true,bne_iff_ne,ne_eq,decide_eq_true_eq]at c
   have hne:¬p i=p j:=fun e=>c.1 (hinj i j c.2.1 c.2.2 e)
   have add:∀ {x:Nat×Nat},p x.1<p x.2→∀xy∈ex++[x],p xy.1<p xy.2:=fun hx xy hm=>by
    rcases List.mem_append.1 hm with hm|hm
    ·exact he xy hm
    ·rw[List.mem_singleton.1 hm];exact hx
   rcases Nat.lt_or_ge (p i) (p j) with hl|hl
   ·exact h.1.find hinj (add hl)
   ·exact h.2.find hinj (add (by show p j<p i;omega))
  ·exact h.elim
section
variable{P:Program}{E:g8}{w0:a4P}{ops:Array Oper}
theorem c1j(hm:P.follows .mixedOrders=true){id:Nat}{T:List AV}{H:AHeap}{Q:j7→List AV→AHeap→Prop}{t:Arr}(hg:a5m ops=true)(hb:b6q ops=true)
  (h:a7B P ops (fun ops' sd=>a6s P E w0 ops' sd [] T H (Q .normal)) t []):E6 P E w0 (.region id ops true) T H Q:=by
 intro w ρ a R hR hf hT hk hp
 refine wp_region_draw fun t=> ?_
 simp only[Region.schedule,hm,Bool.true_or,if_true]
 have hrun:Run ops ops.size (Region.linearise .any ops t) (Array.replicate ops.size false):=c7y _ _ _
 obtain⟨g1,g2⟩:=c8s hb (π:=Region.linearise .any ops t) ops.size _ [] _ hrun (b6C _) rfl (by simp) (fun x _=>by rw[a3H];simp)
 obtain⟨order,ex,sd,hex,hpo,hsd,hO⟩:=h.find (p:=fun x=>(Region.linearise .any ops t).idxOf x) (fun i j hi hj e=>by
  have hi':=List.idxOf_lt_length_of_mem (g1 i hi)
  have hj':=List.idxOf_lt_length_of_mem (g1 j hj)
  have a:=List.getElem_idxOf hi'
  have b:=List.getElem_idxOf hj'
  rw[←a, ←b]
  simp only[e]) (fun xy hx=>by cases hx)
 obtain⟨hS,hsl⟩:=b6y a9h.nil rfl hsd
 refine c8i hpo hg hb hS hsl hf (defs:=a.defers) (Q0:=Q .normal) ?_ hp hex ops.size _ [] _ (Array.replicate (D6 ops order ex).size false) a _ hrun (b6C _) rfl (by simp) (fun x _=>by rw[a3H];simp) (fun x hx=>by rw[a3H,a3H]) (MM.start hS hsl hO (hR.heap_eq rfl) hT)
 intro L a' w' I hall
 obtain⟨T',H',ρ',q1,q2,q3,q4,q5⟩:=I.fin hsl hall
 exact hk _ _ _ _ _ q1 ⟨ρ',q2,q3,q4,q5⟩
end
end Go.Am
end
