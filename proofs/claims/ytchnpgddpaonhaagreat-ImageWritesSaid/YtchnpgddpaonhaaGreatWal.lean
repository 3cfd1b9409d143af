/- A part of the proof of ImageWrites. -/
import Derived.Test.YtchnpgddpaonhaaGreatWak
set_option linter.unusedVariables false
set_option linter.unusedSimpArgs false
set_option maxRecDepth 100000
section
namespace Go.Am
def H7(order:List Nat)(i:Nat):Nat:=order.idxOf i
def c3Q(ops:Array Oper)(order:List Nat)(extra:List (Nat×Nat))(i:Nat):Oper:=
 let o:=ops.getD i default
 { o with
  after:=o.after.map (fun e=>(⟨H7 order e.on,e.ground⟩:Edge))++((extra.filter fun xy=>xy.2==i).map fun xy=>(⟨H7 order xy.1, .data⟩:Edge)).toArray,
  guard:=o.guard.map fun jw=>(H7 order jw.1,jw.2) }
def A0(ops:Array Oper)(order:List Nat)(extra:List (Nat×Nat)):Array Oper:=(order.map (c3Q ops order extra)).toArray
def a4s(n:Nat)(order:List Nat)(extra:List (Nat×Nat)):Bool:=
 order.length==n&&(List.range n).all (fun i=>order.contains i&&decide (order.getD i 0<n)&&H7 order (order.getD i 0)==i)&&extra.all fun xy=>decide (xy.1<n)
section
variable{P:Program}{E:j6}{w0:World}{ops:Array Oper}{order:List Nat}{extra:List (Nat×Nat)}
theorem b7z(h:a4s ops.size order extra=true){i:Nat}(hi:i<ops.size):i∈order:=by
 simp only[a4s,Bool.and_eq_true,List.all_eq_true,List.mem_range]at h
 simpa using(h.1.2 i hi).1.1
theorem d1m(h:a4s ops.size order extra=true){i:Nat}(hi:i<ops.size):∃x,x<ops.size∧H7 order x=i:=by
 simp only[a4s,Bool.and_eq_true,List.all_eq_true,List.mem_range,decide_eq_true_eq,beq_iff_eq]at h
 exact⟨_,(h.1.2 i hi).1.2,(h.1.2 i hi).2⟩
theorem a5e(h:a4s ops.size order extra=true):(A0 ops order extra).size=ops.size:=by
 simp only[a4s,Bool.and_eq_true,beq_iff_eq]at h
 simp[A0,h.1.1]
theorem c4p(h:a4s ops.size order extra=true){xy:Nat×Nat}(hx:xy∈extra):xy.1<ops.size:=by
 simp only[a4s,Bool.and_eq_true,List.all_eq_true,decide_eq_true_eq]at h
 exact h.2 xy hx
theorem c1t(h:a4s ops.size order extra=true){i:Nat}(hi:i<ops.size):H7 order i<ops.size:=by
 have:=List.idxOf_lt_length_of_mem (b7z h hi)
 simp only[a4s,Bool.and_eq_true,beq_iff_eq]at h
 unfold H7
 omega
theorem d0U(h:a4s ops.size order extra=true){i j:Nat}(hi:i<ops.size)(hj:j<ops.size)(e:H7 order i=H7 order j):i=j:=by
 have hi':=List.idxOf_lt_length_of_mem (b7z h hi)
 have hj':=List.idxOf_lt_length_of_mem (b7z h hj)
 have a:=List.getElem_idxOf hi'
 have b:=List.getElem_idxOf hj'
 unfold H7 at e
 rw[←a, ←b]
 simp only[e]
theorem c6O(h:a4s ops.size order extra=true){i:Nat}(hi:i<ops.size):(A0 ops order extra)[H7 order i]? =some (c3Q ops order extra i):=by
 have hi':=List.idxOf_lt_length_of_mem (b7z h hi)
 unfold A0 H7
 rw[List.getElem?_toArray,List.getElem?_map,List.getElem?_eq_getElem hi',List.getElem_idxOf hi']
 rfl
theorem d5S(h:a4s ops.size order extra=true){j:Nat}(hj:j<ops.size)(tmps:Array Value):yielded (A0 ops order extra) tmps (H7 order j)=yielded ops tmps j:=by
 unfold yielded
 rw[c6O h hj,Array.getElem?_eq_getElem hj]
 have:(c3Q ops order extra j).dst=ops[j].dst:=by
  unfold c3Q
  simp[Array.getD_eq_getD_getElem?,Array.getElem?_eq_getElem hj]
 simp only[Option.bind_some,this]
def b1I(ops:Array Oper):Bool:=ops.all fun o=>match o.guard with
 |none=>true
 |some (j,_)=>decide (j<ops.size)
theorem c4k{i:Nat}(hi:i<ops.size):c3Q ops order extra i= { ops[i]with
  after:=ops[i].after.map (fun e=>(⟨H7 order e.on,e.ground⟩:Edge))++((extra.filter fun xy=>xy.2==i).map fun xy=>(⟨H7 order xy.1, .data⟩:Edge)).toArray,
  guard:=ops[i].guard.map fun jw=>(H7 order jw.1,jw.2) }:=by
 unfold c3Q
 simp[Array.getD_eq_getD_getElem?,Array.getElem?_eq_getElem hi]
theorem d0Z(h:a4s ops.size order extra=true)(hg:b1I ops=true){i:Nat}(hi:i<ops.size){Q:Exit→Act→World→Prop}{K:Act→World→Prop}{a:Act}{w:World}
  (hw:wpOp P (A0 ops order extra) Q (H7 order i) K a w):wpOp P ops Q i K a w:=by
 unfold wpOp at hw ⊢
 rw[c6O h hi,c4k hi]at hw
 rw[Array.getElem?_eq_getElem hi]
 simp only at hw ⊢
 have hgi:(match ops[i].guard with
   |none=>true
   |some (j,_)=>decide (j<ops.size))=true:=by
  have:=Array.all_eq_true.1 hg i hi
  exact this
 have hwant:Region.wanted { ops[i]with
   after:=ops[i].after.map (fun e=>(⟨H7 order e.on,e.ground⟩:Edge))++((extra.filter fun xy=>xy.2==i).map fun xy=>(⟨H7 order xy.1, .data⟩:Edge)).toArray,
   guard:=ops[i].guard.map fun jw=>(H7 order jw.1,jw.2) } (yielded (A0 ops order extra) a.tmps)=Region.wanted ops[i] (yielded ops a.tmps):=by
  unfold Region.wanted
  simp only
  cases hgu:ops[i].guard with
  |none=>rfl
  |some jw=>
   obtain⟨j,wt⟩:=jw
   rw[hgu]at hgi
   simp only[decide_eq_true_eq]at hgi
   simp only[Option.map_some,d5S h hgi]
 rw[hwant]at hw
 exact hw
inductive Run (ops:Array Oper):Nat→List Nat→Array Bool→Prop where
 |zero (L:Array Bool):Run ops 0 [] L
 |stop {n:Nat} {L:Array Bool} (h:Region.ready .any ops L=[]):Run ops (n+1) [] L
 |step {n i:Nat} {π:List Nat} {L:Array Bool} (hi:i∈Region.ready .any ops L) (h:Run ops n π (L.setIfInBounds i true)):Run ops (n+1) (i::π) L
theorem d5P:∀(fuel t:Nat) (L:Array Bool),Run ops fuel (Region.linearise.go .any ops fuel t L []) L
 |0,t,L=>by simp only[Region.linearise.go,List.reverse_nil];exact .zero L
 |fuel+1,t,L=>by
  simp only[Region.linearise.go]
  change Run ops (fuel+1) (match (Region.ready .any ops L)[t % (Region.ready .any ops L).length]? with
   |some i=>Region.linearise.go .any ops fuel (t / (Region.ready .any ops L).length) (L.setIfInBounds i true) [i]
   |none=>[].reverse) L
  cases hi:(Region.ready .any ops L)[t % (Region.ready .any ops L).length]? with
  |none=>
   have hnil:Region.ready .any ops L=[]:=by
    cases hr:Region.ready .any ops L with
    |nil=>rfl
    |cons x xs=>
     rw[hr]at hi
     have hlt:t % (x::xs).length<(x::xs).length:=Nat.mod_lt _ (by simp)
     simp at hi
     simp at hlt
     omega
   exact .stop hnil
  |some i=>
   simp only[]
   rw[linearise_go_acc,List.reverse_singleton,List.singleton_append]
   exact .step (List.mem_of_getElem? hi) (d5P fuel _ _)
def c7m(ops:Array Oper):Bool:=(List.range ops.size).all fun i=>(ops.getD i default).after.all fun e=>decide (e.on<i)|| !Region.binds .any e
theorem b0r(hb:c7m ops=true){L:Array Bool}(hsz:L.size=ops.size)(h:Region.ready .any ops L=[]):∀(N j:Nat),j<N→j<ops.size→J7 L j=true
 |0,j,hj,_=>by omega
 |N+1,j,hj,hjs=>by
  cases hl:J7 L j with
  |true=>rfl
  |false=>
   have hm:j∈Region.ready .any ops L:=by
    rw[mem_ready]
    refine⟨?_,ops[j],Array.getElem?_eq_getElem hjs,fun e he hbn=> ?_⟩
    ·unfold J7 at hl
     rw[Array.getD_eq_getD_getElem?]at hl ⊢
     rw[Array.getElem?_eq_getElem (by omega)]at hl ⊢
     exact hl
    ·have h1:=List.all_eq_true.1 hb j (List.mem_range.2 hjs)
     have hoj:ops.getD j default=ops[j]:=by simp[Array.getD_eq_getD_getElem?,Array.getElem?_eq_getElem hjs]
     rw[hoj,Array.all_eq_true_iff_forall_mem]at h1
     have h2:e.on<j:=by simpa [hbn]using h1 e he
     exact b0r hb hsz h N e.on (by omega) (by omega)
   rw[h]at hm
   cases hm
theorem e1x(h:a4s ops.size order extra=true)(hg:b1I ops=true)(hb:c7m ops=true){T0:List AV}{gs:Nat→AHeap}{ds:List r5}{n:Nat}(G:b3Q P E w0 (A0 ops order extra) T0 gs ds n)(hlen:ds.length=(A0 ops order extra).size){ρ0:B7}(hf:P4 ρ0 (gs 0)){defs:List Deferred}
  {Q:Exit→Act→World→Prop} (hQ:∀L a w ρ m,Mid E w0 (A0 ops order extra) ds gs n (gs 0) T0 ρ0 defs L a w ρ m→(∀i,i<(A0 ops order extra).size→J7 L i=true)→Q .normal a w) {π:List Nat} (hex:∀xy∈extra,π.idxOf xy.1<π.idxOf xy.2):
  ∀(fuel:Nat) (rest done:List Nat) (L L':Array Bool) (a:Act) (w:World) (ρ:B7) (m:Nat),Run ops fuel rest L→unl ops.size L≤fuel→π=done++rest→L.size=ops.size→(∀x,x<ops.size→(J7 L x=true↔x∈done))→
   (∀x,x<ops.size→J7 L' (H7 order x)=J7 L x)→Mid E w0 (A0 ops order extra) ds gs n (gs 0) T0 ρ0 defs L' a w ρ m→wpOps P ops Q rest a w:=by
 have onto:∀L L':Array Bool,(∀x,x<ops.size→J7 L' (H7 order x)=J7 L x)→(∀x,x<ops.size→J7 L x=true)→∀i,i<(A0 ops order extra).size→J7 L' i=true:=by
  intro L L' hLL hall i hi
  rw[a5e h]at hi
  obtain⟨x,hx,rfl⟩:=d1m h hi
  rw[hLL x hx]
  exact hall x hx
 intro fuel
 induction fuel with
 |zero=>
  intro rest done L L' a w ρ m hrun hu hπ hsz hd hLL I
  cases hrun
  exact hQ L' a w ρ m I (onto L L' hLL fun x hx=>b5A (by omega) x hx)
 |succ fuel ih=>
  intro rest done L L' a w ρ m hrun hu hπ hsz hd hLL I
  cases hrun with
  |stop hr=>exact hQ L' a w ρ m I (onto L L' hLL fun x hx=>b0r hb hsz hr (x+1) x (by omega) hx)
  | @step _ i π' _ hi hrest=>
   rw[wpOps_cons]
   obtain⟨hi0,o,ho,hedge⟩:=mem_ready.1 hi
   have hil:i<ops.size:=(Array.getElem?_eq_some_iff.1 ho).1
   have hoi:ops[i]=o:=by rw[Array.getElem?_eq_getElem hil]at ho;exact Option.some.inj ho
   have hiL:J7 L i=false:=by
    unfold J7
    rw[Array.getD_eq_getD_getElem?]at hi0 ⊢
    rw[Array.getElem?_eq_getElem (by omega)]at hi0 ⊢
    exact hi0
   have hnd:i ∉ done:=fun hm=>by rw[(hd i hil).2 hm]at hiL;cases hiL
   have hpi:π.idxOf i=done.length:=by
    rw[hπ,List.idxOf_append,if_neg hnd,List.idxOf_cons_self,Nat.zero_add]
   have hrd:H7 order i∈Region.ready .any (A0 ops order extra) L':=by
    rw[mem_ready]
    refine⟨?_,_,c6O h hil,fun e he hbn=> ?_⟩
    ·have h1:=hLL i hil
     rw[hiL]at h1
     have hs':=I.size
     rw[a5e h]at hs'
     have hlt:=c1t h hil
     unfold J7 at h1
     rw[Array.getD_eq_getD_getElem?]at h1 ⊢
     rw[Array.getElem?_eq_getElem (by omega)]at h1 ⊢
     exact h1
    ·rw[c4k hil]at he
     simp only[Array.mem_append]at he
     rcases he with he|he
     ·obtain⟨e0,he0,rfl⟩:=Array.mem_map.1 he
      have hb0:Region.binds .any e0=true:=hbn
      have h1:=hedge e0 (by rw[←hoi];exact he0) hb0
      have hlt:e0.on<ops.size:=by
       rw[Array.getD_eq_getD_getElem?]at h1
       by_cases hl:e0.on<L.size
       ·omega
       ·rw[Array.getElem?_eq_none (by omega)]at h1;cases h1
      have:=hLL e0.on hlt
      unfold J7 at this
      rw[this];exact h1
     ·simp only[List.mem_toArray,List.mem_map,List.mem_filter,beq_iff_eq]at he
      obtain⟨xy,⟨hxy,hy⟩,rfl⟩:=he
      have h1:=hex xy hxy
      have hx:=c4p h hxy
      rw[hy,hpi]at h1
      have hmem:xy.1∈done:=by
       by_cases hm:xy.1∈done
       ·exact hm
       ·rw[hπ,List.idxOf_append,if_neg hm]at h1;omega
      have h2:=hLL xy.1 hx
      rw[(hd xy.1 hx).2 hmem]at h2
      exact h2
   refine d0Z h hg hil (d3l G hlen hf I hrd fun a' w' ρ' m' I'=> ?_)
   have hs':=I.size
   rw[a5e h]at hs'
   have hul:=c1M (n:=ops.size) hil (by omega) hiL
   refine ih π' (done++[i]) _ _ a' w' ρ' m' hrest (by omega) (by rw[hπ,List.append_assoc];rfl) (by rw[Array.size_setIfInBounds];exact hsz) ?_ ?_ I'
   ·intro x hx
    rw[a4k (by omega)]
    simp only[Bool.or_eq_true,beq_iff_eq,List.mem_append,List.mem_singleton,hd x hx]
    exact⟨fun h=>h.elim .inr .inl,fun h=>h.elim .inr .inl⟩
   ·intro x hx
    rw[a4k (L:=L') (by have:=c1t h hil;omega),a4k (L:=L) (by omega),hLL x hx]
    congr 1
    rw[Bool.eq_iff_iff,beq_iff_eq,beq_iff_eq]
    exact⟨fun e=>d0U h hx hil e,fun e=>by rw[e]⟩
theorem d7g(hb:c7m ops=true){π:List Nat}:∀(fuel:Nat) (rest done:List Nat) (L:Array Bool),Run ops fuel rest L→unl ops.size L≤fuel→π=done++rest→L.size=ops.size→(∀x,x<ops.size→(J7 L x=true↔x∈done))→
  (∀x,x<ops.size→x∈π)∧∀i,i<ops.size→i ∉ done→∀e∈(ops.getD i default).after,Region.binds .any e=true→π.idxOf e.on<π.idxOf i:=by
 have last:∀(rest done:List Nat) (L:Array Bool),π=done++rest→(∀x,x<ops.size→(J7 L x=true↔x∈done))→(∀x,x<ops.size→J7 L x=true)→
   (∀x,x<ops.size→x∈π)∧∀i,i<ops.size→i ∉ done→∀e∈(ops.getD i default).after,Region.binds .any e=true→π.idxOf e.on<π.idxOf i:=by
  intro rest done L hπ hd hall
  refine⟨fun x hx=> ?_,fun i hi hn=>(hn ((hd i hi).1 (hall i hi))).elim⟩
  rw[hπ]
  exact List.mem_append_left _ ((hd x hx).1 (hall x hx))
 intro fuel
 induction fuel with
 |zero=>
  intro rest done L hrun hu hπ hsz hd
  cases hrun
  exact last _ done L hπ hd fun x hx=>b5A (by omega) x hx
 |succ fuel ih=>
  intro rest done L hrun hu hπ hsz hd
  cases hrun with
  |stop hr=>exact last _ done L hπ hd fun x hx=>b0r hb hsz hr (x+1) x (by omega) hx
  | @step _ i π' _ hi hrest=>
   obtain⟨hi0,o,ho,hedge⟩:=mem_ready.1 hi
   have hil:i<ops.size:=(Array.getElem?_eq_some_iff.1 ho).1
   have hiL:J7 L i=false:=by
    unfold J7
    rw[Array.getD_eq_getD_getElem?]at hi0 ⊢
    rw[Array.getElem?_eq_getElem (by omega)]at hi0 ⊢
    exact hi0
   have hnd:i ∉ done:=fun hm=>by rw[(hd i hil).2 hm]at hiL;cases hiL
   have hpi:π.idxOf i=done.length:=by
    rw[hπ,List.idxOf_append,if_neg hnd,List.idxOf_cons_self,Nat.zero_add]
   have hul:=c1M (n:=ops.size) hil (by omega) hiL
   obtain⟨g1,g2⟩:=ih π' (done++[i]) _ hrest (by omega) (by rw[hπ,List.append_assoc];rfl) (by rw[Array.size_setIfInBounds];exact hsz) (fun x hx=>by
    rw[a4k (by omega)]
    simp only[Bool.or_eq_true,beq_iff_eq,List.mem_append,List.mem_singleton,hd x hx]
    exact⟨fun h=>h.elim .inr .inl,fun h=>h.elim .inr .inl⟩)
   refine⟨g1,fun j hj hjn e he hbn=> ?_⟩
   by_cases hji:j=i
   ·subst hji
    have hoj:ops.getD j default=o:=by rw[Array.getD_eq_getD_getElem?,ho];rfl
    rw[hoj]at he
    have h1:=hedge e he hbn
    have hlt:e.on<ops.size:=by
     rw[Array.getD_eq_getD_getElem?]at h1
     by_cases hl:e.on<L.size
     ·omega
     ·rw[Array.getElem?_eq_none (by omega)]at h1;cases h1
    have hm:=(hd e.on hlt).1 h1
    rw[hpi,hπ,List.idxOf_append,if_pos hm]
    exact List.idxOf_lt_length_of_mem hm
   ·exact g2 j hj (by simp only[List.mem_append,List.mem_singleton];intro h;exact h.elim hjn hji) e he hbn
theorem d7W(hm:P.follows .mixedOrders=true){id:Nat}{T:List AV}{H:AHeap}{Q:o6→List AV→AHeap→Prop}(arrs:List (List Nat×List (Nat×Nat)))(hg:b1I ops=true)(hb:c7m ops=true)(hp:(arrs.all fun oe=>a4s ops.size oe.1 oe.2)=true)
  (hcover:∀p:Nat→Nat,(∀i,i<ops.size→∀e∈(ops.getD i default).after,Region.binds .any e=true→p e.on<p i)→(∀i j,i<ops.size→j<ops.size→p i=p j→i=j)→∃oe∈arrs,∀xy∈oe.2,p xy.1<p xy.2)
  (h:∀oe∈arrs,a6V P E w0 (A0 ops oe.1 oe.2) (A0 ops oe.1 oe.2).toList [] T H [] (Q .normal)):H9 P E w0 (.region id ops true) T H Q:=by
 intro w ρ a R hR hf hT hk
 refine wp_region_draw fun t=> ?_
 simp only[Region.schedule,hm,Bool.true_or,if_true]
 have hL:∀m,J7 (Array.replicate ops.size false) m=false:=by
  intro m
  unfold J7
  rw[Array.getD_eq_getD_getElem?,Array.getElem?_replicate]
  split<;>rfl
 have hun:unl ops.size (Array.replicate ops.size false)≤ops.size:=by
  unfold unl
  refine Nat.le_trans List.countP_le_length ?_
  rw[List.length_range]
  exact Nat.le_refl _
 have hrun:Run ops ops.size (Region.linearise .any ops t) (Array.replicate ops.size false):=d5P _ _ _
 obtain⟨g1,g2⟩:=d7g hb (π:=Region.linearise .any ops t) ops.size _ [] _ hrun hun rfl (by simp) (fun x _=>by rw[hL x];simp)
 obtain⟨oe,hoe,hex⟩:=hcover (fun x=>(Region.linearise .any ops t).idxOf x) (fun i hi e he hbn=>g2 i hi (by simp) e he hbn) (fun i j hi hj e=>by
  have hi':=List.idxOf_lt_length_of_mem (g1 i hi)
  have hj':=List.idxOf_lt_length_of_mem (g1 j hj)
  have a:=List.getElem_idxOf hi'
  have b:=List.getElem_idxOf hj'
  rw[←a, ←b]
  simp only[e])
 have hpo:=List.all_eq_true.1 hp oe hoe
 have hdw:=b1T (fun d hd=>by cases hd) (h oe hoe) (Rb.put hR hf hT)
 obtain⟨ds,gs,n,G,hlen,h0,hq⟩:=a9a (T0:=T) (H0:=H) (A0 ops oe.1 oe.2).toList [] H [] (Q .normal) hdw b3Q.nil' rfl rfl (fun i d hd=>by simp at hd)
 subst h0
 refine e1x hpo hg hb G hlen hf (defs:=a.defers) ?_ hex ops.size _ [] _ (Array.replicate (A0 ops oe.1 oe.2).size false) a _ ρ 0 hrun hun rfl (by simp) (fun x _=>by rw[hL x];simp) ?_ ?_
 ·intro L a' w' ρ' m I hall
  have hmn:m=n:=by
   refine Nat.le_antisymm I.le (Nat.le_of_not_lt fun hlt=> ?_)
   obtain⟨j,e,h1,h2,h3⟩:=G.full m hlt
   have:=(I.cnt j e h1 h2).1 (hall j (by rw[←hlen];exact(List.getElem?_eq_some_iff.1 h1).1))
   omega
  subst hmn
  have hD:∀m,0≤m→m<0+ds.length→J7 L m=(fun _=>true) m:=fun m _ h=>hall m (by omega)
  have hrow:=I.row
  rw[a3B ds 0 T hD]at hrow
  exact hk _ _ _ _ _ hq ⟨ρ',I.nx,hrow,I.rep,I.defs⟩
 ·intro x hx
  have hL':∀m,J7 (Array.replicate (A0 ops oe.1 oe.2).size false) m=false:=by
   intro m
   unfold J7
   rw[Array.getD_eq_getD_getElem?,Array.getElem?_replicate]
   split<;>rfl
  rw[hL',hL]
 ·have hL':∀m,J7 (Array.replicate (A0 ops oe.1 oe.2).size false) m=false:=by
   intro m
   unfold J7
   rw[Array.getD_eq_getD_getElem?,Array.getElem?_replicate]
   split<;>rfl
  refine⟨by simp,Nx.refl _ _, ?_,hR.heap_eq rfl,rfl, ?_,Nat.zero_le _, ?_⟩
  ·rw[a7W ds 0 T fun m _=>hL' m];exact hT
  ·intro i d hd hi
   rw[hL' i]at hi;cases hi
  ·intro j e he hew
   rw[hL' j]
   simp
end
end Go.Am
end
