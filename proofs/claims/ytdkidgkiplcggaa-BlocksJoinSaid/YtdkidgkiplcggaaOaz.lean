/-
  BlocksJoinSaid: part Oaz of its proof.
-/
import Derived.Test.YtdkidgkiplcggaaOaw
import Derived.Test.YtdkidgkiplcggaaOax
import Derived.Below
import Derived.Laws.AppendOwn
import Derived.Shelf.SlIterI.Nil
import Derived.Test.YtdkidgkiplcggaaProg
import Derived.Test.YtdkidgkiplcggaaOay
import Derived.Test.YtdkidgkiplcggaaOav
set_option linter.unusedVariables false
set_option linter.unusedSimpArgs false
set_option maxRecDepth 100000
section
namespace Go.Am
open Go.Sort
section
variable{P:Program}{E:d6}{w0:a2N}
theorem a8P{ops:Array Oper}:∀ {l:List Oper} {T:List AV} {H:AHeap} {Q Q':List AV→AHeap→Prop},(∀T' H',Q T' H'→Q' T' H')→b4R P E w0 ops l T H Q→b4R P E w0 ops l T H Q'
 | [],T,H,Q,Q',hq,h=>hq T H h
 |o::l,T,H,Q,Q',hq,h=>by
  unfold b4R at h ⊢
  exact V9 h fun v H' hv=>a8P hq hv
theorem c4B{ops:Array Oper}{i:Nat}{o1 o2:Oper}{l:List Oper}(hops:ops.toList.drop i=o1::o2::l){t1 t2:Tmp}{f1 f2:FuncId}(g1:o1.guard=none)(g2:o2.guard=none)(d1:o1.dst=some t1)(d2:o2.dst=some t2)
  {T:List AV} {H:AHeap} {args1:List AV} (e1:N4 P E T H o1=some (.call f1 args1 H)) (e2:∀u,N4 P E (T.set t1 (.opq u)) H o2=some (.call f2 [.opq u] H)) {Q:AV→AHeap→Prop} {Q':List AV→AHeap→Prop}
  (hc:∀w ρ vargs,A3 E w0 H w ρ→I3 ρ H→i5 ρ args1 vargs.toList→Calls P f1 vargs w fun e w1=>∃u,e= .returned u∧A3 E w0 H w1 ρ∧Calls P f2 #[u] w1 (b1I E w0 ρ H Q))
  (hQ:∀u v H',Q v H'→b4R P E w0 ops l ((T.set t1 (.opq u)).set t2 v) H' Q') {w:World} {ρ:p4} {a:Act} (hR:A3 E w0 H w ρ) (hT:i5 ρ T a.tmps.toList) (hf:I3 ρ H) {R:Exit→Act→World→Prop}
  (hk:∀T' H' a' w',Q' T' H'→StA E w0 H ρ a.defers T' H' a' w'→R .normal a' w') (hp:b0B E w0 H ρ a.defers R):wpOps P ops R (List.range' i (o1::o2::l).length) a w:=by
 have ho1:ops[i]? =some o1:=by
  have:(ops.toList.drop i)[0]? =some o1:=by rw[hops];rfl
  rw[List.getElem?_drop]at this
  simpa using this
 have ho2:ops[i+1]? =some o2:=by
  have:(ops.toList.drop i)[1]? =some o2:=by rw[hops];rfl
  rw[List.getElem?_drop]at this
  simpa using this
 have hdr:ops.toList.drop (i+2)=l:=by
  have:=congrArg (List.drop 2) hops
  rw[List.drop_drop]at this
  exact this
 have hn:List.range' i (o1::o2::l).length=i::(i+1)::List.range' (i+2) l.length:=by
  simp[List.range'_succ]
 rw[hn,wpOps_cons]
 unfold wpOp
 rw[ho1]
 simp only
 have w1:∀(o:Oper) (y:Nat→Option Bool),o.guard=none→Region.wanted o y=true:=fun o y h=>by unfold Region.wanted;rw[h]
 rw[w1 _ _ g1,if_pos rfl]
 left
 unfold Oper.wp
 obtain⟨_,vargs,k1,k2⟩:=a5F hR e1 (a1k hT)
 rw[k1]
 refine Calls.mono (hc w ρ vargs hR hf k2) ?_
 rintro e wa ⟨u,rfl,hRa,hcall⟩
 show wpOps P ops R _ (a.put o1.dst u) wa
 have hT1:i5 ρ (T.set t1 (.opq u)) (a.put o1.dst u).tmps.toList:=by
  have:=a5w (dst:=o1.dst) (a:=a) (v:= .opq u) (vv:=u) hT (by simp only[rel])
  rw[d1]at this ⊢
  exact this
 rw[wpOps_cons]
 unfold wpOp
 rw[ho2]
 simp only
 rw[w1 _ _ g2,if_pos rfl]
 left
 unfold Oper.wp
 obtain⟨_,vargs2,k3,k4⟩:=a5F hRa (e2 u) (a1k hT1)
 rw[k3]
 have hv2:vargs2= #[u]:=by
  obtain⟨l2⟩:=vargs2
  simp only[i5]at k4
  obtain⟨v,vs,rfl,h1,rfl⟩:=k4
  simp only[rel]at h1
  rw[h1]
 rw[hv2]
 refine Calls.mono hcall ?_
 intro e w2 he
 cases e with
 |returned v2=>
  obtain⟨ρ',v,H',k5,k6,k7,k8⟩:=he
  show wpOps P ops R _ ((a.put o1.dst u).put o2.dst v2) w2
  have hT2:i5 ρ' ((T.set t1 (.opq u)).set t2 v) ((a.put o1.dst u).put o2.dst v2).tmps.toList:=by
   have:=a5w (dst:=o2.dst) (a:=a.put o1.dst u) (v:=v) (vv:=v2) (E3 k6.1 _ _ hT1) k7
   rw[d2]at this ⊢
   exact this
  refine a6L l (i+2) _ _ _ (hQ u v H' k5) hdr w2 ρ' _ k8 hT2 (hf.step k6) ?_ ?_
  ·intro T' H'' a' w'' hq hst
   rw[F3,F3]at hst
   exact hk _ _ _ _ hq (StA.trans k6 hst)
  ·rw[F3,F3]
   exact hp.trans k6
 |panicked c=>
  obtain⟨u2,ρ',v,H',rfl,k5,k6,k7,k8⟩:=he
  exact hp u2 v ρ' H' (a.put o1.dst u) w2 k5 k6 k7 k8 (by rw[F3])
 |outgrown=>exact he.elim
theorem c0j{id:Nat}{ops:Array Oper}{o0 o1 o2:Oper}{l:List Oper}(hops:ops.toList=o0::o1::o2::l){t0 t1 t2 x:Tmp}{f1 f2:FuncId}(g0:o0.guard=none)(g1:o1.guard=none)(g2:o2.guard=none)(d0:o0.dst=some t0)(d1:o1.dst=some t1)(d2:o2.dst=some t2)
  {T:List AV} {H:AHeap} (p0:o0.op= .move (.tmp x)) {args1:List AV} (e1:N4 P E (T.set t0 (T.getD x o5)) H o1=some (.call f1 args1 H)) (e2:∀u,N4 P E ((T.set t0 (T.getD x o5)).set t1 (.opq u)) H o2=some (.call f2 [.opq u] H)) {Q:AV→AHeap→Prop} {Q':j7→List AV→AHeap→Prop}
  (hc:∀w ρ vargs,A3 E w0 H w ρ→I3 ρ H→i5 ρ args1 vargs.toList→Calls P f1 vargs w fun e w1=>∃u,e= .returned u∧A3 E w0 H w1 ρ∧Calls P f2 #[u] w1 (b1I E w0 ρ H Q))
  (hQ:∀u v H',Q v H'→b4R P E w0 ops l (((T.set t0 (T.getD x o5)).set t1 (.opq u)).set t2 v) H' (Q' .normal)):B9 P E w0 (.region id ops false) T H Q':=by
 intro w ρ a R hR hf hT hk hp
 refine wp_region ?_
 have ho0:ops[0]? =some o0:=by rw[←Array.getElem?_toList,hops];rfl
 have hn:List.range ops.size=0::List.range' 1 (o1::o2::l).length:=by
  rw[←Array.length_toList,hops,List.range_eq_range',List.length_cons,List.range'_succ]
 rw[hn,wpOps_cons]
 have hst:Y3 P E w0 ops T H o0 fun v H'=>v=T.getD x o5∧H'=H:=by
  obtain⟨dst,op,ty,pos,after,guard⟩:=o0
  simp only at p0 g0
  subst p0 g0
  exact⟨rfl,rfl⟩
 refine a2q hst ho0 hR hT hf ?_ hp
 rintro v H1 ρ' vv w' ⟨rfl,rfl⟩ h1 h2 h3
 have hT1:=a5w (dst:=o0.dst) (E3 h1.1 _ _ hT) h2
 rw[d0]at hT1
 simp only[W9]at hT1
 refine c4B (i:=1) (by rw[hops];rfl) g1 g2 d1 d2 e1 e2 hc hQ h3 (by rw[d0];exact hT1) (hf.step h1) ?_ ?_
 ·intro T' H'' a' w'' hq hst
  rw[F3]at hst
  exact hk _ _ _ _ _ hq (StA.trans h1 hst)
 ·rw[F3]
  exact hp.trans h1
end
theorem A3.below{E:d6}{w0:World}{H:AHeap}{w w2:World}{ρ:p4}(R:A3 E w0 H w ρ)(hb:RowKit.Below w.heap.size w w2):A3 E w0 H w2 ρ:=
 ⟨by have:=R.size;have:=hb.size;omega,fun b h=>by rw[hb.block b (by have:=R.size;omega)];exact R.old b h,R.env,⟨by rw[hb.os];exact R.side.1,by rw[hb.output];exact R.side.2⟩,
  fun k o e=>let ⟨l,h1,h2,h3⟩:=R.objs k o e;⟨l,h1,h2,D3 h3 (hb.block _ (N5 h3))⟩,R.apart,R.pres,R.kin⟩
theorem A3.newAt{E:d6}{w0:World}{H:AHeap}{w w2:World}{ρ:p4}(R:A3 E w0 H w ρ)(hk:ρ H.next=none)(hb:RowKit.Below w.heap.size w w2){g:Nat}{cs:List AV}{arr:Array Value}{el:TypeId}{lo hi:Nat}(hgw:w.heap.size≤g)(hc:w2.heap[g]? =some (.cells arr el (lo,hi)))
  (hl:cs.length≤arr.size) (hr:i5 ρ cs (arr.toList.take cs.length)) (hf:lo=hi∨arr.size≤lo):A3 E w0 (newCells H cs) w2 (upd ρ H.next ⟨g,0,arr.size⟩):=by
 have R2:=R.below hb
 have hx:=V2 (ρ:=ρ) ⟨g,0,arr.size⟩ hk
 have hg:∀k o,(newCells H cs).get k=some o→(k=H.next∧o= .cells cs true [])∨(k≠H.next∧H.get k=some o):=by
  intro k o e
  rw[show newCells H cs=H.new (.cells cs true []) from rfl,AHeap.get_new]at e
  split at e
  ·rename_i h;cases e;exact .inl ⟨h.symm,rfl⟩
  ·rename_i h;exact .inr ⟨fun h'=>h h'.symm,e⟩
 have far:∀k o l,H.get k=some o→ρ k=some l→l.blk≠g:=fun k o l e h=>by
  obtain⟨m,hm,_,ho⟩:=R.objs k o e
  rw[h]at hm;cases hm
  have:=N5 ho
  omega
 refine⟨R2.size,R2.old,R2.env,R2.side, ?_, ?_, ?_, ?_⟩
 ·intro k o e
  rcases hg k o e with ⟨rfl,rfl⟩|⟨h1,h2⟩
  ·refine⟨_,u6 _ _,by have:=R.size;show _≤g;omega,arr,el,lo,hi,hc,rfl,by simpa using hl, ?_,fun _=>hf⟩
   simp only[List.drop_zero]
   exact E3 hx _ _ hr
  ·obtain⟨l,hl,hs,ho⟩:=R2.objs k o h2
   exact⟨l,by rw[o7 _ h1];exact hl,hs,a3e hx ho⟩
 ·intro k k' o o' l l' h1 h2 h3 h4 h5 h6
  rcases hg k o h1 with ⟨rfl,rfl⟩|⟨g1,g2⟩<;>rcases hg k' o' h2 with ⟨rfl,rfl⟩|⟨g1',g2'⟩
  ·exact absurd rfl h5
  ·rw[u6]at h3;rw[o7 _ g1']at h4
   cases h3
   exact absurd h6.symm (far _ _ _ g2' h4)
  ·rw[u6]at h4;rw[o7 _ g1]at h3
   cases h4
   exact absurd h6 (far _ _ _ g2 h3)
  ·rw[o7 _ g1]at h3;rw[o7 _ g1']at h4
   exact R.apart k k' o o' l l' g2 g2' h3 h4 h5 h6
 ·intro k o e p hpp
  rcases hg k o e with ⟨rfl,rfl⟩|⟨h1,h2⟩
  ·cases hpp
  ·obtain⟨a,b⟩:=R.pres k o h2 p hpp
   obtain⟨m,hm⟩:=Option.isSome_iff_exists.1 b
   exact⟨a,by rw[hx _ _ hm];rfl⟩
 ·intro k p o op l lp h1 h2 h3 h4 h5
  rcases hg k o h1 with ⟨rfl,rfl⟩|⟨g1,g2⟩
  ·cases h2
  ·rcases hg p op h3 with ⟨rfl,_⟩|⟨g1',g2'⟩
   ·have:=(R.pres k o g2 _ h2).2
    rw[hk]at this;cases this
   ·rw[o7 _ g1]at h4;rw[o7 _ g1']at h5
    exact R.kin k p o op l lp g2 h2 g2' h4 h5
def b4C(P:Program)(fk fs:FuncId):Prop:=∀(b:Nat) (es:Array MapEntry) (clock:Nat) (ns:List Int) (w:World),w.heap[b]? =some (.map es clock)→es.toList.map (·.key)=ns.map (Value.int .i64)→ns.Nodup→(es.toList.map (·.born)).Nodup→(∀e∈es.toList,e.born<clock)→
 (∀n∈ns, -(2^63)≤n∧n<2^63)→ns.length<2^38→
 Calls P fk #[.map (some b)] w fun e w1=>∃u el,e= .returned u∧w1=w.alloc (.cells #[.map (some b)] el)∧Calls P fs #[u] w1 fun e' w2=>∃v ss T,e'= .returned v∧ss.Perm ns∧
  w2.ownsRow w1.heap.size T 1 v ss.length ((ss.mergeSort fun x y=>decide (x≤y)).map (Value.int .i64))∧(v= .slice none 0 0↔ss=[])∧RowKit.Below w1.heap.size w1 w2
theorem b3R{ρ:p4}:∀ {es:List (AV×AV×Nat)} {l:List MapEntry} {ns:List Int},R8 ρ es l→es.map (·.1)=ns.map (.int .i64)→l.map (·.key)=ns.map (Value.int .i64)∧l.map (·.born)=es.map (·.2.2)
 | [],_,ns,h,e=>by
  cases ns with
  |nil=>rw[show _=[]from h];exact⟨rfl,rfl⟩
  |cons n ns=>cases e
 |(a,b,c)::es,_,ns,⟨x,r,h0,h1,h2,h3,h4⟩,e=>by
  cases ns with
  |nil=>cases e
  |cons n ns=>
   simp only[List.map_cons,List.cons.injEq]at e
   obtain⟨rfl,e⟩:=e
   obtain⟨k1,k2⟩:=b3R h4 e
   simp only[rel]at h1
   rw[h0]
   simp only[List.map_cons,k1,k2,h1,h3]
   exact⟨trivial,trivial⟩
theorem b3W{P:Program}{E:d6}{T:List AV}{H:AHeap}{o:Oper}{f:FuncId}{x:Tmp}{ty:Array TypeId}(ho:o.op= .call ⟨.value (.func f), #[.tmp x],ty⟩)(hb:a1P P f=true):N4 P E T H o=some (.call f [T.getD x o5] H):=by
 obtain⟨dst,op,t,pos,after,guard⟩:=o
 simp only at ho
 subst ho
 simp only[N4,K9,b9,F9,hb]
 rfl
theorem b6m{E:d6}{R:Fz}:∀ {ts:List (Int×Int×Nat)} {es:List (AV×AV×Nat)},RpE E R (ts.map b0s) es→es.map (·.1)=(ts.map (·.1)).map (.int .i64)∧es.map (·.2.2)=ts.map (·.2.2)
 | [],es,h=>by rw[show es=[]from h];exact⟨rfl,rfl⟩
 |t::ts,_,⟨kd,vd,e,es',e1,h,e2,e3,e4⟩=>by
  rw[h]
  simp only[b0s,List.cons.injEq,and_true,D.int.injEq,true_and]at e1
  obtain⟨rfl,rfl,e5⟩:=e1
  obtain⟨i1,i2⟩:=b6m e4
  simp only[Rp]at e2
  simp only[List.map_cons,i1,i2,e2]
  exact⟨trivial,by congr 1;omega⟩
theorem b6I{E:d6}{R:Fz}:∀(l:List Int),o4 E R (E4 l).flatten (l.map (.int .i64))
 | []=>u5
 |n::l=>j6 (by simp only[Rp]) (b6I l)
theorem b8M{P:Program}{E:d6}{w0:i7}{fk fs:FuncId}(hs:b4C P fk fs)(bk:a1P P fk=true)(bs:a1P P fs=true){id:Nat}{ops:Array Oper}{o0 o1 o2:Oper}{l:List Oper}(hops:ops.toList=o0::o1::o2::l){x t0 t1 t2:Tmp}{ty1 ty2:Array TypeId}
  (p0:o0.op= .move (.tmp x)) (g0:o0.guard=none) (d0:o0.dst=some t0) (p1:o1.op= .call ⟨.value (.func fk), #[.tmp t0],ty1⟩) (p2:o2.op= .call ⟨.value (.func fs), #[.tmp t1],ty2⟩) (g1:o1.guard=none) (g2:o2.guard=none) (d1:o1.dst=some t1) (d2:o2.dst=some t2) {T:List D} (ht0:t0<T.length) (ht1:t1<T.length) {S:b5} {k:Nat} {ts:List (Int×Int×Nat)} (hx:T.getD x b6= .mp k)
  (hm:J2 S k ts) (hI:∀t∈ts, -(2^63)≤t.1∧t.1<2^63) (hl:ts.length<2^38) {Q:j7→List D→b5→Prop}
  (hQ:∀(ss:List Int) (d:D) (S2:b5),ss.Perm (ts.map (·.1))→X0 S [] d (E4 (ss.mergeSort fun x y=>decide (x≤y))) 1 S2→S.le S2→b0o P (r7 P E w0) (a4O E w0) ops l (((T.set t0 .any).set t1 .any).set t2 d) S2 (Q .ret)):d5 P E w0 (.seq (.region id ops false) .ret) T S Q:=fun R H avs F hC hT=>by
 obtain⟨acs,hSk⟩:=hm.has
 obtain⟨hRk,es,clock,hacs,hHk,hE,hnd,hcl⟩:=hC.mapAt hSk (a5C _ _)
 have hxa:avs.getD x o5= .map k:=by
  have:=a4M hT x
  rw[hx]at this
  simpa only[Rp]using this
 have hal:=hT.length
 obtain⟨hk1,hk2⟩:=b6m hE
 have hns:(ts.map (·.1)).length<2^38:=by rw[List.length_map];exact hl
 refine b3Z (c0j hops g0 g1 g2 d0 d1 d2 p0 (args1:=[.map k]) (f1:=fk) (f2:=fs) (by
   have:t0<avs.length:=(by rw[hal];exact ht0)
   rw[b3W p1 bk,List.getD_eq_getElem?_getD,List.getElem?_set,if_pos rfl,if_pos this];simp only[Option.getD_some];rw[hxa]) (fun u=>by have:t1<avs.length:=(by rw[hal];exact ht1);rw[b3W p2 bs];simp[List.getD_eq_getElem?_getD,List.getElem?_set,this])
  (Q:=fun v H'=>∃ss:List Int,ss.Perm (ts.map (·.1))∧((ss=[]∧v= .nilSlc∧H'=H)∨(ss≠[]∧v= .slc (.new H.next) 0 ss.length ss.length false 1∧H'=newCells H ((ss.mergeSort fun x y=>decide (x≤y)).map (.int .i64))))) ?_ ?_)
 ·intro w ρ vargs hR hf hr
  obtain⟨vs⟩:=vargs
  simp only[i5]at hr
  obtain⟨v,vs',rfl,hv,rfl⟩:=hr
  simp only[rel]at hv
  obtain⟨lc,hlc,rfl⟩:=hv
  obtain⟨lc',mes,e1,e2,e3⟩:=hR.mapOf hHk
  rw[hlc]at e1
  cases e1
  obtain⟨i1,i2⟩:=b3R e3 hk1
  refine Calls.mono (hs lc.blk mes clock (ts.map (·.1)) w e2 i1 hm.keys (by rw[i2];exact hnd) (fun e he=> ?_) (fun n hn=> ?_) hns) ?_
  ·have:e.born∈es.map (·.2.2):=by rw[←i2];exact List.mem_map.2 ⟨e,he,rfl⟩
   obtain⟨x,hx,hx2⟩:=List.mem_map.1 this
   rw[←hx2];exact hcl x hx
  ·obtain⟨t,ht,rfl⟩:=List.mem_map.1 hn
   exact hI t ht
  rintro e w1 ⟨u,el,rfl,rfl,hcall⟩
  have hb1:RowKit.Below w.heap.size w (w.alloc (.cells #[.map (some lc.blk)] el)):=(RowKit.Below.refl _ w).alloc (Nat.le_refl _) _
  have hR1:=hR.below hb1
  refine⟨u,rfl,hR1,Calls.mono hcall ?_⟩
  rintro e' w2 ⟨v,ss,tt,rfl,hperm,hrow,hnil,hb⟩
  rcases hrow.2 with ⟨rfl,hz⟩|⟨g,cap,cur,rfl,hbase,hg,r1,r2,r3,r4⟩
  ·have h0:ss=[]:=hnil.1 rfl
   exact⟨ρ,_,H,⟨ss,hperm, .inl ⟨h0,rfl,rfl⟩⟩,Nx.refl _ _,by simp only[rel],hR1.below hb⟩
  ·have h0:ss≠[]:=fun e=>by have:=hnil.2 e;cases this
   have hfr:ρ H.next=none:=hf _ (Nat.le_refl _)
   have hlen:(ss.mergeSort fun x y=>decide (x≤y)).length=ss.length:=List.length_mergeSort ss
   rw[Nat.mul_one]at r3 r4
   have hR2:=hR1.newAt hfr hb hbase hg (cs:=(ss.mergeSort fun x y=>decide (x≤y)).map (.int .i64)) (by rw[List.length_map,hlen];omega) (by rw[List.length_map,hlen,r4];exact a9h _) (.inl rfl)
   refine⟨_, .slc (.new H.next) 0 ss.length ss.length false 1,_,⟨ss,hperm, .inr ⟨h0,rfl,rfl⟩⟩,⟨V2 _ hfr,Nat.le_succ _,fun j hj=>o7 _ (fun e=>hj ⟨by rw[e];exact Nat.le_refl _,by rw[e];exact Nat.lt_succ_self _⟩)⟩, ?_,hR2⟩
   simp only[rel,B6,u6,Option.map_some]
   exact⟨_,cap,rfl,r1,r1,fun h=>(by cases h), .inr ⟨g,0,rfl,rfl⟩,⟨_,u6 _ _,by simp only;omega⟩⟩
 ·rintro u v H' ⟨ss,hperm,h⟩
  have hlen:(ss.mergeSort fun x y=>decide (x≤y)).length=ss.length:=List.length_mergeSort ss
  have hT1:∀R',R.le R'→∀d,Rp E R' d v→o4 E R' (((T.set t0 .any).set t1 .any).set t2 d) (((avs.set t0 (avs.getD x o5)).set t1 (.opq u)).set t2 v):=fun R' hle d hd=>o4.set (o4.set (o4.set (o4.le hle _ _ hT) t0 a4J) t1 a4J) t2 hd
  have hTl:∀d,(((T.set t0 .any).set t1 .any).set t2 d).length=T.length:=fun d=>by simp
  rcases h with ⟨h0,rfl,rfl⟩|⟨h0,rfl,rfl⟩
  ·have:=hQ ss .nilSlc S hperm (.inl ⟨rfl,by rw[List.length_eq_zero_iff.1 (by rw[hlen,h0];rfl:(ss.mergeSort fun x y=>decide (x≤y)).length=0)];rfl⟩) (b5.le_refl S)
   have:=a8c (b4U (Fz.le_refl R) F hC (hT1 R (Fz.le_refl R) .nilSlc (by simp only[Rp])) this)
   rw[hTl]at this
   exact a8P (fun T' H' hp=>a9v hp) this
  ·obtain⟨k1,k2,k3,F'⟩:=F.newCells ((ss.mergeSort fun x y=>decide (x≤y)).map (.int .i64))
   have hfr:=hC.fresh
   have hC':=(hC.stays F' k2).put (k:=H.next) (o:=⟨1,E4 (ss.mergeSort fun x y=>decide (x≤y)),(ss.mergeSort fun x y=>decide (x≤y)).map (.int .i64)⟩) hfr.1 k1 (fun p hp=>by cases hp) (a2s _)
    (fun row hr=>by rw[E4,List.mem_map]at hr;obtain⟨n,_,rfl⟩:=hr;rfl) (b6I _)
   have hil:(E4 (ss.mergeSort fun x y=>decide (x≤y))).length=ss.length:=by rw[E4,List.length_map,hlen]
   have:=hQ ss (.raw H.next 0 ss.length ss.length false 1) (S.set H.next ⟨1,E4 (ss.mergeSort fun x y=>decide (x≤y)),(ss.mergeSort fun x y=>decide (x≤y)).map (.int .i64)⟩) hperm (.inr ⟨H.next,_,hfr.2,by simp,by rw[hil],b5.set_same _ _ _⟩) (b5.le_new hfr.2)
   have:=a8c (b4U (Fz.le_refl R) F' hC' (hT1 R (Fz.le_refl R) _ (by simp only[Rp,Nat.zero_mul];exact⟨by decide,trivial⟩)) this)
   rw[hTl]at this
   exact a8P (fun T' H' hp=>a9v hp) this
end Go.Am
end
section
namespace Go.Proofs
open Go.Shelf
def Try.keysM_ren:Go.Shelf.Ren:=⟨fun|7=>42|10=>59|n=>n,fun|23=>73|26=>3|3=>3|28=>80|0=>0|27=>79|33=>99|4=>4|n=>n,fun|n=>n⟩
theorem Try.keysM:Go.Proofs.SlLaysZI.n7 Try.prog Try.keysM_ren:= {
 mixed:=by kernel_rfl
 f7:=⟨Try.f42.name,by decide,Try.func42.trans (congrArg some (by kernel_rfl))⟩
 f10:=⟨Try.f59.name,by decide,Try.func59.trans (congrArg some (by kernel_rfl))⟩
 t0:=Try.underlying0
 a0:=Try.isAgg0
 z0:=Try.sizeOf0
 v0:=Try.zeroValue0
 t4:=Try.underlying4
 a4:=Try.isAgg4
 z4:=Try.sizeOf4
 v4:=Try.zeroValue4
 t23:=Try.underlying73
 a23:=Try.isAgg73
 z23:=Try.sizeOf73
 v23:=Try.zeroValue73
 t26:=Try.underlying3
 a26:=Try.isAgg3
 z26:=Try.sizeOf3
 v26:=Try.zeroValue3
 t27:=Try.underlying79
 a27:=Try.isAgg79
 z27:=Try.sizeOf79
 v27:=Try.zeroValue79
 t28:=Try.underlying80
 a28:=Try.isAgg80
 z28:=Try.sizeOf80
 v28:=Try.zeroValue80
 t33:=Try.underlying99
 a33:=Try.isAgg99
 z33:=Try.sizeOf99
 v33:=Try.zeroValue99 }
def Try.sortedM_ren:Go.Shelf.Ren:=⟨fun|6=>41|8=>58|9=>39|11=>86|13=>56|12=>55|23=>84|24=>85|14=>76|15=>77|16=>78|17=>79|18=>80|19=>81|20=>66|21=>82|22=>83|25=>108|26=>109|27=>110|28=>111|29=>112|30=>92|31=>128|n=>n,fun|26=>3|28=>80|24=>31|0=>0|3=>3|37=>97|48=>145|50=>147|4=>4|40=>139|39=>138|45=>77|5=>5|9=>9|51=>167|55=>171|57=>191|58=>192|33=>99|n=>n,fun|n=>n⟩
theorem Try.sortedM:Go.Proofs.SlLaysZI.n6 Try.prog Try.sortedM_ren:= {
 mixed:=by kernel_rfl
 f6:=⟨Try.f41.name,by decide,Try.func41.trans (congrArg some (by kernel_rfl))⟩
 f8:=⟨Try.f58.name,by decide,Try.func58.trans (congrArg some (by kernel_rfl))⟩
 f11:=⟨Try.f86.name,by decide,Try.func86.trans (congrArg some (by kernel_rfl))⟩
 t0:=Try.underlying0
 a0:=Try.isAgg0
 z0:=Try.sizeOf0
 v0:=Try.zeroValue0
 t24:=Try.underlying31
 a24:=Try.isAgg31
 z24:=Try.sizeOf31
 v24:=Try.zeroValue31
 t26:=Try.underlying3
 a26:=Try.isAgg3
 z26:=Try.sizeOf3
 v26:=Try.zeroValue3
 t28:=Try.underlying80
 a28:=Try.isAgg80
 z28:=Try.sizeOf80
 v28:=Try.zeroValue80
 i26:=by kernel_rfl }
end Go.Proofs
end
section
open Go.Proofs Go Go.Am Go.Op
namespace Go.Proofs.Ytdkidgkiplcggaa.d
section
open Go.RowKit Go.Maps Go.Sort Go.Shelf
open Go.WideElems (Fit rg)
theorem c3Z(m:Nat):AnyZI.SortsIn Try.prog Try.sortedM_ren Fence.wide m:=
 ⟨fun blk off cap ss W hH hblk hsz=>callsIn_wide.2 (Try.slices_Sort_int blk off cap ss W hH hblk hsz),
  fun p cap W=>callsIn_wide.2 (Try.slices_Sort_int_none p cap W)⟩
def b7O:Value→Option (DataW Nat×List MemPlace):=fun _=>some (.nil,[])
theorem b0e{x:Lit×DataW Nat}:∀l:List (Lit×DataW Nat),(DataW.insert x l).Perm (x::l)
 | []=>by simp[DataW.insert]
 |y::r=>by
  unfold DataW.insert
  split
  ·exact List.Perm.refl _
  ·exact((b0e r).cons y).trans (List.Perm.swap x y r)
theorem b2Z:∀l:List (Lit×DataW Nat),(l.foldr DataW.insert []).Perm l
 | []=>List.Perm.refl _
 |x::l=>(b0e _).trans ((b2Z l).cons x)
theorem b6j{K:TypeId}(hK:Try.prog.underlying K=some (.int .i64)):∀ {es:List MapEntry} {ns:List Int},es.map (·.key)=ns.map (Value.int .i64)→(∀n∈ns, -(2^63)≤n∧n<2^63)→
  (∀x∈es,∃y,Go.WideElems.rd Try.prog K b7O x=some y)∧(es.map (rg Try.prog K b7O)).map (fun p=>Go.intOf p.1)=ns
 | [],ns,h,_=>by
  cases ns with
  |nil=>exact⟨fun x hx=>(by cases hx),rfl⟩
  |cons n ns=>cases h
 |e::es,ns,h,hI=>by
  cases ns with
  |nil=>cases h
  |cons n ns=>
   simp only[List.map_cons,List.cons.injEq]at h
   obtain⟨h1,h2⟩:=h
   obtain⟨i1,i2⟩:=b6j hK h2 fun m hm=>hI m (List.mem_cons_of_mem _ hm)
   obtain⟨b1,b2⟩:=hI n List.mem_cons_self
   have hw:(Lit.int .i64 n).wf=true:=by
    simp only[Lit.wf,IntKind.min,IntKind.max,IntKind.bits,IntKind.signed,Bool.and_eq_true,decide_eq_true_eq]
    constructor<;>simp<;>omega
   have hr:Go.WideElems.rd Try.prog K b7O e=some (.int .i64 n, .nil):=by
    unfold Go.WideElems.rd
    rw[h1,keyOf_int_mk hK hw]
    rfl
   refine⟨fun x hx=> ?_, ?_⟩
   ·rcases List.mem_cons.1 hx with rfl|hx
    ·exact⟨_,hr⟩
    ·exact i1 x hx
   ·show Go.intOf (rg Try.prog K b7O e).1::_=_
    rw[Go.WideElems.rg_of hr,i2]
    rfl
theorem b6w:b4C Try.prog a2e a5W:=by
 intro b es clock ns w hb hk hn hst hcl hI hl
 have hK:=Try.underlying3
 obtain⟨r1,r2⟩:=b6j hK hk hI
 have hsz:es.size=ns.length:=by
  have:=congrArg List.length hk
  simpa using this
 have hnd:(es.toList.map (·.key)).Nodup:=by
  rw[hk]
  exact hn.map (Value.int .i64) fun a b h h'=>h (by injection h')
 let D0:DataW Nat:= .map ((es.toList.map (rg Try.prog 3 b7O)).foldr DataW.insert [])
 have hperm:=b2Z (es.toList.map (rg Try.prog 3 b7O))
 have hown:w.ownsMap Try.prog 3 b7O b es.size D0:=⟨es,clock,hb,⟨by rw[hsz];unfold maxLen;omega,⟨hcl,hst,hnd⟩,r1⟩,Nat.le_refl _,rfl⟩
 have hms:Maps.size D0=ns.length:=by
  show(List.foldr DataW.insert [] _).length=_
  rw[hperm.length_eq,List.length_map,Array.length_toList,hsz]
 have hmk:(intKeys D0).Perm ns:=by
  have:(intKeys D0)=(List.foldr DataW.insert [] (es.toList.map (rg Try.prog 3 b7O))).map fun p=>Go.intOf p.1:=rfl
  rw[this, ←r2]
  exact hperm.map _
 have hbl:=hown.lt
 have cK:CallsIn Fence.wide 5 Try.prog 42 #[.map (some b)] w fun e w'=>e= .returned (.func (.func 59) #[] #[.pointer (some ⟨w.heap.size,0,none⟩)])∧w'=w.alloc (.cells #[.map (some b)] (Try.keysM_ren.t 23)):=
  AnyZI.keys_in Try.keysM Fence.wide 5 trivial rfl (some b) w
 refine Calls.mono (callsIn_wide.1 cK) ?_
 rintro e w1 ⟨rfl,rfl⟩
 refine⟨_,_,rfl,rfl, ?_⟩
 have hseq:SeqGives Fence.wide 2 Try.prog 59 #[.pointer (some ⟨w.heap.size,0,none⟩)] encZ (fun ss=>ss.Perm (intKeys D0)) (Maps.size D0) (w.alloc (.cells #[.map (some b)] (Try.keysM_ren.t 23))):=
  AnyZI.keys_gives (ρ:=Try.keysM_ren) { Try.keysM with } Fence.wide _ trivial rfl (by omega) w.heap.size b es.size D0 _ (by simp) (by simp) (by
   obtain⟨es,clock,hb,Ft,hs,hD⟩:=hown
   exact⟨es,clock,(RowKit.Below.heap_alloc _ _ b hbl).trans hb,Ft,hs,hD⟩)
 have cS:=AnyZI.sorted_in Try.sortedM Fence.wide 5 trivial trivial trivial trivial rfl (by omega) (c3Z _) (enters_of Try.func39 (by kernel_rfl) rfl) 59 #[.pointer (some ⟨w.heap.size,0,none⟩)] trivial (enters_of Try.func59 (by kernel_rfl) rfl) _ _
  (by rw[hms];unfold maxLen;omega) (by rw[hms];omega) _ hseq
 refine Calls.mono (callsIn_wide.1 cS) ?_
 rintro e w2 ⟨v,ss,rfl,hp,hrow,hnil,hbe⟩
 exact⟨v,ss,_,rfl,hp.trans hmk,hrow,hnil,hbe⟩
end
section
set_option linter.unusedSectionVars false
theorem a5E{l:List I7}{n:Int}(h:a3c l n):n∈l.map (·.at'):=by
 cases h with
 |base hb=>exact List.mem_map.2 ⟨_,List.mem_of_getElem? hb,rfl⟩
 |step _ _ _ _ hs=>
  obtain⟨i,hi⟩:=Option.isSome_iff_exists.1 hs
  obtain⟨c,hc,e⟩:=Q9 hi
  exact List.mem_map.2 ⟨c,List.mem_of_getElem? hc,e⟩
section
variable{E:d6}{w0:i7}
noncomputable def a7S:Array Oper:=match G9 with
 | .seq (.region _ ops _) _=>ops
 |_=> #[]
def c3E(o:Oper):Array TypeId:=match o.op with
 | .call c=>c.argTypes
 |_=> #[]
theorem c4s:G9= .seq (.region 22 a7S false) .ret:=by kernel_rfl
theorem c3s{k:Nat}{ts:List (Int×Int×Nat)}{S:b5}{Q:D→b5→Prop}(hm:J2 S k ts)(hI:∀n∈ts.map (·.1),I64 n)(hl:ts.length<2^38)(hQ:∀d S2,X0 S [] d (iC (srt (ts.map (·.1)))) 1 S2→S.le S2→Q d S2):M8 E w0 Q (.mp k) S:=by
 unfold M8
 rw[c4s]
 refine b8M b6w (by kernel_rfl) (by kernel_rfl) (o0:=a7S[0]!) (o1:=a7S[1]!) (o2:=a7S[2]!) (l:=[a7S[3]!]) (by kernel_rfl) (x:=5) (t0:=76) (t1:=77) (t2:=78) (ty1:=c3E a7S[1]!) (ty2:=c3E a7S[2]!) (by kernel_rfl) (by kernel_rfl) (by kernel_rfl) (by kernel_rfl) (by kernel_rfl) (by kernel_rfl) (by kernel_rfl) (by kernel_rfl) (by kernel_rfl) (by rw[j0];decide) (by rw[j0];decide) (k:=k) (ts:=ts) rfl hm (fun t ht=>by have:=hI t.1 (List.mem_map.2 ⟨t,ht,rfl⟩);unfold I64 at this;constructor<;>omega) hl ?_
 intro ss d S2 hp hg hle
 have e:ss.mergeSort (fun x y=>decide (x≤y))=srt (ts.map (·.1)):=mergeSort_of_perm_i hp
 rw[e,X5]at hg
 have h:=hQ d S2 hg hle
 show b0o Try.prog (r7 Try.prog E w0) (a4O E w0) a7S [a7S[3]!] _ S2 _
 exact Eq.mpr (by kernel_rfl) h
theorem a8R{l:List I7}(hat:∀b∈l,I64 b.at')(hl:l.length<2^37)(hW:wgt (fun _=>true) l<2^37)(hnx:∀b∈l,b.next.length<2^37){S:b5}:r7 Try.prog E w0 B5 [A0 l] S fun d S'=>S.le S'∧∃r,X0 S [] d (iC r) 1 S'∧r.Pairwise (· < ·)∧∀n,n∈r↔a3c l n:=by
 refine a7N ?_
 unfold a5s
 refine J2.new fun k S1 hk hm hs1=> ?_
 have l1:S.le S1:=fun j o hj=>by rw[hs1 j (fun e=>by rw[e,hk]at hj;cases hj)];exact hj
 rw[Q8,oD,a7o,oD,g9 (by omega) (by omega)]
 refine c5Z (by omega) hm hk l1 fun ts S2 hm2 ha l2=> ?_
 refine J2.new fun k2 S3 hk2 hm3 hs3=> ?_
 have hkk:k≠k2:=fun e=>hm2.there (by rw[e];exact hk2)
 have hk20:S k2=none:=b5.none_of l2 hk2
 have l3:S.le S3:=fun j o hj=>by rw[hs3 j (fun e=>by rw[e,hk20]at hj;cases hj)];exact l2 _ _ hj
 have hm2:=hm2.of (hs3 k hkk)
 have fin:∀ {x6:D} {todo:List Int} {T:b5},Sl S [k,k2] x6 todo T→todo.length≤1→S3.le T→b1F l todo []→C8 E w0 (b8 E fun d S'=>S.le S'∧∃r,X0 S [] d (iC r) 1 S'∧r.Pairwise (· < ·)∧∀n,n∈r↔a3c l n) (A0 l) (.mp k) (.mp k2) x6 T:=by
  intro x6 todo T ht htl hle hI
  refine a5i ?_
  unfold a2k
  refine c6r hl hW hnx ha (hm2.of (b9a hle hm2.there)) (hm3.of (b9a hle hm3.there)) hk hk20 hkk ht htl (b5.le_trans l3 hle) hI fun ts2 S' hmm hks hle'=> ?_
  have hlen:ts2.length≤l.length:=by
   have:=a0D hmm.keys (l2:=l.map (·.at')) fun a ha=>a5E ((hks a).1 ha)
   simpa using this
  refine c3s hmm (fun n hn=> ?_) (by omega) fun d S5 hg hle5=> ?_
  ·obtain⟨b,hb,rfl⟩:=List.mem_map.1 (a5E ((hks n).1 hn))
   exact hat b hb
  have hr:=b7q (hs:=ts2.map (·.1)) hmm.keys fun n=>Iff.rfl
  rw[hr]at hg
  refine b8.here ⟨b5.le_trans hle' hle5,a0t (ts2.map (·.1)), ?_,(C9 _).1,fun n=>by rw[(C9 _).2,hks]⟩
  rcases hg with h|⟨kk,acs,h0,h⟩
  ·exact .inl h
  ·exact .inr ⟨kk,acs,b5.none_of hle' h0,h⟩
 rw[Q8,oD,b0O,oD,cdI]
 refine⟨fun hgt=> ?_,fun hng=> ?_⟩
 ·refine b1a fun d T hT=> ?_
  have hav:∀j∈[k,k2],S3 j≠none:=fun j hj=>by
   rcases List.mem_cons.1 hj with rfl|hj
   ·exact hm2.there
   ·rw[List.mem_singleton.1 hj];exact hm3.there
  refine fin (c4t hT l3 hav) (by simp) hT.le ⟨fun n x h=>by simp[prs]at h,fun t ht=> ?_,fun a i b n i' h=>by simp[prs]at h,fun b _=> .inr (by simp)⟩
  cases l with
  |nil=>simp at hgt
  |cons c l=>
   rw[List.mem_singleton.1 ht]
   exact⟨0,c,rfl,rfl,by rw[a0Y,if_pos rfl], .base rfl⟩
 ·have:l=[]:=List.length_eq_zero_iff.1 (by omega)
  subst this
  exact fin (.inl ⟨rfl,rfl⟩) (by simp) (b5.le_refl _) ⟨fun n x h=>(by simp[prs]at h),fun t ht=>(by cases ht),fun a i b n i' h=>(by simp[prs]at h),fun b hb=>(by cases hb)⟩
theorem a4b{l:List I7}(hat:∀b∈l,I64 b.at')(hl:l.length<2^37)(hW:wgt (fun _=>true) l<2^37)(hnx:∀b∈l,b.next.length<2^37){S:b5}:r7 Try.prog E w0 B5 [A0 l] S fun d S'=>S'=S∧∃r,d=iD r∧r.Pairwise (· < ·)∧∀n,n∈r↔a3c l n:=
 (a8R hat hl hW hnx).fin fun d S' ⟨hle,r,hg,h1,h2⟩=>by
  rcases hg with ⟨rfl,e⟩|⟨kk,acs,h0,_,rfl,hS⟩
  ·have e0:r=[]:=by
    cases hh:r with
    |nil=>rfl
    |cons a b=>rw[hh]at e;simp[iC,U6]at e
   subst e0
   exact b8.less hle (b8.weak (d':=iD []) (Wk.nil 1) (b8.here ⟨rfl,[],rfl,h1,h2⟩))
  ·refine b8.freeze hS rfl (by simp) (Nat.le_refl _) ?_
   rw[List.drop_zero,List.take_of_length_le (Nat.le_refl _)]
   exact b8.less (b5.le_erase hle h0) (b8.here ⟨rfl,r,rfl,h1,h2⟩)
end
end
section
set_option linter.unusedSectionVars false
theorem c3r(t:Int)(l:List Int):V3 1 (iD (t::l)) (some (.int .i64 1)) none none=some (iD l):=by
 have h:1≤(iC (t::l)).length:=by rw[i4];simp
 have hb:A7 (.int .i64 1) (iC (t::l)).length=some 1:=c4J (n:=1) h
 unfold iD
 simp only[V3,E5,b4H,a5g,b0N,if_true,Option.bind_some,hb,Option.map_some]
 rw[List.take_of_length_le (by rw[List.length_drop];exact Nat.le_refl _),Nat.sub_self,List.take_zero]
 rfl
theorem b3S(ys:List In)(ext tops:List Int):∀n,(A6 ys ext tops n).2.length≤n∧(A6 ys ext tops n).1.length≤tops.length
 |0=>⟨Nat.le_refl _,Nat.le_refl _⟩
 |n+1=>by
  obtain⟨h1,h2⟩:=b3S ys ext tops n
  simp only[A6,b5m]
  split
  ·split
   ·refine⟨by simp;omega, ?_⟩
    show(A6 ys ext tops n).1.tail.length≤_
    rw[List.length_tail];omega
   ·refine⟨?_,h2⟩
    show(a0p (A6 ys ext tops n).2 _ _).length≤_
    unfold a0p
    split
    ·simp;omega
    ·simp
  ·exact⟨by omega,h2⟩
theorem b2K{ys:List In}(harm:∀y∈ys,y.arms.length≤65535)(ext tops:List Int):∀n,∀b∈(A6 ys ext tops n).2,b.next.length≤65540
 |0,b,h=>by cases h
 |n+1,b,h=>by
  have ih:=b2K harm ext tops n
  simp only[A6,b5m]at h
  split at h
  ·rename_i y hy
   have hl:=a8F (harm y (List.mem_of_getElem? hy)) (ext.getD (n+1) 0)
   split at h
   ·rcases List.mem_append.1 h with h|h
    ·exact ih b h
    ·rw[List.mem_singleton.1 h];exact hl
   ·have h:b∈a0p (A6 ys ext tops n).2 (ext.getD (n+1) 0) (p9 y (ext.getD (n+1) 0)):=h
    unfold a0p at h
    split at h
    ·rcases List.mem_append.1 h with h|h
     ·exact ih b (List.dropLast_subset _ h)
     ·rw[List.mem_singleton.1 h];exact hl
    ·cases h
  ·exact ih b h
theorem c1T{S0 S:b5}{t:D}{rows:List (List D)}{row:List D}(hg:X0 S0 [] t (rows++[row]) 3 S):∃p,m9 3 t (.int .i64 (rows.length:Int))=some p∧∀i,∃q,t6 i p=some q∧c9 S q=row[i]? :=by
 rcases hg with ⟨_,e⟩|⟨k,acs,h0,h1,rfl,h3⟩
 ·simp at e
 ·refine⟨_,c3y (by simp),fun i=>⟨_,ofR .., ?_⟩⟩
  rw[ldR h3 (row:=row) (by simp),Nat.zero_add]
section
variable{E:d6}{w0:i7}
theorem c2r{l:List Int}(hl:l.length<2^40){q:Int}{S:b5}:r7 Try.prog E w0 V6 [iD l, .int .i64 q] S fun d S'=>S'=S∧∃r:Int,d= .int .i64 r∧(0≤r↔q∈l):=by
 refine a4m ?_
 unfold a1N
 rw[a3T,oD]
 refine a2U (I:=fun n x0 x1 x7 x8 T=>x0=iD l∧x1= .int .i64 q∧x7= .int .i64 (l.length:Int)∧T=S∧∃i:Nat,x8= .int .i64 (i:Int)∧i+n=l.length∧q ∉ l.take i) ?_ (n:=l.length) ⟨rfl,rfl,rfl,rfl,0,rfl,by omega,by simp⟩
 rintro n _ _ _ _ _ ⟨rfl,rfl,rfl,rfl,i,rfl,hi,hq⟩
 unfold N6
 rw[a3K,oD,cdI]
 refine⟨fun hlt=> ?_,fun hge=>b8.here ⟨rfl,_,rfl, ?_⟩⟩
 ·have hlt:i<l.length:=by omega
  have ht:l[i]? =some l[i]:=List.getElem?_eq_getElem hlt
  generalize l[i]=t at ht
  rw[a5a ht,oD,lsE,List.getElem?_cons_zero,oD,b0j,oD,cdI]
  refine⟨fun h=>b8.here ⟨rfl,_,rfl, ?_⟩,fun h=> ?_⟩
  ·rw[h];exact⟨fun _=>List.mem_of_getElem? ht,fun _=>by omega⟩
  ·rw[J8,oD,g9 (by omega) (by omega)]
   refine⟨n - 1,by omega,rfl,rfl,rfl,rfl,i+1,rfl,by omega, ?_⟩
   rw[List.take_add_one,ht]
   simp[hq,h]
 ·rw[List.take_of_length_le (by omega)]at hq
  exact⟨fun h=>by omega,fun h=>absurd h hq⟩
theorem b7P{l:List Int}(hl:l.length<2^40){q:Int}:a0X Try.prog E w0 M0 [iD l, .int .i64 q] (.bool (decide (q∈l))):=fun S=>by
 refine a2L ?_
 unfold Y4
 refine(c2r hl).use ?_
 rintro d S' ⟨rfl,r,rfl,h⟩
 rw[c0E,oD]
 refine b8.here ⟨?_,rfl⟩
 congr 1
 exact decide_eq_decide.2 h
def a2y(len:Int)(st:List Int×List I7):List I7×Int:=match st.1,st.2.getLast? with
 | [],some b=>if len∈b.next then([],190) else(st.2,0)
 |_,_=>([],190)
def ofD(r:List I7×Int):D:= .tup [A0 r.1, .int .i64 r.2]
theorem c6e{code:List Int}{ys:List In}{ext tops:List Int}(h0:ys≠[]→tops.head? =some (ext.getD 0 0))(hyl:ys.length<2^39)(he:ext.length=ys.length+1)(htl:tops.length<2^40)(harm:∀y∈ys,y.arms.length≤65535){S0 S:b5}(hle:S0.le S):
  d5 Try.prog E w0 (.loop U1) (g8 173 [0,5,14,16,94,95,96] [bD code,iD ext,iD tops, .nilSlc,Q1 ys, .int .i64 (ys.length:Int),(.int .i64 0)]) S (U8 E w0 (b8 E fun d S'=>d=ofD (a2y code.length (A6 ys ext tops ys.length))∧S'=S0)):=by
 refine a8C (I:=fun n x0 x5 x14 x16 x94 x95 x96 T=>x0=bD code∧x5=iD ext∧x94=Q1 ys∧x95= .int .i64 (ys.length:Int)∧∃i:Nat,x96= .int .i64 (i:Int)∧i+n=ys.length∧x14=iD (A6 ys ext tops i).1∧X0 S0 [] x16 ((A6 ys ext tops i).2.map F7) 3 T∧S0.le T) ?_ (n:=ys.length)
  ⟨rfl,rfl,rfl,rfl,0,rfl,by omega,rfl,X0.nil,hle⟩
 rintro n _ _ _ x16 _ _ _ T ⟨rfl,rfl,rfl,rfl,i,rfl,hi,rfl,hg,hle⟩
 unfold a2G
 obtain⟨b1,b2⟩:=b3S ys ext tops i
 rw[a3K,oD,cdI]
 refine⟨fun hlt=> ?_,fun hge=> ?_⟩
 ·have hlt:i<ys.length:=by omega
  have hy:ys[i]? =some ys[i]:=List.getElem?_eq_getElem hlt
  have hmem:ys[i]∈ys:=List.getElem_mem hlt
  generalize ys[i]=y at hy hmem
  have hx:ext[i+1]? =some (ext.getD (i+1) 0):=by rw[List.getD_eq_getElem?_getD,List.getElem?_eq_getElem (by omega)];rfl
  have hix:m9 1 (iD ext) (.int .i64 ((i:Int)+1))=some (.elt [.int .i64 (ext.getD (i+1) 0)] 0):=a5a hx
  have hx0:ext[i]? =some (ext.getD i 0):=by rw[List.getD_eq_getElem?_getD,List.getElem?_eq_getElem (by omega)];rfl
  rw[b1o hy,oD,laE,if_pos ⟨by decide,by simp[inC]⟩,oD]
  intro ka a na
  refine(I5.new (sz:=4) (c:=[.int .u8 0, .int .i64 0, .int .i64 0, .nilSlc])).st (ds:=inC y) (clA _) ⟨rfl,by decide,by simp[inC]⟩ fun c=> ?_
  rw[b5.set_set,show n8 [D.int .u8 0, .int .i64 0, .int .i64 0, .nilSlc] 0 (inC y)=inC y from rfl]
  have ca:I5 (T.set ka ⟨4,[inC y],c⟩) ka 4 (inC y):=I5.new
  have l1:S0.le (T.set ka ⟨4,[inC y],c⟩):=b5.le_trans hle (b5.le_new na)
  have hg:=hg.set (o:=⟨4,[inC y],c⟩) (.inr na)
  generalize (T.set ka ⟨4,[inC y],c⟩)=T1 at ca l1 hg
  rw[ca.all (n:=4) (by decide) rfl,oD,J8,oD,g9 (by omega) (by omega),hix,oD,lsE,List.getElem?_cons_zero,oD]
  refine(show r7 Try.prog E w0 I9 [inD y, .int .i64 (ext.getD (i+1) 0)] T1 _ from(a4f (harm y hmem)).use ?_)
  simp only[exD,List.getElem?_cons_zero,List.getElem?_cons_succ,oD,a3T,b0O]
  have hrow:∀p:Int,(⟨p,ext.getD (i+1) 0,p9 y (ext.getD (i+1) 0)⟩:I7)=⟨p,ext.getD (i+1) 0,p9 y (ext.getD (i+1) 0)⟩:=fun _=>rfl
  have stay:(A6 ys ext tops i).1.head? ≠some (ext.getD i 0)→N8 E w0 (fun x0 x5 x14 x16 x94 x95 x96 S=>∃m,m<n∧x0=bD code∧x5=iD ext∧x94=Q1 ys∧x95= .int .i64 (ys.length:Int)∧∃i:Nat,x96= .int .i64 (i:Int)∧i+m=ys.length∧x14=iD (A6 ys ext tops i).1∧X0 S0 [] x16 ((A6 ys ext tops i).2.map F7) 3 S∧S0.le S) (b8 E fun d S'=>d=ofD (a2y code.length (A6 ys ext tops ys.length))∧S'=S0) (bD code) (iD ext) (iD (A6 ys ext tops i).1) x16 (.int .i64 (i:Int)) (iD (p9 y (ext.getD (i+1) 0))) (Q1 ys) (.int .i64 (ys.length:Int)) (.int .i64 (i:Int)) T1:=fun hc=>by
   have hne:(A6 ys ext tops i).2≠[]:=by
    cases i with
    |zero=>exact absurd (h0 (fun e=>by rw[e]at hlt;cases hlt)) hc
    |succ i=>exact b1S (ys:=ys) (h0 (fun e=>by rw[e]at hlt;cases hlt)) (by omega) (by omega)
   obtain⟨l,b,e⟩:∃l b,(A6 ys ext tops i).2=l++[b]:=⟨_,_,(List.dropLast_concat_getLast hne).symm⟩
   have hs:A6 ys ext tops (i+1)=((A6 ys ext tops i).1,l++[⟨b.at',ext.getD (i+1) 0,p9 y (ext.getD (i+1) 0)⟩]):=by
    simp only[A6,b5m,hy]
    rw[if_neg hc,e,a3H]
   rw[e,List.map_append]at hg
   rw[e,List.length_append,List.length_singleton]at b1
   refine c3B hlt (by omega) he (rows:=l.map F7) (a:= .int .i64 b.at') (e0:= .int .i64 b.end') (n0:=iD b.next) (by rw[List.length_map];omega) hg l1 fun S' hg' hle'=> ?_
   refine⟨n - 1,by omega,rfl,rfl,rfl,rfl,i+1,rfl,by omega,by rw[hs], ?_,hle'⟩
   rw[hs,List.map_append]
   exact hg'
  cases htp:(A6 ys ext tops i).1 with
  |nil=>
   have e1:decide (((([]:List Int).length:Nat):Int)>0)=false:=by simp
   simp only[e1,wdB,t3,vdF,oD,pdB,Bool.false_eq_true,if_false,cdF,wdU]
   rw[htp]at stay
   exact stay (by simp)
  |cons t tl=>
   have e1:decide ((((t::tl).length:Nat):Int)>0)=true:=decide_eq_true (by rw[List.length_cons];omega)
   have i0:m9 1 (iD (t::tl)) (.int .i64 0)=some (.elt [.int .i64 t] 0):=a5a (i:=0) rfl
   simp only[e1,wdB,t4,vdT,oD,i0,lsE,List.getElem?_cons_zero,a5a hx0,b0j,pdB,if_true]
   rw[cdI]
   refine⟨fun ht=> ?_,fun ht=> ?_⟩
   ·subst ht
    rw[c3r,oD,
     show r8 [D.int .i64 0, .int .i64 0, .nilSlc] [(0,1, .int .i64 (ext.getD i 0))]=some [.int .i64 (ext.getD i 0), .int .i64 0, .nilSlc]from rfl,agS,oD,
     show A1 3 (List.replicate 1 [D.int .i64 0, .int .i64 0, .nilSlc]) [(0, .agg [.int .i64 (ext.getD i 0), .int .i64 0, .nilSlc])]=some [[.int .i64 (ext.getD i 0), .int .i64 0, .nilSlc]]from rfl]
    refine V4 rfl ?_
    refine hg.push (news:=[[.int .i64 (ext.getD i 0), .int .i64 0, .nilSlc]]) l1 (fun j hj=>by cases hj) (by simp[rowsS,E7]) (by simp) (by simp;omega) fun t' S3 hle3 _ hg3=> ?_
    have hs:A6 ys ext tops (i+1)=(tl,(A6 ys ext tops i).2++[⟨ext.getD i 0,ext.getD (i+1) 0,p9 y (ext.getD (i+1) 0)⟩]):=by
     simp only[A6,b5m,hy]
     rw[if_pos (by rw[htp];rfl),htp];rfl
    refine c3B hlt (by omega) he (rows:=(A6 ys ext tops i).2.map F7) (by rw[List.length_map];omega) hg3 hle3 fun S' hg' hle'=> ?_
    refine⟨n - 1,by omega,rfl,rfl,rfl,rfl,i+1,rfl,by omega,by rw[hs], ?_,hle'⟩
    rw[hs,List.map_append]
    exact hg'
   ·rw[htp]at stay
    exact stay (by simp;exact ht)
 ·have hin:i=ys.length:=by omega
  subst hin
  have lb:j8 (bD code)=some (.int .i64 code.length):=by simp[bD,U6]
  have bad:a2y code.length (A6 ys ext tops ys.length)=([],190)→b8 E (fun d S'=>d=ofD (a2y code.length (A6 ys ext tops ys.length))∧S'=S0) (.tup [.nilSlc, .int .i64 190]) T:=fun e=>by
   rw[e]
   exact b8.less hle (b8.weak (d':=ofD ([],190)) (Wk.tup ⟨Wk.nil 3,Wk.refl _,trivial⟩) (b8.here ⟨rfl,rfl⟩))
  have hnx:=b2K harm ext tops ys.length
  generalize A6 ys ext tops ys.length=st at*
  obtain⟨tp,out⟩:=st
  simp only[a3T,oD,b0O]
  cases tp with
  |cons t tl=>
   have e1:decide ((((t::tl).length:Nat):Int)>0)=true:=decide_eq_true (by rw[List.length_cons];omega)
   simp only[e1,wdB,t1,vdF,gdF,oD,pdB,if_true,cdT]
   exact bad rfl
  |nil=>
   have e1:decide (((([]:List Int).length:Nat):Int)>0)=false:=by simp
   simp only[e1,wdB,t2,vdT,oD,hg.len,b0j,pdB,Bool.false_eq_true,if_false]
   rcases List.eq_nil_or_concat out with rfl|⟨l,b,rfl⟩
   ·have e2:decide (((([]:List I7).map F7).length:Int)=0)=true:=by simp
    simp only[e2,wdB,t1,vdF,gdF,oD,pdB,if_true,cdT]
    exact bad rfl
   ·rw[List.concat_eq_append]at*
    have e2:decide ((((l++[b]).map F7).length:Int)=0)=false:=decide_eq_false (by rw[List.length_map,List.length_append,List.length_singleton];omega)
    have e3:IntKind.i64.wrap ((((l++[b]).map F7).length:Int) - 1)=((l.map F7).length:Int):=by
     rw[List.length_append,List.length_singleton]at b1
     rw[List.length_map,List.length_map,List.length_append,List.length_singleton,g9 (by omega) (by omega)];omega
    have hg2:X0 S0 [] x16 (l.map F7++[F7 b]) 3 T:=by have:=hg;rw[List.map_append]at this;exact this
    obtain⟨p,p1,p2⟩:=c1T hg2
    obtain⟨q,q1,q2⟩:=p2 2
    have q2:c9 T q=some (iD b.next):=q2
    simp only[e2,wdB,t2,vdT,oD,hg.len,a7o,e3,p1,q1,q2,lb,gdT,pdB,Bool.false_eq_true,if_false]
    refine(b7P (l:=b.next) (q:=(code.length:Int)) (by have:=hnx b (by simp);omega)).use ?_
    rw[cdI]
    have he1:∀r:List I7×Int,(if(code.length:Int)∈b.next then([],190) else(l++[b],0))=r→a2y code.length ([],l++[b])=r:=fun r h=>by
     unfold a2y
     simp only[List.getLast?_append,List.getLast?_singleton,Option.some_or]
     exact h
    refine⟨fun hm=>bad (he1 _ (if_pos hm)),fun hm=> ?_⟩
    rw[he1 (l++[b],0) (if_neg hm)]
    refine b8.grA (pre:=[]) hg hle fun T2 hle2 _=> ?_
    exact b8.less hle2 (b8.here ⟨rfl,rfl⟩)
end
end
section
set_option linter.unusedSectionVars false
theorem b5J{bs:List Int}(hb:∀b∈bs,J5 b):∀(n p:Nat) (l:List (Dat×Nat)),a1t bs n p= .ok l→(∀x∈l,isS (a0V x.1)=true)∧∀x,l[0]? =some x→x.2=p
 |0,p,l,h=>by cases h;exact⟨fun x h=>(by cases h),fun x h=>(by cases h)⟩
 |n+1,p,l,h=>by
  by_cases hp:p<bs.length
  ·rw[a1f hp]at h
   by_cases he:(y9 bs p).2.2=0
   ·rw[if_pos he]at h
    cases hr:a1t bs n (y9 bs p).2.1 with
    |error e=>rw[hr]at h;cases h
    |ok l'=>
     rw[hr]at h
     cases h
     obtain⟨_,_,_,h4,_⟩:=b6d hb he (b2g _)
     refine⟨fun x hx=> ?_,fun x hx=> ?_⟩
     ·rcases List.mem_cons.1 hx with rfl|hx
      ·exact h4
      ·exact(b5J hb n _ l' hr).1 x hx
     ·simp at hx;rw[←hx]
   ·rw[if_neg he]at h;cases h
  ·rw[a1t,if_pos (by omega)]at h;cases h;exact⟨fun x h=>(by cases h),fun x h=>(by cases h)⟩
theorem c0B{y:In}(hs:isS y=true){n:Int}(hn:0≤n):∀q∈p9 y n,0≤q:=by
 obtain⟨l,e1,e2,h49,_⟩:=a8Q hs
 have ha:y.op=46∨y.op=47∨y.op=48→0≤y.a:=fun ho=>by
  have:l=[B8]:=by
   rcases ho with ho|ho|ho<;>rw[ho]at e1
   ·have:lay 46=some [B8]:=by decide
    rw[this]at e1;cases e1;rfl
   ·have:lay 47=some [B8]:=by decide
    rw[this]at e1;cases e1;rfl
   ·have:lay 48=some [B8]:=by decide
    rw[this]at e1;cases e1;rfl
  rw[this]at e2
  simp[a7w,Fld.may,B8,In.num]at e2
  omega
 intro q hq
 unfold p9 at hq
 split at hq
 ·cases hq
 split at hq
 ·rename_i h46;rw[List.mem_singleton.1 hq];exact ha (.inl h46)
 rw[(C9 _).2]at hq
 split at hq
 ·rename_i h
  simp at hq
  rcases hq with rfl|rfl
  ·exact hn
  ·exact ha (.inr h)
 split at hq
 ·rename_i h
  obtain⟨_,h2,h3⟩:=h49 h
  rcases List.mem_cons.1 hq with rfl|hq
  ·exact(of_decide_eq_true h3).1
  ·obtain⟨x,hx,rfl⟩:=List.mem_map.1 hq
   have:=List.all_eq_true.1 h2 x hx
   unfold b4s at this
   simp only[Bool.and_eq_true,decide_eq_true_eq]at this
   omega
 ·rw[List.mem_singleton.1 hq];exact hn
theorem b4w{hs:List Int}(h0:(0:Int)∈hs)(hp:∀q∈hs,0≤q):(a0t hs).head? =some 0:=by
 obtain⟨h1,h2⟩:=C9 hs
 have hm:=(h2 0).2 h0
 cases hr:a0t hs with
 |nil=>rw[hr]at hm;cases hm
 |cons a l=>
  rw[hr]at h1 hm
  have ha:=hp a ((h2 a).1 (by rw[hr];exact List.mem_cons_self))
  rcases List.mem_cons.1 hm with h|h
  ·rw[←h];rfl
  ·have:=(List.pairwise_cons.1 h1).1 0 h;omega
theorem c2Y(l:List Int):(a0t l).length≤l.length:=by
 have:=Z1 (srt l);rw[a3R]at this;exact this
theorem c1p{ys:List In}(harm:∀y∈ys,y.arms.length≤65535)(ext:List Int)(i:Nat):(b0n ys ext i).length≤65541:=by
 unfold b0n
 split
 ·rename_i y hy
  have:=a8F (harm y (List.mem_of_getElem? hy)) (ext.getD (i+1) 0)
  split
  ·rw[List.length_append];split<;>simp only[List.length_singleton,List.length_nil]<;>omega
  ·simp
 ·simp
theorem b0k{ys:List In}(harm:∀y∈ys,y.arms.length≤65535)(ext:List Int):∀n,(u4 ys ext n).length≤65541*n+1
 |0=>by simp[u4]
 |n+1=>by
  have:=b0k harm ext n
  have:=c1p harm ext n
  rw[a0Z,List.length_append];omega
theorem a4V{ys:List In}{ext:List Int}(hs:∀y∈ys,isS y=true)(he:∀q∈ext,0≤q):∀n,∀q∈u4 ys ext n,0≤q
 |0,q,h=>by simp[u4]at h;omega
 |n+1,q,h=>by
  rw[a0Z]at h
  have hx:0≤ext.getD (n+1) 0:=by
   rw[List.getD_eq_getElem?_getD]
   cases hq:ext[n+1]? with
   |none=>exact Int.le_refl 0
   |some v=>exact he v (List.mem_of_getElem? hq)
  rcases List.mem_append.1 h with h|h
  ·exact a4V hs he n q h
  ·unfold b0n at h
   split at h
   ·rename_i y hy
    split at h
    ·rcases List.mem_append.1 h with h|h
     ·exact c0B (hs y (List.mem_of_getElem? hy)) hx q h
     ·split at h
      ·rw[List.mem_singleton.1 h];exact hx
      ·cases h
    ·cases h
   ·cases h
def q8(code:List Int):List I7×Int:=match a2f code with
 | .error e=>([],e)
 | .ok L=>a2y code.length (A6 (z6 L) (C7 L++[(code.length:Int)]) (a0t (u4 (z6 L) (C7 L++[(code.length:Int)]) (z6 L).length)) (z6 L).length)
theorem c1O{code:List Int}(hb:∀b∈code,J5 b){L:List (Dat×Nat)}(h:a2f code= .ok L)(hne:z6 L≠[])(e:List Int):(C7 L++e).getD 0 0=0:=by
 have h2:=(b5J hb _ _ L h).2
 cases L with
 |nil=>exact absurd rfl hne
 |cons x L=>
  have:=h2 x rfl
  simp[C7,this]
section
variable{E:d6}{w0:i7}
theorem a0P{code:List Int}(hb:∀b∈code,J5 b)(hl:code.length<2^20):a0X Try.prog E w0 E8 [bD code] (ofD (q8 code)):=fun S=>by
 refine b2v ?_
 unfold b0b
 refine(b6B hb (by omega)).use fun v T hall=> ?_
 unfold c2v at hall
 cases h:a2f code with
 |error e=>
  rw[h]at hall
  obtain⟨rfl,rfl⟩:=hall
  have he:=b1C _ _ _ h
  simp only[exD,List.getElem?_cons_zero,List.getElem?_cons_succ,oD,a8n]
  rw[decide_eq_true he,cdT]
  refine b8.weak (d':=ofD ([],e)) (Wk.tup ⟨Wk.nil 3,Wk.refl _,trivial⟩) (b8.here ⟨?_,rfl⟩)
  unfold q8;rw[h]
 |ok L=>
  rw[h]at hall
  obtain⟨u,rfl,htip⟩:=hall
  obtain⟨a1,a2⟩:=b1y hb _ _ L h (Nat.zero_le _)
  obtain⟨s1,_⟩:=b5J hb _ _ L h
  have hpl:(C7 L).length=(z6 L).length:=by simp[C7,z6]
  have hil:(z6 L).length≤code.length:=by simp[z6];omega
  have hsi:∀y∈z6 L,isS y=true:=fun y hy=>by obtain⟨x,hx,rfl⟩:=List.mem_map.1 hy;exact s1 x hx
  have harm:∀y∈z6 L,y.arms.length≤65535:=fun y hy=>by
   obtain⟨_,_,_,h49,hn⟩:=a8Q (hsi y hy)
   by_cases h:y.op=49
   ·exact(h49 h).1
   ·rw[(hn h).1];simp
  have hbs:q8 code=a2y code.length (A6 (z6 L) (C7 L++[(code.length:Int)]) (a0t (u4 (z6 L) (C7 L++[(code.length:Int)]) (z6 L).length)) (z6 L).length):=by unfold q8;rw[h]
  have h00:=c1O hb h
  generalize hys:z6 L=ys at*
  have lb:j8 (bD code)=some (.int .i64 code.length):=by simp[bD,U6]
  have e0:decide ((0:Int)≠0)=false:=by simp
  simp only[exD,List.getElem?_cons_zero,List.getElem?_cons_succ,oD,a8n,e0,cdF,lb]
  rw[show A1 1 (List.replicate 1 [D.int .i64 0]) [(0, .int .i64 (code.length:Int))]=some (iC [(code.length:Int)]) from rfl]
  refine V4 rfl ?_
  refine htip.push (b5.le_refl T) (n:=(code.length:Int)) (by simp[rowsS,E7]) (by omega) fun T1 l1 _=> ?_
  have hext:(C7 L++[(code.length:Int)]).length=ys.length+1:=by simp;omega
  have hpos:∀q∈C7 L++[(code.length:Int)],0≤q:=fun q hq=>by
   rcases List.mem_append.1 hq with hq|hq
   ·obtain⟨x,_,rfl⟩:=List.mem_map.1 hq;omega
   ·rw[List.mem_singleton.1 hq];omega
  have hz:ys≠[]→(C7 L++[(code.length:Int)]).getD 0 0=0:=fun hne=>h00 hne _
  generalize C7 L++[(code.length:Int)]=ext at*
  refine J2.new fun k T2 hk hm hs2=> ?_
  refine hm.put fun ts T3 hks hm3 hs3=> ?_
  have hkS:S k=none:=b5.none_of l1 hk
  have l3:S.le T3:=fun j o hj=>by
   have hne:j≠k:=fun e=>by rw[e,hkS]at hj;cases hj
   rw[hs3 j hne,hs2 j hne];exact l1 _ _ hj
  rw[b0P,oD]
  refine c6o hext (by omega) harm hm3 hkS l3 (fun n=>by rw[hks];simp) fun ts' T4 hks4 hm4 l4=> ?_
  have h1:=b0k harm ext ys.length
  refine hm4.range fun j T5 hj hw hs5=> ?_
  have hjS:S j=none:=b5.none_of l4 hj
  have l5:S.le T5:=fun i o hi=>by
   rw[hs5 i (fun e=>by rw[e,hjS]at hi;cases hi) (fun e=>by rw[e,hkS]at hi;cases hi)];exact l4 _ _ hi
  have hlen:ts'.length≤(u4 ys ext ys.length).length:=by
   have:=a0D hm4.keys (l2:=u4 ys ext ys.length) fun a ha=>(hks4 a).1 ha
   simpa using this
  refine c6q hw hjS l5 hm4.keys hm4.stamps hks4 (by simp[u4]) (by omega) fun k' acs T6 hk' hT6 l6=> ?_
  refine b5l hT6 (.inl (show 1<E1 by decide)) ?_
  have hrl:=c2Y (u4 ys ext ys.length)
  have hfz:W8 k' ⟨1,iC (a0t (u4 ys ext ys.length)),acs⟩ [bD code,iD ext, .raw k' 0 (a0t (u4 ys ext ys.length)).length (a0t (u4 ys ext ys.length)).length false 1, .nilSlc,Q1 ys, .int .i64 (ys.length:Int),(.int .i64 0)]=[bD code,iD ext,iD (a0t (u4 ys ext ys.length)), .nilSlc,Q1 ys, .int .i64 (ys.length:Int),(.int .i64 0)]:=by
   simp only[W8]
   rw[b9Q (by rw[i4];omega) (Nat.le_refl _),List.drop_zero,List.take_of_length_le (by rw[i4];exact Nat.le_refl _)]
   rfl
  rw[hfz,hbs]
  refine c6e (fun hne=> ?_) (by omega) hext (by omega) harm (b5.le_erase l6 hk')
  rw[hz hne]
  exact b4w (by simp[u4]) (a4V hsi hpos _)
end
end
section
theorem Mo.Small.fits{m:Mo}{N:Nat}(hm:m.Ok)(h:m.Small N)(hN:N<2^30):m.Fits:=
 ⟨hm,by have:=h.types;omega,by have:=h.texts;omega,by have:=h.funcs;omega,fun t ht=>by have:=h.fields t ht;omega,fun r hr=>by have:=h.params r hr;omega⟩
end
end Go.Proofs.Ytdkidgkiplcggaa.d
end
