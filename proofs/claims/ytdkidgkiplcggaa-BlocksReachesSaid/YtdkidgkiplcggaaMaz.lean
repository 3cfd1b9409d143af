/-
  BlocksReachesSaid: part Maz of its proof.
-/
import Derived.Test.YtdkidgkiplcggaaMay
import Derived.Test.YtdkidgkiplcggaaMaw
import Derived.Below
import Derived.Laws.AppendOwn
import Derived.Shelf.SlIterI.Nil
import Derived.Test.YtdkidgkiplcggaaProg
set_option linter.unusedVariables false
set_option linter.unusedSimpArgs false
set_option maxRecDepth 100000
section
open Go.Proofs Go Go.Am Go.Op
namespace Go.Proofs.Ytdkidgkiplcggaa.d
section
set_option linter.unusedSectionVars false
inductive a4H (l:List G8):Int→Prop
 |base {b:G8}:l[0]? =some b→a4H l b.at'
 |step {a n:Int} {i:Nat} {b:G8}:a4H l a→r7 l a=some i→l[i]? =some b→n∈b.next→(r7 l n).isSome=true→a4H l n
def wgt(p:Int→Bool):List G8→Nat
 | []=>0
 |b::l=>(if p b.at' then b.next.length+1 else 0)+wgt p l
theorem c0q{p p':Int→Bool}(h:∀a,p' a=true→p a=true):∀l:List G8,wgt p' l≤wgt p l
 | []=>Nat.le_refl _
 |b::l=>by
  have:=c0q h l
  simp only[wgt]
  by_cases h1:p' b.at'=true
  ·rw[if_pos h1,if_pos (h _ h1)];omega
  ·rw[if_neg h1];split<;>omega
theorem b9s{p p':Int→Bool}(h:∀a,p' a=true→p a=true){b:G8}(h1:p b.at'=true)(h2:p' b.at'=false):∀ {l:List G8},b∈l→wgt p' l+(b.next.length+1)≤wgt p l
 | [],hb=>by cases hb
 |c::l,hb=>by
  simp only[wgt]
  rcases List.mem_cons.1 hb with rfl|hb
  ·have:=c0q h l
   rw[if_pos h1,h2]
   simp only[Bool.false_eq_true,if_false]
   omega
  ·have:=b9s h h1 h2 hb
   by_cases h3:p' c.at'=true
   ·rw[if_pos h3,if_pos (h _ h3)];omega
   ·rw[if_neg h3];split<;>omega
theorem R3{l:List G8}{n:Int}{i:Nat}(h:r7 l n=some i):∃b,l[i]? =some b∧b.at'=n:=by
 unfold r7 at h
 rw[List.findIdx?_eq_some_iff_getElem]at h
 obtain⟨hi,he,_⟩:=h
 exact⟨l[i],List.getElem?_eq_getElem hi,by simpa using he⟩
structure b4F (l:List G8) (todo:List Int) (ts:List (Int×Int×Nat)):Prop where
 one:∀n x,(n,x)∈prs ts→x=1∧a4H l n
 num:∀t∈todo,∃(i:Nat) (b:G8),t=(i:Int)∧l[i]? =some b∧r7 l b.at'=some i∧a4H l b.at'
 nxt:∀a i b n i',(a,(1:Int))∈prs ts→r7 l a=some i→l[i]? =some b→n∈b.next→r7 l n=some i'→(n,(1:Int))∈prs ts∨(i':Int)∈todo
 bas:∀b,l[0]? =some b→(b.at',(1:Int))∈prs ts∨(0:Int)∈todo
theorem b4F.done{l:List G8}{ts:List (Int×Int×Nat)}(h:b4F l [] ts)(n:Int):n∈ts.map (·.1)↔a4H l n:=by
 have key:∀n,n∈ts.map (·.1)↔(n,(1:Int))∈prs ts:=fun n=>by
  constructor
  ·intro hm
   obtain⟨t,ht,rfl⟩:=List.mem_map.1 hm
   have hp:(t.1,t.2.1)∈prs ts:=List.mem_map.2 ⟨t,ht,rfl⟩
   rw[(h.one _ _ hp).1]at hp
   exact hp
  ·intro hm
   obtain⟨t,ht,e⟩:=List.mem_map.1 hm
   simp only[Prod.mk.injEq]at e
   exact List.mem_map.2 ⟨t,ht,e.1⟩
 rw[key]
 constructor
 ·exact fun hm=>(h.one _ _ hm).2
 ·intro hr
  induction hr with
  |base hb=>
   rcases h.bas _ hb with h1|h1
   ·exact h1
   ·cases h1
  |step hr hf hb hn hs ih=>
   obtain⟨i',hi'⟩:=Option.isSome_iff_exists.1 hs
   rcases h.nxt _ _ _ _ i' ih hf hb hn hi' with h1|h1
   ·exact h1
   ·cases h1
theorem b4F.skip{l:List G8}{todo:List Int}{ts:List (Int×Int×Nat)}{i:Nat}{b:G8}(h:b4F l (todo++[(i:Int)]) ts)(hb:l[i]? =some b)(hf:r7 l b.at'=some i)(hseen:(b.at',(1:Int))∈prs ts):b4F l todo ts:=by
 have back:∀n i',r7 l n=some i'→(i':Int)∈todo++[(i:Int)]→(n,(1:Int))∈prs ts∨(i':Int)∈todo:=fun n i' hn hm=>by
  rcases List.mem_append.1 hm with hm|hm
  ·exact .inr hm
  ·have:i'=i:=by rw[List.mem_singleton]at hm;omega
   subst this
   obtain⟨b',hb',e⟩:=R3 hn
   rw[hb]at hb';cases hb'
   rw[←e];exact .inl hseen
 refine⟨h.one,fun t ht=>h.num t (List.mem_append_left _ ht),fun a i1 b1 n i' h1 h2 h3 h4 h5=> ?_,fun b0 h0=> ?_⟩
 ·rcases h.nxt a i1 b1 n i' h1 h2 h3 h4 h5 with g|g
  ·exact .inl g
  ·exact back n i' h5 g
 ·rcases h.bas b0 h0 with g|g
  ·exact .inl g
  ·have h00:r7 l b0.at'=some 0:=by
    cases l with
    |nil=>cases h0
    |cons c l=>simp at h0;subst h0;rw[a1V,if_pos rfl]
   exact back _ 0 h00 g
theorem b4F.take{l:List G8}{todo:List Int}{ts ts':List (Int×Int×Nat)}{i:Nat}{b:G8}(h:b4F l (todo++[(i:Int)]) ts)(hb:l[i]? =some b)(hf:r7 l b.at'=some i)(hr:a4H l b.at')(hp:∀n x,(n,x)∈prs ts'↔(n=b.at'∧x=1)∨(n≠b.at'∧(n,x)∈prs ts)):b4F l (todo++U6 l b.next) ts':=by
 have b4r:∀n,(n,(1:Int))∈prs ts→(n,(1:Int))∈prs ts':=fun n hn=>by
  rw[hp]
  by_cases e:n=b.at'
  ·exact .inl ⟨e,rfl⟩
  ·exact .inr ⟨e,hn⟩
 have back:∀n i',r7 l n=some i'→(i':Int)∈todo++[(i:Int)]→(n,(1:Int))∈prs ts'∨(i':Int)∈todo++U6 l b.next:=fun n i' hn hm=>by
  rcases List.mem_append.1 hm with hm|hm
  ·exact .inr (List.mem_append_left _ hm)
  ·have:i'=i:=by rw[List.mem_singleton]at hm;omega
   subst this
   obtain⟨b',hb',e⟩:=R3 hn
   rw[hb]at hb';cases hb'
   exact .inl ((hp _ _).2 (.inl ⟨e.symm,rfl⟩))
 refine⟨fun n x hn=> ?_,fun t ht=> ?_,fun a i1 b1 n i' h1 h2 h3 h4 h5=> ?_,fun b0 h0=> ?_⟩
 ·rcases(hp n x).1 hn with ⟨rfl,rfl⟩|⟨_,hn⟩
  ·exact⟨rfl,hr⟩
  ·exact h.one n x hn
 ·rcases List.mem_append.1 ht with ht|ht
  ·exact h.num t (List.mem_append_left _ ht)
  ·unfold U6 at ht
   obtain⟨j,hj,rfl⟩:=List.mem_map.1 ht
   obtain⟨n,hn,hfn⟩:=List.mem_filterMap.1 hj
   obtain⟨c,hc,e⟩:=R3 hfn
   subst e
   exact⟨j,c,rfl,hc,hfn, .step hr hf hb hn (by rw[hfn];rfl)⟩
 ·rcases(hp a 1).1 h1 with ⟨rfl,_⟩|⟨_,h1⟩
  ·rw[hf]at h2;cases h2
   rw[hb]at h3;cases h3
   exact .inr (List.mem_append_right _ (List.mem_map.2 ⟨i',List.mem_filterMap.2 ⟨n,h4,h5⟩,rfl⟩))
  ·rcases h.nxt a i1 b1 n i' h1 h2 h3 h4 h5 with g|g
   ·exact .inl (b4r n g)
   ·exact back n i' h5 g
 ·rcases h.bas b0 h0 with g|g
  ·exact .inl (b4r _ g)
  ·have h00:r7 l b0.at'=some 0:=by
    cases l with
    |nil=>cases h0
    |cons c l=>simp at h0;subst h0;rw[a1V,if_pos rfl]
   exact back _ 0 h00 g
end
section
set_option linter.unusedSectionVars false
def a2w(ts:List (Int×Int×Nat))(a:Int):Bool:=decide (a ∉ ts.map (·.1))
theorem b7M{ts:List (Int×Int×Nat)}{n:Int}:n∈ts.map (·.1)↔ ∃x,(n,x)∈prs ts:=by
 constructor
 ·intro h
  obtain⟨t,ht,rfl⟩:=List.mem_map.1 h
  exact⟨t.2.1,List.mem_map.2 ⟨t,ht,rfl⟩⟩
 ·rintro⟨x,h⟩
  obtain⟨t,ht,e⟩:=List.mem_map.1 h
  simp only[Prod.mk.injEq]at e
  exact List.mem_map.2 ⟨t,ht,e.1⟩
section
variable{E:d6}{w0:i5}
theorem c7M{l:List G8}(hl:l.length<2^37)(hW:wgt (fun _=>true) l<2^37)(hnx:∀b∈l,b.next.length<2^37){k k2:Nat}{ts ts2:List (Int×Int×Nat)}(ha:AtM l ts 0){Q:D→b4→Prop}{S0 S:b4}(hm:K0 S k ts)(hm2:K0 S k2 ts2)(hk0:S0 k=none)(hk20:S0 k2=none)(hkk:k≠k2){x6:D}{todo:List Int}(ht:Sl S0 [k,k2] x6 todo S)(htl:todo.length≤1)(hle:S0.le S)(hI:b4F l todo ts2)
  (hend:∀ts2 S',K0 S' k2 ts2→(∀n,n∈ts2.map (·.1)↔a4H l n)→S0.le S'→N8 E w0 Q (.mp k2) S'):
  b8 Try.prog E w0 (.loop R4) (d8 79 [0,3,5,6] [p6 l, .mp k, .mp k2,x6]) S (R8 E w0 Q):=by
 refine a7f (I:=fun n x0 x3 x5 x6 T=>x0=p6 l∧x3= .mp k∧x5= .mp k2∧n<2^38∧∃todo ts2,n=todo.length+wgt (a2w ts2) l∧Sl S0 [k,k2] x6 todo T∧K0 T k ts∧K0 T k2 ts2∧S0.le T∧b4F l todo ts2) ?_ (n:=todo.length+wgt (a2w ts2) l)
  ⟨rfl,rfl,rfl,by have:=c0q (p:=fun _=>true) (p':=a2w ts2) (fun _ _=>rfl) l;omega,todo,ts2,rfl,ht,hm,hm2,hle,hI⟩
 rintro n _ _ _ x6 T ⟨rfl,rfl,rfl,hn38,todo,ts2,hn,ht,hm,hm2,hle,hI⟩
 unfold a0O
 rw[ht.len,oD,b2q,oD,cdI]
 refine⟨fun hgt=> ?_,fun hng=> ?_⟩
 case refine_2=>
  have:todo=[]:=List.length_eq_zero_iff.1 (by omega)
  subst this
  exact hend ts2 T hm2 hI.done hle
 obtain⟨td,t,rfl⟩:∃td t,todo=td++[t]:=by
  have hne:todo≠[]:=fun e=>by rw[e]at hgt;simp at hgt
  exact⟨_,_,(List.dropLast_concat_getLast hne).symm⟩
 obtain⟨i,b,rfl,hb,hf,hr⟩:=hI.num t (by simp)
 have hbm:=List.mem_of_getElem? hb
 have tln:(td++[(i:Int)]).length=td.length+1:=by simp
 have hlen:(((td++[(i:Int)]).length:Nat):Int) - 1=(td.length:Int):=by simp
 have hwr:IntKind.i64.wrap ((((td++[(i:Int)]).length:Nat):Int) - 1)=(td.length:Int):=by
  rw[g9 (by rw[tln];omega) (by rw[tln];omega),hlen]
 obtain⟨p,p1,p2⟩:=ht.rd.2 td.length (i:Int) (by simp)
 rw[oD,a3V,oD,hwr,p1,oD,p2,oD,E7 hb,oD,laE,if_pos ⟨by decide,by simp[C3]⟩,oD]
 intro ka a na
 refine(I1.new (sz:=3) (c:=[.int .i64 0, .int .i64 0, .nilSlc])).st (ds:=C3 b) (clA _) ⟨rfl,by decide,by simp[C3]⟩ fun c=> ?_
 rw[b4.set_set,show o5 [D.int .i64 0, .int .i64 0, .nilSlc] 0 (C3 b)=C3 b from rfl]
 have ca:I1 (T.set ka ⟨3,[C3 b],c⟩) ka 3 (C3 b):=I1.new
 have l1:S0.le (T.set ka ⟨3,[C3 b],c⟩):=b4.le_trans hle (b4.le_new na)
 have nk:k≠ka:=fun e=>hm.there (by rw[e];exact na)
 have nk2:k2≠ka:=fun e=>hm2.there (by rw[e];exact na)
 have hm:=hm.of (S':=T.set ka ⟨3,[C3 b],c⟩) (b4.set_ne _ _ _ nk)
 have hm2:=hm2.of (S':=T.set ka ⟨3,[C3 b],c⟩) (b4.set_ne _ _ _ nk2)
 have hka0:S0 ka=none:=b4.none_of hle na
 have ht:=ht.of (T':=T.set ka ⟨3,[C3 b],c⟩) fun j hj=>b4.set_ne _ _ _ fun e=>ht.ob_some j hj (by rw[e];exact na)
 generalize (T.set ka ⟨3,[C3 b],c⟩)=T1 at ca l1 hm hm2 ht
 obtain⟨d',d1,d2,d3⟩:=c5T ht (n:=td.length) (by simp)
 rw[List.take_left' rfl]at d3
 have q0:c9 T1 (.ptr ka 0)=some (.int .i64 b.at'):=ca.ld 0
 rw[tln]at hn
 rw[oD,a3V,oD,hwr,d1,oD,ofP,oD,q0,oD]
 rcases hm2.lookV b.at' false with ⟨v,hv,h1⟩|⟨hv,h1⟩
 ·have hv1:=(hI.one _ _ hv).1
  subst hv1
  rw[h1]
  simp only[Bool.false_eq_true,if_false,oD,b2q]
  rw[show decide ((1:Int)>0)=true from rfl,cdT]
  exact⟨n - 1,by omega,by trivial,by trivial,by trivial,by omega,td,ts2,by omega,d3,hm,hm2,l1,hI.skip hb hf hv⟩
 ·rw[h1]
  simp only[Bool.false_eq_true,if_false,oD,b2q]
  rw[show decide ((0:Int)>0)=false from rfl,cdF]
  simp only[ofP,Nat.zero_add,oD,q0]
  refine hm2.putV fun ts3 T3 hp hm3 hs3=> ?_
  have ca3:I1 T3 ka 3 (C3 b):=ca.of (hs3 ka (Ne.symm nk2))
  have q2:c9 T3 (.ptr ka 2)=some (iD b.next):=ca3.ld 2
  have l3:S0.le T3:=fun j o hj=>by rw[hs3 j (fun e=>by rw[e,hk20]at hj;cases hj)];exact l1 _ _ hj
  have hsl:Sl S0 [k,k2] d' td T3:=d3.of fun j hj=>hs3 j fun e=>by have:=(d3.ob_none j hj).2;rw[e]at this;simp at this
  simp only[ofP,Nat.zero_add,oD,q2,a0c]
  have hnl:=hnx b hbm
  refine c7E ha (by omega) (by omega) (hm.of (hs3 k hkk)) hm3.there hsl l3 fun d2 T4 hs4 l4 e4 e42=> ?_
  have hun:a2w ts2 b.at'=true:=by
   unfold a2w
   rw[decide_eq_true_eq,b7M]
   rintro⟨x,hx⟩
   exact hv x hx
  have hseen:a2w ts3 b.at'=false:=by
   unfold a2w
   rw[decide_eq_false_iff_not,Classical.not_not,b7M]
   exact⟨1,(hp _ _).2 (.inl ⟨rfl,rfl⟩)⟩
  have hmono:∀a,a2w ts3 a=true→a2w ts2 a=true:=fun a h=>by
   unfold a2w at h ⊢
   rw[decide_eq_true_eq,b7M]at h ⊢
   rintro⟨x,hx⟩
   by_cases e:a=b.at'
   ·exact h ⟨1,(hp _ _).2 (.inl ⟨e,rfl⟩)⟩
   ·exact h ⟨x,(hp _ _).2 (.inr ⟨e,hx⟩)⟩
  have hd:=b9s hmono hun hseen hbm
  have hnm:=b3V l b.next
  refine⟨(td++U6 l b.next).length+wgt (a2w ts3) l,by rw[List.length_append];omega,rfl,rfl,rfl,by rw[List.length_append];omega,td++U6 l b.next,ts3,rfl,hs4,(hm.of (hs3 k hkk)).of e4,hm3.of e42,l4,hI.take hb hf hr hp⟩
end
end
end Go.Proofs.Ytdkidgkiplcggaa.d
end
section
namespace Go.Am
open Go.Sort
section
variable{P:Program}{E:d6}{w0:a3Q}
theorem b0R{ops:Array Oper}:∀ {l:List Oper} {T:List AV} {H:AHeap} {Q Q':List AV→AHeap→Prop},(∀T' H',Q T' H'→Q' T' H')→b7l P E w0 ops l T H Q→b7l P E w0 ops l T H Q'
 | [],T,H,Q,Q',hq,h=>hq T H h
 |o::l,T,H,Q,Q',hq,h=>by
  unfold b7l at h ⊢
  exact Y1 h fun v H' hv=>b0R hq hv
theorem c6d{ops:Array Oper}{i:Nat}{o1 o2:Oper}{l:List Oper}(hops:ops.toList.drop i=o1::o2::l){t1 t2:Tmp}{f1 f2:FuncId}(g1:o1.guard=none)(g2:o2.guard=none)(d1:o1.dst=some t1)(d2:o2.dst=some t2)
  {T:List AV} {H:AHeap} {args1:List AV} (e1:O4 P E T H o1=some (.call f1 args1 H)) (e2:∀u,O4 P E (T.set t1 (.opq u)) H o2=some (.call f2 [.opq u] H)) {Q:AV→AHeap→Prop} {Q':List AV→AHeap→Prop}
  (hc:∀w ρ vargs,A3 E w0 H w ρ→I3 ρ H→j6 ρ args1 vargs.toList→Calls P f1 vargs w fun e w1=>∃u,e= .returned u∧A3 E w0 H w1 ρ∧Calls P f2 #[u] w1 (b2T E w0 ρ H Q))
  (hQ:∀u v H',Q v H'→b7l P E w0 ops l ((T.set t1 (.opq u)).set t2 v) H' Q') {w:World} {ρ:q9} {a:Act} (hR:A3 E w0 H w ρ) (hT:j6 ρ T a.tmps.toList) (hf:I3 ρ H) {R:Exit→Act→World→Prop}
  (hk:∀T' H' a' w',Q' T' H'→StA E w0 H ρ a.defers T' H' a' w'→R .normal a' w') (hp:b2J E w0 H ρ a.defers R):wpOps P ops R (List.range' i (o1::o2::l).length) a w:=by
 have ho1:ops[i]? =some o1:=by
  have:(ops.toList.drop i)[0]? =some o1:=by rw[hops];rfl
  rw[List.getElem?_drop]at this
  simpa using this
 have ho2:ops[i+1]? =some o2:=by
  have:(ops.toList.drop i)[1]? =some o2:=by rw[hops];rfl
  rw[List.getElem?_drop]at this
  simpa using this
 have hdr:ops.toList.drop (i+2)=l:=by
  have:=congrArg (List.drop 2) hops
  rw[List.drop_drop]at this
  exact this
 have hn:List.range' i (o1::o2::l).length=i::(i+1)::List.range' (i+2) l.length:=by
  simp[List.range'_succ]
 rw[hn,wpOps_cons]
 unfold wpOp
 rw[ho1]
 simp only
 have w1:∀(o:Oper) (y:Nat→Option Bool),o.guard=none→Region.wanted o y=true:=fun o y h=>by unfold Region.wanted;rw[h]
 rw[w1 _ _ g1,if_pos rfl]
 left
 unfold Oper.wp
 obtain⟨_,vargs,k1,k2⟩:=a6P hR e1 (a2h hT)
 rw[k1]
 refine Calls.mono (hc w ρ vargs hR hf k2) ?_
 rintro e wa ⟨u,rfl,hRa,hcall⟩
 show wpOps P ops R _ (a.put o1.dst u) wa
 have hT1:j6 ρ (T.set t1 (.opq u)) (a.put o1.dst u).tmps.toList:=by
  have:=a6Q (dst:=o1.dst) (a:=a) (v:= .opq u) (vv:=u) hT (by simp only[rel])
  rw[d1]at this ⊢
  exact this
 rw[wpOps_cons]
 unfold wpOp
 rw[ho2]
 simp only
 rw[w1 _ _ g2,if_pos rfl]
 left
 unfold Oper.wp
 obtain⟨_,vargs2,k3,k4⟩:=a6P hRa (e2 u) (a2h hT1)
 rw[k3]
 have hv2:vargs2= #[u]:=by
  obtain⟨l2⟩:=vargs2
  simp only[j6]at k4
  obtain⟨v,vs,rfl,h1,rfl⟩:=k4
  simp only[rel]at h1
  rw[h1]
 rw[hv2]
 refine Calls.mono hcall ?_
 intro e w2 he
 cases e with
 |returned v2=>
  obtain⟨ρ',v,H',k5,k6,k7,k8⟩:=he
  show wpOps P ops R _ ((a.put o1.dst u).put o2.dst v2) w2
  have hT2:j6 ρ' ((T.set t1 (.opq u)).set t2 v) ((a.put o1.dst u).put o2.dst v2).tmps.toList:=by
   have:=a6Q (dst:=o2.dst) (a:=a.put o1.dst u) (v:=v) (vv:=v2) (E8 k6.1 _ _ hT1) k7
   rw[d2]at this ⊢
   exact this
  refine a8D l (i+2) _ _ _ (hQ u v H' k5) hdr w2 ρ' _ k8 hT2 (hf.step k6) ?_ ?_
  ·intro T' H'' a' w'' hq hst
   rw[F7,F7]at hst
   exact hk _ _ _ _ hq (StA.trans k6 hst)
  ·rw[F7,F7]
   exact hp.trans k6
 |panicked c=>
  obtain⟨u2,ρ',v,H',rfl,k5,k6,k7,k8⟩:=he
  exact hp u2 v ρ' H' (a.put o1.dst u) w2 k5 k6 k7 k8 (by rw[F7])
 |outgrown=>exact he.elim
theorem c1X{id:Nat}{ops:Array Oper}{o0 o1 o2:Oper}{l:List Oper}(hops:ops.toList=o0::o1::o2::l){t0 t1 t2 x:Tmp}{f1 f2:FuncId}(g0:o0.guard=none)(g1:o1.guard=none)(g2:o2.guard=none)(d0:o0.dst=some t0)(d1:o1.dst=some t1)(d2:o2.dst=some t2)
  {T:List AV} {H:AHeap} (p0:o0.op= .move (.tmp x)) {args1:List AV} (e1:O4 P E (T.set t0 (T.getD x p4)) H o1=some (.call f1 args1 H)) (e2:∀u,O4 P E ((T.set t0 (T.getD x p4)).set t1 (.opq u)) H o2=some (.call f2 [.opq u] H)) {Q:AV→AHeap→Prop} {Q':j2→List AV→AHeap→Prop}
  (hc:∀w ρ vargs,A3 E w0 H w ρ→I3 ρ H→j6 ρ args1 vargs.toList→Calls P f1 vargs w fun e w1=>∃u,e= .returned u∧A3 E w0 H w1 ρ∧Calls P f2 #[u] w1 (b2T E w0 ρ H Q))
  (hQ:∀u v H',Q v H'→b7l P E w0 ops l (((T.set t0 (T.getD x p4)).set t1 (.opq u)).set t2 v) H' (Q' .normal)):C7 P E w0 (.region id ops false) T H Q':=by
 intro w ρ a R hR hf hT hk hp
 refine wp_region ?_
 have ho0:ops[0]? =some o0:=by rw[←Array.getElem?_toList,hops];rfl
 have hn:List.range ops.size=0::List.range' 1 (o1::o2::l).length:=by
  rw[←Array.length_toList,hops,List.range_eq_range',List.length_cons,List.range'_succ]
 rw[hn,wpOps_cons]
 have hst:a0w P E w0 ops T H o0 fun v H'=>v=T.getD x p4∧H'=H:=by
  obtain⟨dst,op,ty,pos,after,guard⟩:=o0
  simp only at p0 g0
  subst p0 g0
  exact⟨rfl,rfl⟩
 refine a3a hst ho0 hR hT hf ?_ hp
 rintro v H1 ρ' vv w' ⟨rfl,rfl⟩ h1 h2 h3
 have hT1:=a6Q (dst:=o0.dst) (E8 h1.1 _ _ hT) h2
 rw[d0]at hT1
 simp only[Z2]at hT1
 refine c6d (i:=1) (by rw[hops];rfl) g1 g2 d1 d2 e1 e2 hc hQ h3 (by rw[d0];exact hT1) (hf.step h1) ?_ ?_
 ·intro T' H'' a' w'' hq hst
  rw[F7]at hst
  exact hk _ _ _ _ _ hq (StA.trans h1 hst)
 ·rw[F7]
  exact hp.trans h1
end
theorem A3.below{E:d6}{w0:World}{H:AHeap}{w w2:World}{ρ:q9}(R:A3 E w0 H w ρ)(hb:RowKit.Below w.heap.size w w2):A3 E w0 H w2 ρ:=
 ⟨by have:=R.size;have:=hb.size;omega,fun b h=>by rw[hb.block b (by have:=R.size;omega)];exact R.old b h,R.env,⟨by rw[hb.os];exact R.side.1,by rw[hb.output];exact R.side.2⟩,
  fun k o e=>let ⟨l,h1,h2,h3⟩:=R.objs k o e;⟨l,h1,h2,E1 h3 (hb.block _ (P5 h3))⟩,R.apart,R.pres,R.kin⟩
theorem A3.newAt{E:d6}{w0:World}{H:AHeap}{w w2:World}{ρ:q9}(R:A3 E w0 H w ρ)(hk:ρ H.next=none)(hb:RowKit.Below w.heap.size w w2){g:Nat}{cs:List AV}{arr:Array Value}{el:TypeId}{lo hi:Nat}(hgw:w.heap.size≤g)(hc:w2.heap[g]? =some (.cells arr el (lo,hi)))
  (hl:cs.length≤arr.size) (hr:j6 ρ cs (arr.toList.take cs.length)) (hf:lo=hi∨arr.size≤lo):A3 E w0 (newCells H cs) w2 (upd ρ H.next ⟨g,0,arr.size⟩):=by
 have R2:=R.below hb
 have hx:=X3 (ρ:=ρ) ⟨g,0,arr.size⟩ hk
 have hg:∀k o,(newCells H cs).get k=some o→(k=H.next∧o= .cells cs true [])∨(k≠H.next∧H.get k=some o):=by
  intro k o e
  rw[show newCells H cs=H.new (.cells cs true []) from rfl,AHeap.get_new]at e
  split at e
  ·rename_i h;cases e;exact .inl ⟨h.symm,rfl⟩
  ·rename_i h;exact .inr ⟨fun h'=>h h'.symm,e⟩
 have far:∀k o l,H.get k=some o→ρ k=some l→l.blk≠g:=fun k o l e h=>by
  obtain⟨m,hm,_,ho⟩:=R.objs k o e
  rw[h]at hm;cases hm
  have:=P5 ho
  omega
 refine⟨R2.size,R2.old,R2.env,R2.side, ?_, ?_, ?_, ?_⟩
 ·intro k o e
  rcases hg k o e with ⟨rfl,rfl⟩|⟨h1,h2⟩
  ·refine⟨_,z6 _ _,by have:=R.size;show _≤g;omega,arr,el,lo,hi,hc,rfl,by simpa using hl, ?_,fun _=>hf⟩
   simp only[List.drop_zero]
   exact E8 hx _ _ hr
  ·obtain⟨l,hl,hs,ho⟩:=R2.objs k o h2
   exact⟨l,by rw[p9 _ h1];exact hl,hs,a4q hx ho⟩
 ·intro k k' o o' l l' h1 h2 h3 h4 h5 h6
  rcases hg k o h1 with ⟨rfl,rfl⟩|⟨g1,g2⟩<;>rcases hg k' o' h2 with ⟨rfl,rfl⟩|⟨g1',g2'⟩
  ·exact absurd rfl h5
  ·rw[z6]at h3;rw[p9 _ g1']at h4
   cases h3
   exact absurd h6.symm (far _ _ _ g2' h4)
  ·rw[z6]at h4;rw[p9 _ g1]at h3
   cases h4
   exact absurd h6 (far _ _ _ g2 h3)
  ·rw[p9 _ g1]at h3;rw[p9 _ g1']at h4
   exact R.apart k k' o o' l l' g2 g2' h3 h4 h5 h6
 ·intro k o e p hpp
  rcases hg k o e with ⟨rfl,rfl⟩|⟨h1,h2⟩
  ·cases hpp
  ·obtain⟨a,b⟩:=R.pres k o h2 p hpp
   obtain⟨m,hm⟩:=Option.isSome_iff_exists.1 b
   exact⟨a,by rw[hx _ _ hm];rfl⟩
 ·intro k p o op l lp h1 h2 h3 h4 h5
  rcases hg k o h1 with ⟨rfl,rfl⟩|⟨g1,g2⟩
  ·cases h2
  ·rcases hg p op h3 with ⟨rfl,_⟩|⟨g1',g2'⟩
   ·have:=(R.pres k o g2 _ h2).2
    rw[hk]at this;cases this
   ·rw[p9 _ g1]at h4;rw[p9 _ g1']at h5
    exact R.kin k p o op l lp g2 h2 g2' h4 h5
def b5O(P:Program)(fk fs:FuncId):Prop:=∀(b:Nat) (es:Array MapEntry) (clock:Nat) (ns:List Int) (w:World),w.heap[b]? =some (.map es clock)→es.toList.map (·.key)=ns.map (Value.int .i64)→ns.Nodup→(es.toList.map (·.born)).Nodup→(∀e∈es.toList,e.born<clock)→
 (∀n∈ns, -(2^63)≤n∧n<2^63)→ns.length<2^38→
 Calls P fk #[.map (some b)] w fun e w1=>∃u el,e= .returned u∧w1=w.alloc (.cells #[.map (some b)] el)∧Calls P fs #[u] w1 fun e' w2=>∃v ss T,e'= .returned v∧ss.Perm ns∧
  w2.ownsRow w1.heap.size T 1 v ss.length ((ss.mergeSort fun x y=>decide (x≤y)).map (Value.int .i64))∧(v= .slice none 0 0↔ss=[])∧RowKit.Below w1.heap.size w1 w2
theorem b5D{ρ:q9}:∀ {es:List (AV×AV×Nat)} {l:List MapEntry} {ns:List Int},U3 ρ es l→es.map (·.1)=ns.map (.int .i64)→l.map (·.key)=ns.map (Value.int .i64)∧l.map (·.born)=es.map (·.2.2)
 | [],_,ns,h,e=>by
  cases ns with
  |nil=>rw[show _=[]from h];exact⟨rfl,rfl⟩
  |cons n ns=>cases e
 |(a,b,c)::es,_,ns,⟨x,r,h0,h1,h2,h3,h4⟩,e=>by
  cases ns with
  |nil=>cases e
  |cons n ns=>
   simp only[List.map_cons,List.cons.injEq]at e
   obtain⟨rfl,e⟩:=e
   obtain⟨k1,k2⟩:=b5D h4 e
   simp only[rel]at h1
   rw[h0]
   simp only[List.map_cons,k1,k2,h1,h3]
   exact⟨trivial,trivial⟩
theorem b5S{P:Program}{E:d6}{T:List AV}{H:AHeap}{o:Oper}{f:FuncId}{x:Tmp}{ty:Array TypeId}(ho:o.op= .call ⟨.value (.func f), #[.tmp x],ty⟩)(hb:a2M P f=true):O4 P E T H o=some (.call f [T.getD x p4] H):=by
 obtain⟨dst,op,t,pos,after,guard⟩:=o
 simp only at ho
 subst ho
 simp only[O4,L7,c8,G4,hb]
 rfl
theorem b9g{E:d6}{R:Fz}:∀ {ts:List (Int×Int×Nat)} {es:List (AV×AV×Nat)},RpE E R (ts.map b2G) es→es.map (·.1)=(ts.map (·.1)).map (.int .i64)∧es.map (·.2.2)=ts.map (·.2.2)
 | [],es,h=>by rw[show es=[]from h];exact⟨rfl,rfl⟩
 |t::ts,_,⟨kd,vd,e,es',e1,h,e2,e3,e4⟩=>by
  rw[h]
  simp only[b2G,List.cons.injEq,and_true,D.int.injEq,true_and]at e1
  obtain⟨rfl,rfl,e5⟩:=e1
  obtain⟨i1,i2⟩:=b9g e4
  simp only[Rp]at e2
  simp only[List.map_cons,i1,i2,e2]
  exact⟨trivial,by congr 1;omega⟩
theorem b7Z{E:d6}{R:Fz}:∀(l:List Int),p5 E R (E6 l).flatten (l.map (.int .i64))
 | []=>y8
 |n::l=>o4 (by simp only[Rp]) (b7Z l)
theorem c0n{P:Program}{E:d6}{w0:i5}{fk fs:FuncId}(hs:b5O P fk fs)(bk:a2M P fk=true)(bs:a2M P fs=true){id:Nat}{ops:Array Oper}{o0 o1 o2:Oper}{l:List Oper}(hops:ops.toList=o0::o1::o2::l){x t0 t1 t2:Tmp}{ty1 ty2:Array TypeId}
  (p0:o0.op= .move (.tmp x)) (g0:o0.guard=none) (d0:o0.dst=some t0) (p1:o1.op= .call ⟨.value (.func fk), #[.tmp t0],ty1⟩) (p2:o2.op= .call ⟨.value (.func fs), #[.tmp t1],ty2⟩) (g1:o1.guard=none) (g2:o2.guard=none) (d1:o1.dst=some t1) (d2:o2.dst=some t2) {T:List D} (ht0:t0<T.length) (ht1:t1<T.length) {S:b4} {k:Nat} {ts:List (Int×Int×Nat)} (hx:T.getD x a8= .mp k)
  (hm:K0 S k ts) (hI:∀t∈ts, -(2^63)≤t.1∧t.1<2^63) (hl:ts.length<2^38) {Q:j2→List D→b4→Prop}
  (hQ:∀(ss:List Int) (d:D) (S2:b4),ss.Perm (ts.map (·.1))→Z1 S [] d (E6 (ss.mergeSort fun x y=>decide (x≤y))) 1 S2→S.le S2→b2n P (r8 P E w0) (a6p E w0) ops l (((T.set t0 .any).set t1 .any).set t2 d) S2 (Q .ret)):b8 P E w0 (.seq (.region id ops false) .ret) T S Q:=fun R H avs F hC hT=>by
 obtain⟨acs,hSk⟩:=hm.has
 obtain⟨hRk,es,clock,hacs,hHk,hE,hnd,hcl⟩:=hC.mapAt hSk (a6C _ _)
 have hxa:avs.getD x p4= .map k:=by
  have:=a6s hT x
  rw[hx]at this
  simpa only[Rp]using this
 have hal:=hT.length
 obtain⟨hk1,hk2⟩:=b9g hE
 have hns:(ts.map (·.1)).length<2^38:=by rw[List.length_map];exact hl
 refine b5Z (c1X hops g0 g1 g2 d0 d1 d2 p0 (args1:=[.map k]) (f1:=fk) (f2:=fs) (by
   have:t0<avs.length:=(by rw[hal];exact ht0)
   rw[b5S p1 bk,List.getD_eq_getElem?_getD,List.getElem?_set,if_pos rfl,if_pos this];simp only[Option.getD_some];rw[hxa]) (fun u=>by have:t1<avs.length:=(by rw[hal];exact ht1);rw[b5S p2 bs];simp[List.getD_eq_getElem?_getD,List.getElem?_set,this])
  (Q:=fun v H'=>∃ss:List Int,ss.Perm (ts.map (·.1))∧((ss=[]∧v= .nilSlc∧H'=H)∨(ss≠[]∧v= .slc (.new H.next) 0 ss.length ss.length false 1∧H'=newCells H ((ss.mergeSort fun x y=>decide (x≤y)).map (.int .i64))))) ?_ ?_)
 ·intro w ρ vargs hR hf hr
  obtain⟨vs⟩:=vargs
  simp only[j6]at hr
  obtain⟨v,vs',rfl,hv,rfl⟩:=hr
  simp only[rel]at hv
  obtain⟨lc,hlc,rfl⟩:=hv
  obtain⟨lc',mes,e1,e2,e3⟩:=hR.mapOf hHk
  rw[hlc]at e1
  cases e1
  obtain⟨i1,i2⟩:=b5D e3 hk1
  refine Calls.mono (hs lc.blk mes clock (ts.map (·.1)) w e2 i1 hm.keys (by rw[i2];exact hnd) (fun e he=> ?_) (fun n hn=> ?_) hns) ?_
  ·have:e.born∈es.map (·.2.2):=by rw[←i2];exact List.mem_map.2 ⟨e,he,rfl⟩
   obtain⟨x,hx,hx2⟩:=List.mem_map.1 this
   rw[←hx2];exact hcl x hx
  ·obtain⟨t,ht,rfl⟩:=List.mem_map.1 hn
   exact hI t ht
  rintro e w1 ⟨u,el,rfl,rfl,hcall⟩
  have hb1:RowKit.Below w.heap.size w (w.alloc (.cells #[.map (some lc.blk)] el)):=(RowKit.Below.refl _ w).alloc (Nat.le_refl _) _
  have hR1:=hR.below hb1
  refine⟨u,rfl,hR1,Calls.mono hcall ?_⟩
  rintro e' w2 ⟨v,ss,tt,rfl,hperm,hrow,hnil,hb⟩
  rcases hrow.2 with ⟨rfl,hz⟩|⟨g,cap,cur,rfl,hbase,hg,r1,r2,r3,r4⟩
  ·have h0:ss=[]:=hnil.1 rfl
   exact⟨ρ,_,H,⟨ss,hperm, .inl ⟨h0,rfl,rfl⟩⟩,Nx.refl _ _,by simp only[rel],hR1.below hb⟩
  ·have h0:ss≠[]:=fun e=>by have:=hnil.2 e;cases this
   have hfr:ρ H.next=none:=hf _ (Nat.le_refl _)
   have hlen:(ss.mergeSort fun x y=>decide (x≤y)).length=ss.length:=List.length_mergeSort ss
   rw[Nat.mul_one]at r3 r4
   have hR2:=hR1.newAt hfr hb hbase hg (cs:=(ss.mergeSort fun x y=>decide (x≤y)).map (.int .i64)) (by rw[List.length_map,hlen];omega) (by rw[List.length_map,hlen,r4];exact b1k _) (.inl rfl)
   refine⟨_, .slc (.new H.next) 0 ss.length ss.length false 1,_,⟨ss,hperm, .inr ⟨h0,rfl,rfl⟩⟩,⟨X3 _ hfr,Nat.le_succ _,fun j hj=>p9 _ (fun e=>hj ⟨by rw[e];exact Nat.le_refl _,by rw[e];exact Nat.lt_succ_self _⟩)⟩, ?_,hR2⟩
   simp only[rel,C1,z6,Option.map_some]
   exact⟨_,cap,rfl,r1,r1,fun h=>(by cases h), .inr ⟨g,0,rfl,rfl⟩,⟨_,z6 _ _,by simp only;omega⟩⟩
 ·rintro u v H' ⟨ss,hperm,h⟩
  have hlen:(ss.mergeSort fun x y=>decide (x≤y)).length=ss.length:=List.length_mergeSort ss
  have hT1:∀R',R.le R'→∀d,Rp E R' d v→p5 E R' (((T.set t0 .any).set t1 .any).set t2 d) (((avs.set t0 (avs.getD x p4)).set t1 (.opq u)).set t2 v):=fun R' hle d hd=>p5.set (p5.set (p5.set (p5.le hle _ _ hT) t0 a6x) t1 a6x) t2 hd
  have hTl:∀d,(((T.set t0 .any).set t1 .any).set t2 d).length=T.length:=fun d=>by simp
  rcases h with ⟨h0,rfl,rfl⟩|⟨h0,rfl,rfl⟩
  ·have:=hQ ss .nilSlc S hperm (.inl ⟨rfl,by rw[List.length_eq_zero_iff.1 (by rw[hlen,h0];rfl:(ss.mergeSort fun x y=>decide (x≤y)).length=0)];rfl⟩) (b4.le_refl S)
   have:=a9c (b7u (Fz.le_refl R) F hC (hT1 R (Fz.le_refl R) .nilSlc (by simp only[Rp])) this)
   rw[hTl]at this
   exact b0R (fun T' H' hp=>b0C hp) this
  ·obtain⟨k1,k2,k3,F'⟩:=F.newCells ((ss.mergeSort fun x y=>decide (x≤y)).map (.int .i64))
   have hfr:=hC.fresh
   have hC':=(hC.stays F' k2).put (k:=H.next) (o:=⟨1,E6 (ss.mergeSort fun x y=>decide (x≤y)),(ss.mergeSort fun x y=>decide (x≤y)).map (.int .i64)⟩) hfr.1 k1 (fun p hp=>by cases hp) (a3o _)
    (fun row hr=>by rw[E6,List.mem_map]at hr;obtain⟨n,_,rfl⟩:=hr;rfl) (b7Z _)
   have hil:(E6 (ss.mergeSort fun x y=>decide (x≤y))).length=ss.length:=by rw[E6,List.length_map,hlen]
   have:=hQ ss (.raw H.next 0 ss.length ss.length false 1) (S.set H.next ⟨1,E6 (ss.mergeSort fun x y=>decide (x≤y)),(ss.mergeSort fun x y=>decide (x≤y)).map (.int .i64)⟩) hperm (.inr ⟨H.next,_,hfr.2,by simp,by rw[hil],b4.set_same _ _ _⟩) (b4.le_new hfr.2)
   have:=a9c (b7u (Fz.le_refl R) F' hC' (hT1 R (Fz.le_refl R) _ (by simp only[Rp,Nat.zero_mul];exact⟨by decide,trivial⟩)) this)
   rw[hTl]at this
   exact b0R (fun T' H' hp=>b0C hp) this
end Go.Am
end
section
namespace Go.Proofs
open Go.Shelf
def Try.keysM_ren:Go.Shelf.Ren:=⟨fun|7=>42|10=>59|n=>n,fun|23=>73|26=>3|3=>3|28=>80|0=>0|27=>79|33=>99|4=>4|n=>n,fun|n=>n⟩
theorem Try.keysM:Go.Proofs.SlLaysZI.n7 Try.prog Try.keysM_ren:= {
 mixed:=by kernel_rfl
 f7:=⟨Try.f42.name,by decide,Try.func42.trans (congrArg some (by kernel_rfl))⟩
 f10:=⟨Try.f59.name,by decide,Try.func59.trans (congrArg some (by kernel_rfl))⟩
 t0:=Try.underlying0
 a0:=Try.isAgg0
 z0:=Try.sizeOf0
 v0:=Try.zeroValue0
 t4:=Try.underlying4
 a4:=Try.isAgg4
 z4:=Try.sizeOf4
 v4:=Try.zeroValue4
 t23:=Try.underlying73
 a23:=Try.isAgg73
 z23:=Try.sizeOf73
 v23:=Try.zeroValue73
 t26:=Try.underlying3
 a26:=Try.isAgg3
 z26:=Try.sizeOf3
 v26:=Try.zeroValue3
 t27:=Try.underlying79
 a27:=Try.isAgg79
 z27:=Try.sizeOf79
 v27:=Try.zeroValue79
 t28:=Try.underlying80
 a28:=Try.isAgg80
 z28:=Try.sizeOf80
 v28:=Try.zeroValue80
 t33:=Try.underlying99
 a33:=Try.isAgg99
 z33:=Try.sizeOf99
 v33:=Try.zeroValue99 }
def Try.sortedM_ren:Go.Shelf.Ren:=⟨fun|6=>41|8=>58|9=>39|11=>86|13=>56|12=>55|23=>84|24=>85|14=>76|15=>77|16=>78|17=>79|18=>80|19=>81|20=>66|21=>82|22=>83|25=>108|26=>109|27=>110|28=>111|29=>112|30=>92|31=>128|n=>n,fun|26=>3|28=>80|24=>31|0=>0|3=>3|37=>97|48=>145|50=>147|4=>4|40=>139|39=>138|45=>77|5=>5|9=>9|51=>167|55=>171|57=>191|58=>192|33=>99|n=>n,fun|n=>n⟩
theorem Try.sortedM:Go.Proofs.SlLaysZI.n6 Try.prog Try.sortedM_ren:= {
 mixed:=by kernel_rfl
 f6:=⟨Try.f41.name,by decide,Try.func41.trans (congrArg some (by kernel_rfl))⟩
 f8:=⟨Try.f58.name,by decide,Try.func58.trans (congrArg some (by kernel_rfl))⟩
 f11:=⟨Try.f86.name,by decide,Try.func86.trans (congrArg some (by kernel_rfl))⟩
 t0:=Try.underlying0
 a0:=Try.isAgg0
 z0:=Try.sizeOf0
 v0:=Try.zeroValue0
 t24:=Try.underlying31
 a24:=Try.isAgg31
 z24:=Try.sizeOf31
 v24:=Try.zeroValue31
 t26:=Try.underlying3
 a26:=Try.isAgg3
 z26:=Try.sizeOf3
 v26:=Try.zeroValue3
 t28:=Try.underlying80
 a28:=Try.isAgg80
 z28:=Try.sizeOf80
 v28:=Try.zeroValue80
 i26:=by kernel_rfl }
end Go.Proofs
end
section
open Go.Proofs Go Go.Am Go.Op
namespace Go.Proofs.Ytdkidgkiplcggaa.d
section
open Go.RowKit Go.Maps Go.Sort Go.Shelf
open Go.WideElems (Fit rg)
theorem c6l(m:Nat):AnyZI.SortsIn Try.prog Try.sortedM_ren Fence.wide m:=
 ⟨fun blk off cap ss W hH hblk hsz=>callsIn_wide.2 (Try.slices_Sort_int blk off cap ss W hH hblk hsz),
  fun p cap W=>callsIn_wide.2 (Try.slices_Sort_int_none p cap W)⟩
def b8Z:Value→Option (DataW Nat×List MemPlace):=fun _=>some (.nil,[])
theorem b1G{x:Lit×DataW Nat}:∀l:List (Lit×DataW Nat),(DataW.insert x l).Perm (x::l)
 | []=>by simp[DataW.insert]
 |y::r=>by
  unfold DataW.insert
  split
  ·exact List.Perm.refl _
  ·exact((b1G r).cons y).trans (List.Perm.swap x y r)
theorem b3U:∀l:List (Lit×DataW Nat),(l.foldr DataW.insert []).Perm l
 | []=>List.Perm.refl _
 |x::l=>(b1G _).trans ((b3U l).cons x)
theorem b8v{K:TypeId}(hK:Try.prog.underlying K=some (.int .i64)):∀ {es:List MapEntry} {ns:List Int},es.map (·.key)=ns.map (Value.int .i64)→(∀n∈ns, -(2^63)≤n∧n<2^63)→
  (∀x∈es,∃y,Go.WideElems.rd Try.prog K b8Z x=some y)∧(es.map (rg Try.prog K b8Z)).map (fun p=>Go.intOf p.1)=ns
 | [],ns,h,_=>by
  cases ns with
  |nil=>exact⟨fun x hx=>(by cases hx),rfl⟩
  |cons n ns=>cases h
 |e::es,ns,h,hI=>by
  cases ns with
  |nil=>cases h
  |cons n ns=>
   simp only[List.map_cons,List.cons.injEq]at h
   obtain⟨h1,h2⟩:=h
   obtain⟨i1,i2⟩:=b8v hK h2 fun m hm=>hI m (List.mem_cons_of_mem _ hm)
   obtain⟨b1,b2⟩:=hI n List.mem_cons_self
   have hw:(Lit.int .i64 n).wf=true:=by
    simp only[Lit.wf,IntKind.min,IntKind.max,IntKind.bits,IntKind.signed,Bool.and_eq_true,decide_eq_true_eq]
    constructor<;>simp<;>omega
   have hr:Go.WideElems.rd Try.prog K b8Z e=some (.int .i64 n, .nil):=by
    unfold Go.WideElems.rd
    rw[h1,keyOf_int_mk hK hw]
    rfl
   refine⟨fun x hx=> ?_, ?_⟩
   ·rcases List.mem_cons.1 hx with rfl|hx
    ·exact⟨_,hr⟩
    ·exact i1 x hx
   ·show Go.intOf (rg Try.prog K b8Z e).1::_=_
    rw[Go.WideElems.rg_of hr,i2]
    rfl
theorem b9m:b5O Try.prog a2X a7l:=by
 intro b es clock ns w hb hk hn hst hcl hI hl
 have hK:=Try.underlying3
 obtain⟨r1,r2⟩:=b8v hK hk hI
 have hsz:es.size=ns.length:=by
  have:=congrArg List.length hk
  simpa using this
 have hnd:(es.toList.map (·.key)).Nodup:=by
  rw[hk]
  exact hn.map (Value.int .i64) fun a b h h'=>h (by injection h')
 let D0:DataW Nat:= .map ((es.toList.map (rg Try.prog 3 b8Z)).foldr DataW.insert [])
 have hperm:=b3U (es.toList.map (rg Try.prog 3 b8Z))
 have hown:w.ownsMap Try.prog 3 b8Z b es.size D0:=⟨es,clock,hb,⟨by rw[hsz];unfold maxLen;omega,⟨hcl,hst,hnd⟩,r1⟩,Nat.le_refl _,rfl⟩
 have hms:Maps.size D0=ns.length:=by
  show(List.foldr DataW.insert [] _).length=_
  rw[hperm.length_eq,List.length_map,Array.length_toList,hsz]
 have hmk:(intKeys D0).Perm ns:=by
  have:(intKeys D0)=(List.foldr DataW.insert [] (es.toList.map (rg Try.prog 3 b8Z))).map fun p=>Go.intOf p.1:=rfl
  rw[this, ←r2]
  exact hperm.map _
 have hbl:=hown.lt
 have cK:CallsIn Fence.wide 5 Try.prog 42 #[.map (some b)] w fun e w'=>e= .returned (.func (.func 59) #[] #[.pointer (some ⟨w.heap.size,0,none⟩)])∧w'=w.alloc (.cells #[.map (some b)] (Try.keysM_ren.t 23)):=
  AnyZI.keys_in Try.keysM Fence.wide 5 trivial rfl (some b) w
 refine Calls.mono (callsIn_wide.1 cK) ?_
 rintro e w1 ⟨rfl,rfl⟩
 refine⟨_,_,rfl,rfl, ?_⟩
 have hseq:SeqGives Fence.wide 2 Try.prog 59 #[.pointer (some ⟨w.heap.size,0,none⟩)] encZ (fun ss=>ss.Perm (intKeys D0)) (Maps.size D0) (w.alloc (.cells #[.map (some b)] (Try.keysM_ren.t 23))):=
  AnyZI.keys_gives (ρ:=Try.keysM_ren) { Try.keysM with } Fence.wide _ trivial rfl (by omega) w.heap.size b es.size D0 _ (by simp) (by simp) (by
   obtain⟨es,clock,hb,Ft,hs,hD⟩:=hown
   exact⟨es,clock,(RowKit.Below.heap_alloc _ _ b hbl).trans hb,Ft,hs,hD⟩)
 have cS:=AnyZI.sorted_in Try.sortedM Fence.wide 5 trivial trivial trivial trivial rfl (by omega) (c6l _) (enters_of Try.func39 (by kernel_rfl) rfl) 59 #[.pointer (some ⟨w.heap.size,0,none⟩)] trivial (enters_of Try.func59 (by kernel_rfl) rfl) _ _
  (by rw[hms];unfold maxLen;omega) (by rw[hms];omega) _ hseq
 refine Calls.mono (callsIn_wide.1 cS) ?_
 rintro e w2 ⟨v,ss,rfl,hp,hrow,hnil,hbe⟩
 exact⟨v,ss,_,rfl,hp.trans hmk,hrow,hnil,hbe⟩
end
section
set_option linter.unusedSectionVars false
theorem a9t{l:List G8}{n:Int}(h:a4H l n):n∈l.map (·.at'):=by
 cases h with
 |base hb=>exact List.mem_map.2 ⟨_,List.mem_of_getElem? hb,rfl⟩
 |step _ _ _ _ hs=>
  obtain⟨i,hi⟩:=Option.isSome_iff_exists.1 hs
  obtain⟨c,hc,e⟩:=R3 hi
  exact List.mem_map.2 ⟨c,List.mem_of_getElem? hc,e⟩
section
variable{E:d6}{w0:i5}
noncomputable def a8P:Array Oper:=match H4 with
 | .seq (.region _ ops _) _=>ops
 |_=> #[]
def c5q(o:Oper):Array TypeId:=match o.op with
 | .call c=>c.argTypes
 |_=> #[]
theorem c6b:H4= .seq (.region 22 a8P false) .ret:=by kernel_rfl
theorem c4n{k:Nat}{ts:List (Int×Int×Nat)}{S:b4}{Q:D→b4→Prop}(hm:K0 S k ts)(hI:∀n∈ts.map (·.1),I64 n)(hl:ts.length<2^38)(hQ:∀d S2,Z1 S [] d (iC (srt (ts.map (·.1)))) 1 S2→S.le S2→Q d S2):N8 E w0 Q (.mp k) S:=by
 unfold N8
 rw[c6b]
 refine c0n b9m (by kernel_rfl) (by kernel_rfl) (o0:=a8P[0]!) (o1:=a8P[1]!) (o2:=a8P[2]!) (l:=[a8P[3]!]) (by kernel_rfl) (x:=5) (t0:=76) (t1:=77) (t2:=78) (ty1:=c5q a8P[1]!) (ty2:=c5q a8P[2]!) (by kernel_rfl) (by kernel_rfl) (by kernel_rfl) (by kernel_rfl) (by kernel_rfl) (by kernel_rfl) (by kernel_rfl) (by kernel_rfl) (by kernel_rfl) (by rw[f9];decide) (by rw[f9];decide) (k:=k) (ts:=ts) rfl hm (fun t ht=>by have:=hI t.1 (List.mem_map.2 ⟨t,ht,rfl⟩);unfold I64 at this;constructor<;>omega) hl ?_
 intro ss d S2 hp hg hle
 have e:ss.mergeSort (fun x y=>decide (x≤y))=srt (ts.map (·.1)):=mergeSort_of_perm_i hp
 rw[e,Z5]at hg
 have h:=hQ d S2 hg hle
 show b2n Try.prog (r8 Try.prog E w0) (a6p E w0) a8P [a8P[3]!] _ S2 _
 exact Eq.mpr (by kernel_rfl) h
theorem a3Z{l:List G8}(hat:∀b∈l,I64 b.at')(hl:l.length<2^37)(hW:wgt (fun _=>true) l<2^37)(hnx:∀b∈l,b.next.length<2^37){S:b4}:r8 Try.prog E w0 C0 [p6 l] S fun d S'=>S.le S'∧∃r,Z1 S [] d (iC r) 1 S'∧r.Pairwise (· < ·)∧∀n,n∈r↔a4H l n:=by
 refine b0c ?_
 unfold a6i
 refine K0.new fun k S1 hk hm hs1=> ?_
 have l1:S.le S1:=fun j o hj=>by rw[hs1 j (fun e=>by rw[e,hk]at hj;cases hj)];exact hj
 rw[J5,oD,a3V,oD,g9 (by omega) (by omega)]
 refine c7A (by omega) hm hk l1 fun ts S2 hm2 ha l2=> ?_
 refine K0.new fun k2 S3 hk2 hm3 hs3=> ?_
 have hkk:k≠k2:=fun e=>hm2.there (by rw[e];exact hk2)
 have hk20:S k2=none:=b4.none_of l2 hk2
 have l3:S.le S3:=fun j o hj=>by rw[hs3 j (fun e=>by rw[e,hk20]at hj;cases hj)];exact l2 _ _ hj
 have hm2:=hm2.of (hs3 k hkk)
 have fin:∀ {x6:D} {todo:List Int} {T:b4},Sl S [k,k2] x6 todo T→todo.length≤1→S3.le T→b4F l todo []→D5 E w0 (b9 E fun d S'=>S.le S'∧∃r,Z1 S [] d (iC r) 1 S'∧r.Pairwise (· < ·)∧∀n,n∈r↔a4H l n) (p6 l) (.mp k) (.mp k2) x6 T:=by
  intro x6 todo T ht htl hle hI
  refine a6A ?_
  unfold a3g
  refine c7M hl hW hnx ha (hm2.of (c1r hle hm2.there)) (hm3.of (c1r hle hm3.there)) hk hk20 hkk ht htl (b4.le_trans l3 hle) hI fun ts2 S' hmm hks hle'=> ?_
  have hlen:ts2.length≤l.length:=by
   have:=a2g hmm.keys (l2:=l.map (·.at')) fun a ha=>a9t ((hks a).1 ha)
   simpa using this
  refine c4n hmm (fun n hn=> ?_) (by omega) fun d S5 hg hle5=> ?_
  ·obtain⟨b,hb,rfl⟩:=List.mem_map.1 (a9t ((hks n).1 hn))
   exact hat b hb
  have hr:=b8J (hs:=ts2.map (·.1)) hmm.keys fun n=>Iff.rfl
  rw[hr]at hg
  refine b9.here ⟨b4.le_trans hle' hle5,a2e (ts2.map (·.1)), ?_,(N7 _).1,fun n=>by rw[(N7 _).2,hks]⟩
  rcases hg with h|⟨kk,acs,h0,h⟩
  ·exact .inl h
  ·exact .inr ⟨kk,acs,b4.none_of hle' h0,h⟩
 rw[J5,oD,b2q,oD,cdI]
 refine⟨fun hgt=> ?_,fun hng=> ?_⟩
 ·refine a9A fun d T hT=> ?_
  have hav:∀j∈[k,k2],S3 j≠none:=fun j hj=>by
   rcases List.mem_cons.1 hj with rfl|hj
   ·exact hm2.there
   ·rw[List.mem_singleton.1 hj];exact hm3.there
  refine fin (c3N hT l3 hav) (by simp) hT.le ⟨fun n x h=>by simp[prs]at h,fun t ht=> ?_,fun a i b n i' h=>by simp[prs]at h,fun b _=> .inr (by simp)⟩
  cases l with
  |nil=>simp at hgt
  |cons c l=>
   rw[List.mem_singleton.1 ht]
   exact⟨0,c,rfl,rfl,by rw[a1V,if_pos rfl], .base rfl⟩
 ·have:l=[]:=List.length_eq_zero_iff.1 (by omega)
  subst this
  exact fin (.inl ⟨rfl,rfl⟩) (by simp) (b4.le_refl _) ⟨fun n x h=>(by simp[prs]at h),fun t ht=>(by cases ht),fun a i b n i' h=>(by simp[prs]at h),fun b hb=>(by cases hb)⟩
theorem b2u{l:List G8}(hat:∀b∈l,I64 b.at')(hl:l.length<2^37)(hW:wgt (fun _=>true) l<2^37)(hnx:∀b∈l,b.next.length<2^37){S:b4}:r8 Try.prog E w0 C0 [p6 l] S fun d S'=>S'=S∧∃r,d=iD r∧r.Pairwise (· < ·)∧∀n,n∈r↔a4H l n:=
 (a3Z hat hl hW hnx).fin fun d S' ⟨hle,r,hg,h1,h2⟩=>by
  rcases hg with ⟨rfl,e⟩|⟨kk,acs,h0,_,rfl,hS⟩
  ·have e0:r=[]:=by
    cases hh:r with
    |nil=>rfl
    |cons a b=>rw[hh]at e;simp[iC,Z7]at e
   subst e0
   exact b9.less hle (b9.weak (d':=iD []) (Wk.nil 1) (b9.here ⟨rfl,[],rfl,h1,h2⟩))
  ·refine b9.freeze hS rfl (by simp) (Nat.le_refl _) ?_
   rw[List.drop_zero,List.take_of_length_le (Nat.le_refl _)]
   exact b9.less (b4.le_erase hle h0) (b9.here ⟨rfl,r,rfl,h1,h2⟩)
end
end
end Go.Proofs.Ytdkidgkiplcggaa.d
end
