/- A part of the proof of ImageWrites. -/
import Derived.Test.YtchnpgddpaonhaaGreatWad
set_option linter.unusedVariables false
set_option linter.unusedSimpArgs false
set_option maxRecDepth 100000
section
namespace Go.Am
section
variable(P:Program)(E:j6)(w0:World)
def P4(ρ:B7)(H:AHeap):Prop:=∀k,H.next≤k→ρ k=none
def Nx(ρ ρ':B7)(H H':AHeap):Prop:=Ext ρ ρ'∧H.next≤H'.next∧∀k,¬(H.next≤k∧k<H'.next)→ρ' k=ρ k
def FnW(f:FuncId)(args:List AV)(H:AHeap)(Q:AV→AHeap→Prop):Prop:=
 ∀(w:World) (ρ:B7) (vargs:Array Value),K9 E w0 H w ρ→P4 ρ H→w5 ρ args vargs.toList→
  Calls P f vargs w fun e w'=>∃u ρ' v H',e= .returned u∧Q v H'∧Nx ρ ρ' H H'∧rel ρ' v u∧K9 E w0 H' w' ρ'
def FnD(f:FuncId)(args:List AV)(H:AHeap)(Q:AV→AHeap→Prop):Prop:=
 ∃v H',FnW P E w0 f args H (fun v' H''=>v'=v∧H''=H')∧Q v H'
def d5A(r:Option a1u)(Q:AV→AHeap→Prop):Prop:=match r with
 |some (.val v H')=>Q v H'
 |some (.call f args H')=>FnW P E w0 f args H' Q
 |none=>False
def e1C(g:AV)(want:Bool):Option Bool:=match g with
 | .bool b=>some (b==want)
 | .opq _=>none
 |_=>some false
def a3c(r:Option Bool)(s:(AV→AHeap→Prop)→Prop)(H:AHeap)(Q:AV→AHeap→Prop):Prop:=match r with
 |some true=>s Q
 |some false=>Q A8 H
 |none=>False
def a4g(ops:Array Oper)(T:List AV)(H:AHeap)(o:Oper)(Q:AV→AHeap→Prop):Prop:=
 a3c (a0w ops T o) (d5A P E w0 (opA P E T H o)) H Q
def d8j(ops:Array Oper):List Oper→List AV→AHeap→(List AV→AHeap→Prop)→Prop
 | [],T,H,Q=>Q T H
 |o::l,T,H,Q=>a4g P E w0 ops T H o fun v H'=>d8j ops l (K1 T o.dst v) H' Q
def StA(H:AHeap)(ρ:B7)(ds:List Deferred)(T':List AV)(H':AHeap)(a':Act)(w':World):Prop:=
 ∃ρ',Nx ρ ρ' H H'∧w5 ρ' T' a'.tmps.toList∧K9 E w0 H' w' ρ'∧a'.defers=ds
def H9(c:Code)(T:List AV)(H:AHeap)(Q:o6→List AV→AHeap→Prop):Prop:=
 ∀(w:World) (ρ:B7) (a:Act) (R:Exit→Act→World→Prop),K9 E w0 H w ρ→P4 ρ H→w5 ρ T a.tmps.toList→
  (∀ex T' H' a' w',Q ex T' H'→StA E w0 H ρ a.defers T' H' a' w'→R (e0s ex) a' w')→c.wp P R a w
end
section
variable{P:Program}{E:j6}{w0:World}
theorem Nx.refl(ρ:B7)(H:AHeap):Nx ρ ρ H H:=⟨Ext.refl _,Nat.le_refl _,fun _ _=>rfl⟩
theorem Nx.trans{ρ ρ1 ρ2:B7}{H H1 H2:AHeap}(h:Nx ρ ρ1 H H1)(h':Nx ρ1 ρ2 H1 H2):Nx ρ ρ2 H H2:=by
 obtain⟨a,b,c⟩:=h
 obtain⟨a',b',c'⟩:=h'
 exact⟨a.trans a',by omega,fun k hk=>by rw[c' k (by omega),c k (by omega)]⟩
theorem P4.step{ρ ρ':B7}{H H':AHeap}(h:P4 ρ H)(h':Nx ρ ρ' H H'):P4 ρ' H':=fun k hk=>by
 obtain⟨_,b,c⟩:=h'
 rw[c k (by omega),h k (by omega)]
theorem P4.fresh{ρ:B7}{H H':AHeap}(h:P4 ρ H):a4P ρ H H':=fun k hk _=>h k hk
theorem StA.trans{H0 H1 H2:AHeap}{ρ0 ρ1:B7}{ds:List Deferred}{T:List AV}{a:Act}{w:World}(h1:Nx ρ0 ρ1 H0 H1)(h:StA E w0 H1 ρ1 ds T H2 a w):StA E w0 H0 ρ0 ds T H2 a w:=by
 obtain⟨ρ,g1,g2,g3,g4⟩:=h
 exact⟨ρ,h1.trans g1,g2,g3,g4⟩
theorem StA.fresh{H0 H:AHeap}{ρ0:B7}{ds:List Deferred}{T:List AV}{a:Act}{w:World}(h:StA E w0 H0 ρ0 ds T H a w)(hf:P4 ρ0 H0):
  ∃ρ,Nx ρ0 ρ H0 H∧P4 ρ H∧w5 ρ T a.tmps.toList∧K9 E w0 H w ρ∧a.defers=ds:=by
 obtain⟨ρ,g1,g2,g3,g4⟩:=h
 exact⟨ρ,g1,hf.step g1,g2,g3,g4⟩
theorem FnW.mono{f:FuncId}{args:List AV}{H:AHeap}{Q Q':AV→AHeap→Prop}(h:FnW P E w0 f args H Q)(hq:∀v H',Q v H'→Q' v H'):FnW P E w0 f args H Q':=by
 intro w ρ vargs R hf hr
 refine Calls.mono (h w ρ vargs R hf hr) ?_
 rintro e w' ⟨u,ρ',v,H',h1,h2,h3⟩
 exact⟨u,ρ',v,H',h1,hq _ _ h2,h3⟩
theorem FnD.toW{f:FuncId}{args:List AV}{H:AHeap}{Q:AV→AHeap→Prop}(h:FnD P E w0 f args H Q):FnW P E w0 f args H Q:=by
 obtain⟨v,H',h1,h2⟩:=h
 exact h1.mono fun _ _ ⟨e1,e2⟩=>by subst e1 e2;exact h2
theorem FnD.mono{f:FuncId}{args:List AV}{H:AHeap}{Q Q':AV→AHeap→Prop}(h:FnD P E w0 f args H Q)(hq:∀v H',Q v H'→Q' v H'):FnD P E w0 f args H Q':=by
 obtain⟨v,H',h1,h2⟩:=h
 exact⟨v,H',h1,hq _ _ h2⟩
theorem H9.mono{c:Code}{T:List AV}{H:AHeap}{Q Q':o6→List AV→AHeap→Prop}(h:H9 P E w0 c T H Q)(hq:∀ex T' H',Q ex T' H'→Q' ex T' H'):H9 P E w0 c T H Q':=
 fun w ρ a R hR hf hT hk=>h w ρ a R hR hf hT fun ex T' H' a' w' hQ=>hk ex T' H' a' w' (hq _ _ _ hQ)
theorem d7O{r:Option a1u}{Q Q':AV→AHeap→Prop}(h:d5A P E w0 r Q)(hq:∀v H',Q v H'→Q' v H'):d5A P E w0 r Q':=by
 unfold d5A at*
 split
 ·exact hq _ _ h
 ·exact FnW.mono h hq
 ·exact h
theorem a1L{ops:Array Oper}{T:List AV}{H:AHeap}{o:Oper}{Q Q':AV→AHeap→Prop}(h:a4g P E w0 ops T H o Q)(hq:∀v H',Q v H'→Q' v H'):a4g P E w0 ops T H o Q':=by
 unfold a4g a3c at*
 split<;>rename_i e<;>rw[e]at h
 ·exact d7O h hq
 ·exact hq _ _ h
 ·exact h
theorem a6a{ops:Array Oper}{T:List AV}{H:AHeap}{o:Oper}{Q:AV→AHeap→Prop}(h:a4g P E w0 ops T H o Q){i:Nat}(ho:ops[i]? =some o)
  {w:World} {ρ:B7} (R:K9 E w0 H w ρ) {a:Act} (hT:w5 ρ T a.tmps.toList) (hf:P4 ρ H) {K:Act→World→Prop} {S:Exit→Act→World→Prop}
  (hK:∀v H' ρ' vv w',Q v H'→Nx ρ ρ' H H'→rel ρ' v vv→K9 E w0 H' w' ρ'→K (a.put o.dst vv) w'):wpOp P ops S i K a w:=by
 unfold wpOp
 rw[ho]
 simp only
 unfold a4g a3c at h
 split at h
 ·rename_i hw
  rw[c9E hw hT,if_pos rfl]
  left
  unfold Oper.wp
  unfold d5A at h
  split at h
  ·rename_i v1 H1 h1
   obtain⟨nx,vv,w',ρ',g1,g2,g3,g4,g5,g6,g7⟩:=a7C R h1 (a8a hT) hf.fresh
   rw[g1]
   rcases g2 with rfl|⟨rfl,rfl⟩
   ·exact hK _ _ ρ' vv w' h ⟨g3,g7,g4⟩ g5 g6
   ·exact hK _ _ ρ' undef w' h ⟨g3,g7,g4⟩ g5 g6
  ·rename_i f args H1 h1
   obtain⟨rfl,vargs,g1,g2⟩:=a7C R h1 (a8a hT)
   rw[g1]
   refine Calls.mono (h w ρ vargs R hf g2) ?_
   rintro e w' ⟨u,ρ',v,H',rfl,k1,k2,k3,k4⟩
   exact hK _ _ ρ' u w' k1 k2 k3 k4
  ·cases h
 ·rename_i hw
  rw[c9E hw hT,if_neg Bool.false_ne_true]
  exact hK _ _ ρ undef w h (Nx.refl _ _) a5g R
 ·cases h
theorem c8x{ops:Array Oper}{S:Exit→Act→World→Prop}:∀(l:List Oper) (i:Nat) (T:List AV) (H:AHeap) (Q:List AV→AHeap→Prop),d8j P E w0 ops l T H Q→ops.toList.drop i=l→
  ∀(w:World) (ρ:B7) (a:Act),K9 E w0 H w ρ→w5 ρ T a.tmps.toList→P4 ρ H→(∀T' H' a' w',Q T' H'→StA E w0 H ρ a.defers T' H' a' w'→S .normal a' w')→
   wpOps P ops S (List.range' i l.length) a w
 | [],i,T,H,Q,h,_,w,ρ,a,R,hT,hf,hQ=>by
  simp only[List.length_nil,List.range'_zero,wpOps]
  exact hQ T H a w h ⟨ρ,Nx.refl _ _,hT,R,rfl⟩
 |o::l,i,T,H,Q,h,hl,w,ρ,a,R,hT,hf,hQ=>by
  have hdr:ops.toList.drop (i+1)=l:=by
   have:=congrArg List.tail hl
   rw[List.tail_drop]at this
   exact this
  have ho:ops[i]? =some o:=by
   have:(ops.toList.drop i)[0]? =some o:=by rw[hl];rfl
   rw[List.getElem?_drop]at this
   simpa using this
  have hlen:(List.range' i (o::l).length)=i::List.range' (i+1) l.length:=by
   simp[List.range'_succ]
  rw[hlen,wpOps_cons]
  refine a6a h ho R hT hf ?_
  intro v H1 ρ' vv w' g0 g1 g2 g3
  refine c8x l (i+1) _ _ _ g0 hdr w' ρ' _ g3 (a5C (L5 g1.1 _ _ hT) g2) (hf.step g1) ?_
  intro T' H' a' w'' hq hst
  rw[b3I]at hst
  exact hQ T' H' a' w'' hq (StA.trans g1 hst)
theorem d6f{T:List AV}{H:AHeap}{Q:o6→List AV→AHeap→Prop}(h:Q .normal T H):H9 P E w0 .skip T H Q:=
 fun w ρ a R hR hf hT hk=>wp_skip (hk _ _ _ _ _ h ⟨ρ,Nx.refl _ _,hT,hR,rfl⟩)
theorem d4f{l:Nat}{T:List AV}{H:AHeap}{Q:o6→List AV→AHeap→Prop}(h:Q .normal T H):H9 P E w0 (.label l) T H Q:=
 fun w ρ a R hR hf hT hk=>wp_label (hk _ _ _ _ _ h ⟨ρ,Nx.refl _ _,hT,hR,rfl⟩)
theorem d7N{T:List AV}{H:AHeap}{Q:o6→List AV→AHeap→Prop}(h:Q .ret T H):H9 P E w0 .ret T H Q:=
 fun w ρ a R hR hf hT hk=>wp_ret (hk _ _ _ _ _ h ⟨ρ,Nx.refl _ _,hT,hR,rfl⟩)
theorem d5N{id:Nat}{T:List AV}{H:AHeap}{Q:o6→List AV→AHeap→Prop}(h:Q (.exit id) T H):H9 P E w0 (.exit id) T H Q:=
 fun w ρ a R hR hf hT hk=>wp_exit (hk _ _ _ _ _ h ⟨ρ,Nx.refl _ _,hT,hR,rfl⟩)
theorem c1T{id:Nat}{ops:Array Oper}{T:List AV}{H:AHeap}{Q:o6→List AV→AHeap→Prop}(h:d8j P E w0 ops ops.toList T H (Q .normal)):H9 P E w0 (.region id ops false) T H Q:=by
 intro w ρ a R hR hf hT hk
 refine wp_region ?_
 have:=c8x (S:=R) ops.toList 0 T H _ h rfl w ρ a hR hT hf fun T' H' a' w' hq hst=>hk _ _ _ _ _ hq hst
 rwa [List.range_eq_range', ←Array.length_toList]
theorem b7k{x y:Code}{T:List AV}{H:AHeap}{Q:o6→List AV→AHeap→Prop}
  (h:H9 P E w0 x T H fun ex T' H'=>match ex with| .normal=>H9 P E w0 y T' H' Q|e=>Q e T' H'):H9 P E w0 (.seq x y) T H Q:=by
 intro w ρ a R hR hf hT hk
 refine wp_seq (h w ρ a _ hR hf hT ?_)
 intro ex T' H' a' w' hq hst
 cases ex with
 |normal=>
  obtain⟨ρ',g1,g2,g3,g4,g5⟩:=hst.fresh hf
  refine hq w' ρ' a' R g4 g2 g3 ?_
  intro ex T2 H2 a2 w2 hq2 hst2
  rw[g5]at hst2
  exact hk _ _ _ _ _ hq2 (StA.trans g1 hst2)
 |exit id=>exact hk _ _ _ _ _ hq hst
 |ret=>exact hk _ _ _ _ _ hq hst
def d1d(c:AV)(x y:Prop):Prop:=match c with
 | .bool true=>x
 | .bool false=>y
 |_=>False
theorem d5Z{c:Operand}{x y:Code}{T:List AV}{H:AHeap}{Q:o6→List AV→AHeap→Prop}
  (h:d1d (p8 T c) (H9 P E w0 x T H Q) (H9 P E w0 y T H Q)):H9 P E w0 (.cond c x y) T H Q:=by
 intro w ρ a R hR hf hT hk
 have hr:=a8a hT c
 unfold d1d at h
 split at h
 ·rename_i e;rw[e]at hr;simp only[rel]at hr
  exact wp_cond hr (h w ρ a R hR hf hT hk)
 ·rename_i e;rw[e]at hr;simp only[rel]at hr
  exact wp_cond hr (h w ρ a R hR hf hT hk)
 ·cases h
def b3g(id:Nat)(Q:o6→List AV→AHeap→Prop):o6→List AV→AHeap→Prop
 | .exit id',T,H=>if id'=id then Q .normal T H else Q (.exit id') T H
 |e,T,H=>Q e T H
theorem a5V{id:Nat}{x:Code}{T:List AV}{H:AHeap}{Q:o6→List AV→AHeap→Prop}(h:H9 P E w0 x T H (b3g id Q)):H9 P E w0 (.block id x) T H Q:=by
 intro w ρ a R hR hf hT hk
 refine wp_block (h w ρ a _ hR hf hT ?_)
 intro ex T' H' a' w' hq hst
 cases ex with
 |normal=>exact hk _ _ _ _ _ hq hst
 |ret=>exact hk _ _ _ _ _ hq hst
 |exit id'=>
  simp only[b3g]at hq
  simp only[e0s,Exit.inBlock]
  split
  ·rename_i e;rw[if_pos e]at hq;exact hk .normal _ _ _ _ hq hst
  ·rename_i e;rw[if_neg e]at hq;exact hk (.exit id') _ _ _ _ hq hst
theorem c9p{c:Code}{Q:o6→List AV→AHeap→Prop}{I:Nat→List AV→AHeap→Prop}
  (step:∀n T H,I n T H→H9 P E w0 c T H fun ex T' H'=>match ex with| .normal=>∃m,m<n∧I m T' H'|e=>Q e T' H')
  {n:Nat} {T:List AV} {H:AHeap} (h:I n T H):H9 P E w0 (.loop c) T H Q:=by
 have main:∀(k n:Nat) (T:List AV) (H:AHeap),n<k→I n T H→∀(w:World) (ρ:B7) (a:Act) (R:Exit→Act→World→Prop),K9 E w0 H w ρ→P4 ρ H→w5 ρ T a.tmps.toList→
   (∀ex T' H' a' w',Q ex T' H'→StA E w0 H ρ a.defers T' H' a' w'→R (e0s ex) a' w')→Code.rounds P c R k a w:=by
  intro k
  induction k with
  |zero=>intro n T H hn;omega
  |succ k ih=>
   intro n T H hn hI w ρ a R hR hf hT hk
   rw[rounds_succ]
   refine step n T H hI w ρ a _ hR hf hT ?_
   intro ex T' H' a' w' hq hst
   cases ex with
   |normal=>
    obtain⟨m,hm,hI'⟩:=hq
    obtain⟨ρ',g1,g2,g3,g4,g5⟩:=hst.fresh hf
    refine ih m T' H' (by omega) hI' w' ρ' a' R g4 g2 g3 ?_
    intro ex T2 H2 a2 w2 hq2 hst2
    rw[g5]at hst2
    exact hk _ _ _ _ _ hq2 (StA.trans g1 hst2)
   |exit id=>exact hk _ _ _ _ _ hq hst
   |ret=>exact hk _ _ _ _ _ hq hst
 intro w ρ a R hR hf hT hk
 exact wp_loop_rounds (n+1) (main (n+1) n T H (by omega) h w ρ a R hR hf hT hk)
def b7{α:Type}(x:Option α)(Q:α→Prop):Prop:=match x with
 |some v=>Q v
 |none=>False
def P0(P:Program)(E:j6)(H:AHeap)(T:List AV):List ResultVar→(List AV→Prop)→Prop
 | [],K=>K []
 | .tmp t::l,K=>P0 P E H T l fun vs=>K (T.getD t A8::vs)
 | .cell a t::l,K=>match T.getD a A8 with
  | .ptr o i=>b7 (L7 P E H t o i) fun v=>P0 P E H T l fun vs=>K (v::vs)
  |_=>False
def b8z:List AV→AV
 | [v]=>v
 |vs=> .tup vs
theorem b3Z{H:AHeap}{T:List AV}:∀ {l:List ResultVar} {K:List AV→Prop},P0 P E H T l K→∃vs,K vs∧l.mapM (fun
  | .tmp t=>some (T.getD t A8)
  | .cell a t=>match T.getD a A8 with
   | .ptr o i=>L7 P E H t o i
   |_=>none:ResultVar→Option AV)=some vs
 | [],K,h=>⟨[],h,rfl⟩
 | .tmp t::l,K,h=>by
  obtain⟨vs,h1,h2⟩:=b3Z (l:=l) h
  exact⟨_,h1,by simp only[List.mapM_cons,h2];rfl⟩
 | .cell a t::l,K,h=>by
  simp only[P0]at h
  split at h
  ·rename_i o i e
   unfold b7 at h
   split at h
   ·rename_i v hv
    obtain⟨vs,h1,h2⟩:=b3Z (l:=l) h
    exact⟨_,h1,by simp only[List.mapM_cons,h2,e,hv];rfl⟩
   ·cases h
  ·cases h
theorem d5g{H:AHeap}{T:List AV}{fn:Func}{K:List AV→Prop}(h:P0 P E H T fn.results.toList K):∃vs,K vs∧c1P P E H fn T=some (b8z vs):=by
 obtain⟨vs,h1,h2⟩:=b3Z h
 refine⟨vs,h1, ?_⟩
 unfold c1P
 erw [h2]
 simp only[Option.bind_eq_bind,Option.bind_some]
 unfold b8z
 split<;>rename_i h3<;>split<;>rename_i h4<;>simp_all
def e0P(P:Program)(E:j6)(fn:Func)(Q:AV→AHeap→Prop):o6→List AV→AHeap→Prop
 | .exit _,_,_=>False
 |_,T,H=>P0 P E H T fn.results.toList fun vs=>Q (b8z vs) H
theorem c4W{f:FuncId}{fn:Func}{c:Code}(hfn:P.funcs[f]? =some fn)(hb:fn.body=some c){args:List AV}{H:AHeap}{Q:AV→AHeap→Prop}
  (h:H9 P E w0 c (args++List.replicate (fn.ntmps - args.length) A8) H (e0P P E fn Q)):FnW P E w0 f args H Q:=by
 intro w ρ vargs R hf hr
 refine calls_of_wp hfn hb ?_
 refine h w ρ { tmps:=vargs++Array.replicate (fn.ntmps - vargs.size) undef,defers:=[] } _ R hf ?_ ?_
 ·have hl:=B2 hr
  simp only[Array.length_toList]at hl
  rw[Array.toList_append,Array.toList_replicate, ←hl]
  refine W9 hr ?_
  generalize fn.ntmps - args.length=m
  induction m with
  |zero=>exact u9.2 rfl
  |succ m ihm=>exact r7.2 ⟨a5g,ihm⟩
 ·intro ex T' H' a' w' hq ⟨ρ',g1,g2,g3,g4⟩
  have main:(ex= .normal∨ex= .ret)→bodyPost P fn (fun e w'=>∃u ρ' v H',e= .returned u∧Q v H'∧Nx ρ ρ' H H'∧rel ρ' v u∧K9 E w0 H' w' ρ') (e0s ex) a' w':=by
   intro hex
   have hq':P0 P E H' T' fn.results.toList fun vs=>Q (b8z vs) H':=by rcases hex with rfl|rfl<;>exact hq
   obtain⟨vs,h1,h2⟩:=d5g hq'
   obtain⟨u,k1,k2⟩:=c8g (P:=P) g3 h2 g2
   have:bodyPost P fn (fun e w'=>∃u ρ' v H',e= .returned u∧Q v H'∧Nx ρ ρ' H H'∧rel ρ' v u∧K9 E w0 H' w' ρ') .normal a' w':=
    ⟨g4,u,k1,u,ρ',_,H',rfl,h1,g1,k2,g3⟩
   rcases hex with rfl|rfl
   ·exact this
   ·exact this
  cases ex with
  |normal=>exact main (.inl rfl)
  |ret=>exact main (.inr rfl)
  |exit id=>exact hq.elim
theorem d1K{f:FuncId}{args:List AV}{Q:AV→AHeap→Prop}{W:World}(h:FnW P E W f args AHeap.empty Q){vargs:Array Value}
  (hE:∀b cs,E b=some cs→b<W.heap.size∧∃arr el fr,W.heap[b]? =some (.cells arr el fr)∧w5 (fun _=>none) cs arr.toList) (hargs:w5 (fun _=>none) args vargs.toList):
  Calls P f vargs W fun e w=>∃u ρ v H',e= .returned u∧Q v H'∧rel ρ v u∧W.heap.size≤w.heap.size∧c6f W w:=by
 refine Calls.mono (h W (fun _=>none) vargs (K9.start E W hE) (fun _ _=>rfl) hargs) ?_
 rintro e w ⟨u,ρ,v,H',rfl,g1,_,g3,g4⟩
 exact⟨u,ρ,v,H',rfl,g1,g3,g4.size,g4.side.1,g4.side.2,g4.old⟩
theorem d3g{f:FuncId}{args:List AV}{W:World}(h:FnW P E W f args AHeap.empty fun v _=>v= .bool true){vargs:Array Value}
  (hE:∀b cs,E b=some cs→b<W.heap.size∧∃arr el fr,W.heap[b]? =some (.cells arr el fr)∧w5 (fun _=>none) cs arr.toList) (hargs:w5 (fun _=>none) args vargs.toList):
  Calls P f vargs W fun e w=>e= .returned (.bool true)∧c6f W w:=by
 refine Calls.mono (d1K h hE hargs) ?_
 rintro e w ⟨u,ρ,v,H',rfl,rfl,hr,_,hk⟩
 simp only[rel]at hr
 exact⟨by rw[hr],hk⟩
end
end Go.Am
end
