/-
  TransferKnownSaid: part Kah of its proof.
-/
import Derived.Test.YtdkidgkiplcggaaKag
set_option linter.unusedVariables false
set_option linter.unusedSimpArgs false
set_option maxRecDepth 100000
section
namespace Go.Am
structure a7W where
 w:World
 X:AV→AHeap→Prop
instance:Coe a7W World:=⟨a7W.w⟩
def d1g(w:World):a7W:=⟨w,fun _ _=>False⟩
section
variable(P:Program)(E:i9)(w0:a7W)
def a0I(ρ:B1)(H:AHeap):Prop:=∀k,H.next≤k→ρ k=none
def Nx(ρ ρ':B1)(H H':AHeap):Prop:=Ext ρ ρ'∧H.next≤H'.next∧∀k,¬(H.next≤k∧k<H'.next)→ρ' k=ρ k
def c8U(u:Value):List PanicEntry:=[{ v:=u,recovered:=false }]
def c5c(ρ:B1)(H:AHeap)(Q:AV→AHeap→Prop):Ending→World→Prop
 | .returned u,w'=>∃ρ' v H',Q v H'∧Nx ρ ρ' H H'∧rel ρ' v u∧H3 E w0 H' w' ρ'
 | .panicked c,w'=>∃u ρ' v H',c=c8U u∧w0.X v H'∧Nx ρ ρ' H H'∧rel ρ' v u∧H3 E w0 H' w' ρ'
 | .outgrown,_=>False
def FnW(f:FuncId)(args:List AV)(H:AHeap)(Q:AV→AHeap→Prop):Prop:=
 ∀(w:World) (ρ:B1) (vargs:Array Value),H3 E w0 H w ρ→a0I ρ H→s5 ρ args vargs.toList→Calls P f vargs w (c5c E w0 ρ H Q)
def d0z(T:List AV)(H:AHeap)(o:Oper):Prop:=match o.op with
 | .panic x=>(∃t v,l8 T x= .ifc t v)∧w0.X (l8 T x) H
 |_=>False
def c4l(T:List AV)(H:AHeap)(o:Oper)(r:Option a0O)(Q:AV→AHeap→Prop):Prop:=match r with
 |some (.val v H')=>Q v H'
 |some (.call f args H')=>FnW P E w0 f args H' Q
 |none=>d0z w0 T H o
def d4E(g:AV)(want:Bool):Option Bool:=match g with
 | .bool b=>some (b==want)
 | .opq _=>none
 |_=>some false
def a9h(r:Option Bool)(s:(AV→AHeap→Prop)→Prop)(H:AHeap)(Q:AV→AHeap→Prop):Prop:=match r with
 |some true=>s Q
 |some false=>Q B6 H
 |none=>False
def a4n(ops:Array Oper)(T:List AV)(H:AHeap)(o:Oper)(Q:AV→AHeap→Prop):Prop:=
 a9h (a0F ops T o) (c4l P E w0 T H o (opA P E T H o)) H Q
def d2V(ops:Array Oper):List Oper→List AV→AHeap→(List AV→AHeap→Prop)→Prop
 | [],T,H,Q=>Q T H
 |o::l,T,H,Q=>a4n P E w0 ops T H o fun v H'=>d2V ops l (a2C T o.dst v) H' Q
def StA(H:AHeap)(ρ:B1)(ds:List Deferred)(T':List AV)(H':AHeap)(a':Act)(w':World):Prop:=
 ∃ρ',Nx ρ ρ' H H'∧s5 ρ' T' a'.tmps.toList∧H3 E w0 H' w' ρ'∧a'.defers=ds
def c0Y(H:AHeap)(ρ:B1)(ds:List Deferred)(R:Exit→Act→World→Prop):Prop:=
 ∀u v ρ' H' a' w',w0.X v H'→Nx ρ ρ' H H'→rel ρ' v u→H3 E w0 H' w' ρ'→a'.defers=ds→R (.panic (c8U u)) a' w'
def L4(c:Code)(T:List AV)(H:AHeap)(Q:o7→List AV→AHeap→Prop):Prop:=
 ∀(w:World) (ρ:B1) (a:Act) (R:Exit→Act→World→Prop),H3 E w0 H w ρ→a0I ρ H→s5 ρ T a.tmps.toList→
  (∀ex T' H' a' w',Q ex T' H'→StA E w0 H ρ a.defers T' H' a' w'→R (d3x ex) a' w')→c0Y E w0 H ρ a.defers R→c.wp P R a w
end
section
variable{P:Program}{E:i9}{w0:a7W}
theorem Nx.refl(ρ:B1)(H:AHeap):Nx ρ ρ H H:=⟨Ext.refl _,Nat.le_refl _,fun _ _=>rfl⟩
theorem Nx.trans{ρ ρ1 ρ2:B1}{H H1 H2:AHeap}(h:Nx ρ ρ1 H H1)(h':Nx ρ1 ρ2 H1 H2):Nx ρ ρ2 H H2:=by
 obtain⟨a,b,c⟩:=h
 obtain⟨a',b',c'⟩:=h'
 exact⟨a.trans a',by omega,fun k hk=>by rw[c' k (by omega),c k (by omega)]⟩
theorem a0I.step{ρ ρ':B1}{H H':AHeap}(h:a0I ρ H)(h':Nx ρ ρ' H H'):a0I ρ' H':=fun k hk=>by
 obtain⟨_,b,c⟩:=h'
 rw[c k (by omega),h k (by omega)]
theorem a0I.fresh{ρ:B1}{H H':AHeap}(h:a0I ρ H):a3l ρ H H':=fun k hk _=>h k hk
theorem StA.trans{H0 H1 H2:AHeap}{ρ0 ρ1:B1}{ds:List Deferred}{T:List AV}{a:Act}{w:World}(h1:Nx ρ0 ρ1 H0 H1)(h:StA E w0 H1 ρ1 ds T H2 a w):StA E w0 H0 ρ0 ds T H2 a w:=by
 obtain⟨ρ,g1,g2,g3,g4⟩:=h
 exact⟨ρ,h1.trans g1,g2,g3,g4⟩
theorem StA.fresh{H0 H:AHeap}{ρ0:B1}{ds:List Deferred}{T:List AV}{a:Act}{w:World}(h:StA E w0 H0 ρ0 ds T H a w)(hf:a0I ρ0 H0):
  ∃ρ,Nx ρ0 ρ H0 H∧a0I ρ H∧s5 ρ T a.tmps.toList∧H3 E w0 H w ρ∧a.defers=ds:=by
 obtain⟨ρ,g1,g2,g3,g4⟩:=h
 exact⟨ρ,g1,hf.step g1,g2,g3,g4⟩
theorem c0Y.trans{H0 H:AHeap}{ρ0 ρ:B1}{ds:List Deferred}{R:Exit→Act→World→Prop}(h:c0Y E w0 H0 ρ0 ds R)(h1:Nx ρ0 ρ H0 H):c0Y E w0 H ρ ds R:=fun u v ρ' H' a' w' hx hn=>h u v ρ' H' a' w' hx (h1.trans hn)
theorem c5c.mono{ρ:B1}{H:AHeap}{Q Q':AV→AHeap→Prop}(hq:∀v H',Q v H'→Q' v H'){e:Ending}{w:World}(h:c5c E w0 ρ H Q e w):c5c E w0 ρ H Q' e w:=by
 cases e with
 |returned u=>
  obtain⟨ρ',v,H',h2,h3⟩:=h
  exact⟨ρ',v,H',hq _ _ h2,h3⟩
 |panicked c=>exact h
 |outgrown=>exact h
theorem FnW.mono{f:FuncId}{args:List AV}{H:AHeap}{Q Q':AV→AHeap→Prop}(h:FnW P E w0 f args H Q)(hq:∀v H',Q v H'→Q' v H'):FnW P E w0 f args H Q':=
 fun w ρ vargs R hf hr=>Calls.mono (h w ρ vargs R hf hr) fun e w' he=>he.mono hq
theorem L4.mono{c:Code}{T:List AV}{H:AHeap}{Q Q':o7→List AV→AHeap→Prop}(h:L4 P E w0 c T H Q)(hq:∀ex T' H',Q ex T' H'→Q' ex T' H'):L4 P E w0 c T H Q':=
 fun w ρ a R hR hf hT hk hp=>h w ρ a R hR hf hT (fun ex T' H' a' w' hQ=>hk ex T' H' a' w' (hq _ _ _ hQ)) hp
theorem d0c{T:List AV}{H:AHeap}{o:Oper}{r:Option a0O}{Q Q':AV→AHeap→Prop}(h:c4l P E w0 T H o r Q)(hq:∀v H',Q v H'→Q' v H'):c4l P E w0 T H o r Q':=by
 unfold c4l at*
 split
 ·exact hq _ _ h
 ·exact FnW.mono h hq
 ·exact h
theorem a3y{ops:Array Oper}{T:List AV}{H:AHeap}{o:Oper}{Q Q':AV→AHeap→Prop}(h:a4n P E w0 ops T H o Q)(hq:∀v H',Q v H'→Q' v H'):a4n P E w0 ops T H o Q':=by
 unfold a4n a9h at*
 split<;>rename_i e<;>rw[e]at h
 ·exact d0c h hq
 ·exact hq _ _ h
 ·exact h
theorem b0G{ops:Array Oper}{T:List AV}{H:AHeap}{o:Oper}{Q:AV→AHeap→Prop}(h:a4n P E w0 ops T H o Q){i:Nat}(ho:ops[i]? =some o)
  {w:World} {ρ:B1} (R:H3 E w0 H w ρ) {a:Act} (hT:s5 ρ T a.tmps.toList) (hf:a0I ρ H) {K:Act→World→Prop} {S:Exit→Act→World→Prop}
  (hK:∀v H' ρ' vv w',Q v H'→Nx ρ ρ' H H'→rel ρ' v vv→H3 E w0 H' w' ρ'→K (a.put o.dst vv) w') (hP:c0Y E w0 H ρ a.defers S):wpOp P ops S i K a w:=by
 unfold wpOp
 rw[ho]
 simp only
 unfold a4n a9h at h
 split at h
 ·rename_i hw
  rw[c1M hw hT,if_pos rfl]
  left
  unfold Oper.wp
  unfold c4l at h
  split at h
  ·rename_i v1 H1 h1
   obtain⟨nx,vv,w',ρ',g1,g2,g3,g4,g5,g6,g7⟩:=c3K R h1 (b5g hT) hf.fresh
   rw[g1]
   rcases g2 with rfl|⟨rfl,rfl⟩
   ·exact hK _ _ ρ' vv w' h ⟨g3,g7,g4⟩ g5 g6
   ·exact hK _ _ ρ' undef w' h ⟨g3,g7,g4⟩ g5 g6
  ·rename_i f args H1 h1
   obtain⟨rfl,vargs,g1,g2⟩:=c3K R h1 (b5g hT)
   rw[g1]
   refine Calls.mono (h w ρ vargs R hf g2) ?_
   intro e w' he
   cases e with
   |returned u=>
    obtain⟨ρ',v,H',k1,k2,k3,k4⟩:=he
    exact hK _ _ ρ' u w' k1 k2 k3 k4
   |panicked c=>
    obtain⟨u,ρ',v,H',rfl,k1,k2,k3,k4⟩:=he
    exact hP u v ρ' H' a w' k1 k2 k3 k4 rfl
   |outgrown=>exact he.elim
  ·unfold d0z at h
   split at h
   ·rename_i x hx
    obtain⟨⟨t,v,e⟩,hX⟩:=h
    have hr:=b5g hT x
    rw[e]at hr hX
    have hr':=hr
    simp only[rel]at hr
    obtain⟨y,hy,_⟩:=hr
    have hrun:(execOp a.eval o).run P w= .halt (.panic (.iface t y)) w:=by
     obtain⟨dst,op,ty,pos,after,guard⟩:=o
     simp only at hx
     subst hx
     simp only[execOp,hy]
     rfl
    rw[hrun,Oper.upon_panic]
    rw[hy]at hr'
    exact hP _ _ ρ H a w hX (Nx.refl _ _) hr' R rfl
   ·cases h
 ·rename_i hw
  rw[c1M hw hT,if_neg Bool.false_ne_true]
  exact hK _ _ ρ undef w h (Nx.refl _ _) b2f R
 ·cases h
theorem c1l{ops:Array Oper}{S:Exit→Act→World→Prop}:∀(l:List Oper) (i:Nat) (T:List AV) (H:AHeap) (Q:List AV→AHeap→Prop),d2V P E w0 ops l T H Q→ops.toList.drop i=l→
  ∀(w:World) (ρ:B1) (a:Act),H3 E w0 H w ρ→s5 ρ T a.tmps.toList→a0I ρ H→(∀T' H' a' w',Q T' H'→StA E w0 H ρ a.defers T' H' a' w'→S .normal a' w')→c0Y E w0 H ρ a.defers S→
   wpOps P ops S (List.range' i l.length) a w
 | [],i,T,H,Q,h,_,w,ρ,a,R,hT,hf,hQ,hP=>by
  simp only[List.length_nil,List.range'_zero,wpOps]
  exact hQ T H a w h ⟨ρ,Nx.refl _ _,hT,R,rfl⟩
 |o::l,i,T,H,Q,h,hl,w,ρ,a,R,hT,hf,hQ,hP=>by
  have hdr:ops.toList.drop (i+1)=l:=by
   have:=congrArg List.tail hl
   rw[List.tail_drop]at this
   exact this
  have ho:ops[i]? =some o:=by
   have:(ops.toList.drop i)[0]? =some o:=by rw[hl];rfl
   rw[List.getElem?_drop]at this
   simpa using this
  have hlen:(List.range' i (o::l).length)=i::List.range' (i+1) l.length:=by
   simp[List.range'_succ]
  rw[hlen,wpOps_cons]
  refine b0G h ho R hT hf ?_ hP
  intro v H1 ρ' vv w' g0 g1 g2 g3
  refine c1l l (i+1) _ _ _ g0 hdr w' ρ' _ g3 (c5f (V9 g1.1 _ _ hT) g2) (hf.step g1) ?_ (by rw[a9M];exact hP.trans g1)
  intro T' H' a' w'' hq hst
  rw[a9M]at hst
  exact hQ T' H' a' w'' hq (StA.trans g1 hst)
theorem c7O{T:List AV}{H:AHeap}{Q:o7→List AV→AHeap→Prop}(h:Q .normal T H):L4 P E w0 .skip T H Q:=
 fun w ρ a R hR hf hT hk _=>wp_skip (hk _ _ _ _ _ h ⟨ρ,Nx.refl _ _,hT,hR,rfl⟩)
theorem c6X{l:Nat}{T:List AV}{H:AHeap}{Q:o7→List AV→AHeap→Prop}(h:Q .normal T H):L4 P E w0 (.label l) T H Q:=
 fun w ρ a R hR hf hT hk _=>wp_label (hk _ _ _ _ _ h ⟨ρ,Nx.refl _ _,hT,hR,rfl⟩)
theorem d0r{T:List AV}{H:AHeap}{Q:o7→List AV→AHeap→Prop}(h:Q .ret T H):L4 P E w0 .ret T H Q:=
 fun w ρ a R hR hf hT hk _=>wp_ret (hk _ _ _ _ _ h ⟨ρ,Nx.refl _ _,hT,hR,rfl⟩)
theorem c8q{id:Nat}{T:List AV}{H:AHeap}{Q:o7→List AV→AHeap→Prop}(h:Q (.exit id) T H):L4 P E w0 (.exit id) T H Q:=
 fun w ρ a R hR hf hT hk _=>wp_exit (hk _ _ _ _ _ h ⟨ρ,Nx.refl _ _,hT,hR,rfl⟩)
theorem c4q{id:Nat}{ops:Array Oper}{T:List AV}{H:AHeap}{Q:o7→List AV→AHeap→Prop}(h:d2V P E w0 ops ops.toList T H (Q .normal)):L4 P E w0 (.region id ops false) T H Q:=by
 intro w ρ a R hR hf hT hk hp
 refine wp_region ?_
 have:=c1l (S:=R) ops.toList 0 T H _ h rfl w ρ a hR hT hf (fun T' H' a' w' hq hst=>hk _ _ _ _ _ hq hst) hp
 rwa [List.range_eq_range', ←Array.length_toList]
theorem c9O{x y:Code}{T:List AV}{H:AHeap}{Q:o7→List AV→AHeap→Prop}
  (h:L4 P E w0 x T H fun ex T' H'=>match ex with| .normal=>L4 P E w0 y T' H' Q|e=>Q e T' H'):L4 P E w0 (.seq x y) T H Q:=by
 intro w ρ a R hR hf hT hk hp
 refine wp_seq (h w ρ a _ hR hf hT ?_ hp)
 intro ex T' H' a' w' hq hst
 cases ex with
 |normal=>
  obtain⟨ρ',g1,g2,g3,g4,g5⟩:=hst.fresh hf
  refine hq w' ρ' a' R g4 g2 g3 ?_ (by rw[g5];exact hp.trans g1)
  intro ex T2 H2 a2 w2 hq2 hst2
  rw[g5]at hst2
  exact hk _ _ _ _ _ hq2 (StA.trans g1 hst2)
 |exit id=>exact hk _ _ _ _ _ hq hst
 |ret=>exact hk _ _ _ _ _ hq hst
def c7b(c:AV)(x y:Prop):Prop:=match c with
 | .bool true=>x
 | .bool false=>y
 |_=>False
theorem c0p{c:Operand}{x y:Code}{T:List AV}{H:AHeap}{Q:o7→List AV→AHeap→Prop}
  (h:c7b (l8 T c) (L4 P E w0 x T H Q) (L4 P E w0 y T H Q)):L4 P E w0 (.cond c x y) T H Q:=by
 intro w ρ a R hR hf hT hk hp
 have hr:=b5g hT c
 unfold c7b at h
 split at h
 ·rename_i e;rw[e]at hr;simp only[rel]at hr
  exact wp_cond hr (h w ρ a R hR hf hT hk hp)
 ·rename_i e;rw[e]at hr;simp only[rel]at hr
  exact wp_cond hr (h w ρ a R hR hf hT hk hp)
 ·cases h
def c7G(id:Nat)(Q:o7→List AV→AHeap→Prop):o7→List AV→AHeap→Prop
 | .exit id',T,H=>if id'=id then Q .normal T H else Q (.exit id') T H
 |e,T,H=>Q e T H
theorem c5B{id:Nat}{x:Code}{T:List AV}{H:AHeap}{Q:o7→List AV→AHeap→Prop}(h:L4 P E w0 x T H (c7G id Q)):L4 P E w0 (.block id x) T H Q:=by
 intro w ρ a R hR hf hT hk hp
 refine wp_block (h w ρ a _ hR hf hT ?_ hp)
 intro ex T' H' a' w' hq hst
 cases ex with
 |normal=>exact hk _ _ _ _ _ hq hst
 |ret=>exact hk _ _ _ _ _ hq hst
 |exit id'=>
  simp only[c7G]at hq
  simp only[d3x,Exit.inBlock]
  split
  ·rename_i e;rw[if_pos e]at hq;exact hk .normal _ _ _ _ hq hst
  ·rename_i e;rw[if_neg e]at hq;exact hk (.exit id') _ _ _ _ hq hst
theorem c8n{c:Code}{Q:o7→List AV→AHeap→Prop}{I:Nat→List AV→AHeap→Prop}
  (step:∀n T H,I n T H→L4 P E w0 c T H fun ex T' H'=>match ex with| .normal=>∃m,m<n∧I m T' H'|e=>Q e T' H')
  {n:Nat} {T:List AV} {H:AHeap} (h:I n T H):L4 P E w0 (.loop c) T H Q:=by
 have main:∀(k n:Nat) (T:List AV) (H:AHeap),n<k→I n T H→∀(w:World) (ρ:B1) (a:Act) (R:Exit→Act→World→Prop),H3 E w0 H w ρ→a0I ρ H→s5 ρ T a.tmps.toList→
   (∀ex T' H' a' w',Q ex T' H'→StA E w0 H ρ a.defers T' H' a' w'→R (d3x ex) a' w')→c0Y E w0 H ρ a.defers R→Code.rounds P c R k a w:=by
  intro k
  induction k with
  |zero=>intro n T H hn;omega
  |succ k ih=>
   intro n T H hn hI w ρ a R hR hf hT hk hp
   rw[rounds_succ]
   refine step n T H hI w ρ a _ hR hf hT ?_ hp
   intro ex T' H' a' w' hq hst
   cases ex with
   |normal=>
    obtain⟨m,hm,hI'⟩:=hq
    obtain⟨ρ',g1,g2,g3,g4,g5⟩:=hst.fresh hf
    refine ih m T' H' (by omega) hI' w' ρ' a' R g4 g2 g3 ?_ (by rw[g5];exact hp.trans g1)
    intro ex T2 H2 a2 w2 hq2 hst2
    rw[g5]at hst2
    exact hk _ _ _ _ _ hq2 (StA.trans g1 hst2)
   |exit id=>exact hk _ _ _ _ _ hq hst
   |ret=>exact hk _ _ _ _ _ hq hst
 intro w ρ a R hR hf hT hk hp
 exact wp_loop_rounds (n+1) (main (n+1) n T H (by omega) h w ρ a R hR hf hT hk hp)
def b7{α:Type}(x:Option α)(Q:α→Prop):Prop:=match x with
 |some v=>Q v
 |none=>False
def a3U(P:Program)(E:i9)(H:AHeap)(T:List AV):List ResultVar→(List AV→Prop)→Prop
 | [],K=>K []
 | .tmp t::l,K=>a3U P E H T l fun vs=>K (T.getD t B6::vs)
 | .cell a t::l,K=>match T.getD a B6 with
  | .ptr o i=>b7 (L6 P E H t o i) fun v=>a3U P E H T l fun vs=>K (v::vs)
  |_=>False
def c3B:List AV→AV
 | [v]=>v
 |vs=> .tup vs
theorem a8H{H:AHeap}{T:List AV}:∀ {l:List ResultVar} {K:List AV→Prop},a3U P E H T l K→∃vs,K vs∧l.mapM (fun
  | .tmp t=>some (T.getD t B6)
  | .cell a t=>match T.getD a B6 with
   | .ptr o i=>L6 P E H t o i
   |_=>none:ResultVar→Option AV)=some vs
 | [],K,h=>⟨[],h,rfl⟩
 | .tmp t::l,K,h=>by
  obtain⟨vs,h1,h2⟩:=a8H (l:=l) h
  exact⟨_,h1,by simp only[List.mapM_cons,h2];rfl⟩
 | .cell a t::l,K,h=>by
  simp only[a3U]at h
  split at h
  ·rename_i o i e
   unfold b7 at h
   split at h
   ·rename_i v hv
    obtain⟨vs,h1,h2⟩:=a8H (l:=l) h
    exact⟨_,h1,by simp only[List.mapM_cons,h2,e,hv];rfl⟩
   ·cases h
  ·cases h
theorem c8d{H:AHeap}{T:List AV}{fn:Func}{K:List AV→Prop}(h:a3U P E H T fn.results.toList K):∃vs,K vs∧b5w P E H fn T=some (c3B vs):=by
 obtain⟨vs,h1,h2⟩:=a8H h
 refine⟨vs,h1, ?_⟩
 unfold b5w
 erw [h2]
 simp only[Option.bind_eq_bind,Option.bind_some]
 unfold c3B
 split<;>rename_i h3<;>split<;>rename_i h4<;>simp_all
def d5L(P:Program)(E:i9)(fn:Func)(Q:AV→AHeap→Prop):o7→List AV→AHeap→Prop
 | .exit _,_,_=>False
 |_,T,H=>a3U P E H T fn.results.toList fun vs=>Q (c3B vs) H
theorem c5S{f:FuncId}{fn:Func}{c:Code}(hfn:P.funcs[f]? =some fn)(hb:fn.body=some c){args:List AV}{H:AHeap}{Q:AV→AHeap→Prop}
  (h:L4 P E w0 c (args++List.replicate (fn.ntmps - args.length) B6) H (d5L P E fn Q)):FnW P E w0 f args H Q:=by
 intro w ρ vargs R hf hr
 refine calls_of_wp hfn hb ?_
 refine h w ρ { tmps:=vargs++Array.replicate (fn.ntmps - vargs.size) undef,defers:=[] } _ R hf ?_ ?_ ?_
 ·have hl:=A2 hr
  simp only[Array.length_toList]at hl
  rw[Array.toList_append,Array.toList_replicate, ←hl]
  refine X3 hr ?_
  generalize fn.ntmps - args.length=m
  induction m with
  |zero=>exact r0.2 rfl
  |succ m ihm=>exact o6.2 ⟨b2f,ihm⟩
 ·intro ex T' H' a' w' hq ⟨ρ',g1,g2,g3,g4⟩
  have main:(ex= .normal∨ex= .ret)→bodyPost P fn (c5c E w0 ρ H Q) (d3x ex) a' w':=by
   intro hex
   have hq':a3U P E H' T' fn.results.toList fun vs=>Q (c3B vs) H':=by rcases hex with rfl|rfl<;>exact hq
   obtain⟨vs,h1,h2⟩:=c8d hq'
   obtain⟨u,k1,k2⟩:=c1S (P:=P) g3 h2 g2
   have:bodyPost P fn (c5c E w0 ρ H Q) .normal a' w':=
    ⟨g4,u,k1,ρ',_,H',h1,g1,k2,g3⟩
   rcases hex with rfl|rfl
   ·exact this
   ·exact this
  cases ex with
  |normal=>exact main (.inl rfl)
  |ret=>exact main (.inr rfl)
  |exit id=>exact hq.elim
 ·exact fun u v ρ' H' a' w' h1 h2 h3 h4 h5=>⟨h5,u,ρ',v,H',rfl,h1,h2,h3,h4⟩
theorem c4C{f:FuncId}{args:List AV}{Q:AV→AHeap→Prop}{W:World}(h:FnW P E (d1g W) f args AHeap.empty Q){vargs:Array Value}
  (hE:∀b cs,E b=some cs→b<W.heap.size∧∃arr el fr,W.heap[b]? =some (.cells arr el fr)∧s5 (fun _=>none) cs arr.toList) (hargs:s5 (fun _=>none) args vargs.toList):
  Calls P f vargs W fun e w=>∃u ρ v H',e= .returned u∧Q v H'∧rel ρ v u∧W.heap.size≤w.heap.size∧b9m W w:=by
 refine Calls.mono (h W (fun _=>none) vargs (H3.start E W hE) (fun _ _=>rfl) hargs) ?_
 intro e w he
 cases e with
 |returned u=>
  obtain⟨ρ,v,H',g1,_,g3,g4⟩:=he
  exact⟨u,ρ,v,H',rfl,g1,g3,g4.size,g4.side.1,g4.side.2,g4.old⟩
 |panicked c=>obtain⟨_,_,_,_,_,h,_⟩:=he;exact h.elim
 |outgrown=>exact he.elim
theorem c4h{f:FuncId}{args:List AV}{W:World}(h:FnW P E (d1g W) f args AHeap.empty fun v _=>v= .bool true){vargs:Array Value}
  (hE:∀b cs,E b=some cs→b<W.heap.size∧∃arr el fr,W.heap[b]? =some (.cells arr el fr)∧s5 (fun _=>none) cs arr.toList) (hargs:s5 (fun _=>none) args vargs.toList):
  Calls P f vargs W fun e w=>e= .returned (.bool true)∧b9m W w:=by
 refine Calls.mono (c4C h hE hargs) ?_
 rintro e w ⟨u,ρ,v,H',rfl,rfl,hr,_,hk⟩
 simp only[rel]at hr
 exact⟨by rw[hr],hk⟩
end
end Go.Am
end
