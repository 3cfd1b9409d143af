/-
  ImageSpoiltSaid: part Pah of its proof.
-/
import Derived.Test.YtchnpgddpaonhaaPag
set_option linter.unusedVariables false
set_option linter.unusedSimpArgs false
set_option maxRecDepth 100000
section
namespace Go.Am
structure a5P where
 w:World
 X:AV→AHeap→Prop
instance:Coe a5P World:=⟨a5P.w⟩
def b7D(w:World):a5P:=⟨w,fun _ _=>False⟩
section
variable(P:Program)(E:m6)(w0:a5P)
def P8(ρ:B4)(H:AHeap):Prop:=∀k,H.next≤k→ρ k=none
def Nx(ρ ρ':B4)(H H':AHeap):Prop:=Ext ρ ρ'∧H.next≤H'.next∧∀k,¬(H.next≤k∧k<H'.next)→ρ' k=ρ k
def a6S(u:Value):List PanicEntry:=[{ v:=u,recovered:=false }]
def b3W(ρ:B4)(H:AHeap)(Q:AV→AHeap→Prop):Ending→World→Prop
 | .returned u,w'=>∃ρ' v H',Q v H'∧Nx ρ ρ' H H'∧rel ρ' v u∧G9 E w0 H' w' ρ'
 | .panicked c,w'=>∃u ρ' v H',c=a6S u∧w0.X v H'∧Nx ρ ρ' H H'∧rel ρ' v u∧G9 E w0 H' w' ρ'
 | .outgrown,_=>False
def FnW(f:FuncId)(args:List AV)(H:AHeap)(Q:AV→AHeap→Prop):Prop:=
 ∀(w:World) (ρ:B4) (vargs:Array Value),G9 E w0 H w ρ→P8 ρ H→t9 ρ args vargs.toList→Calls P f vargs w (b3W E w0 ρ H Q)
def c7P(T:List AV)(H:AHeap)(o:Oper):Prop:=match o.op with
 | .panic x=>(∃t v,o0 T x= .ifc t v)∧w0.X (o0 T x) H
 |_=>False
def c2r(T:List AV)(H:AHeap)(o:Oper)(r:Option a0Y)(Q:AV→AHeap→Prop):Prop:=match r with
 |some (.val v H')=>Q v H'
 |some (.call f args H')=>FnW P E w0 f args H' Q
 |none=>c7P w0 T H o
def d3Y(g:AV)(want:Bool):Option Bool:=match g with
 | .bool b=>some (b==want)
 | .opq _=>none
 |_=>some false
def a7F(r:Option Bool)(s:(AV→AHeap→Prop)→Prop)(H:AHeap)(Q:AV→AHeap→Prop):Prop:=match r with
 |some true=>s Q
 |some false=>Q A0 H
 |none=>False
def a2M(ops:Array Oper)(T:List AV)(H:AHeap)(o:Oper)(Q:AV→AHeap→Prop):Prop:=
 a7F (a0M ops T o) (c2r P E w0 T H o (opA P E T H o)) H Q
def c8f(ops:Array Oper):List Oper→List AV→AHeap→(List AV→AHeap→Prop)→Prop
 | [],T,H,Q=>Q T H
 |o::l,T,H,Q=>a2M P E w0 ops T H o fun v H'=>c8f ops l (a2T T o.dst v) H' Q
def StA(H:AHeap)(ρ:B4)(ds:List Deferred)(T':List AV)(H':AHeap)(a':Act)(w':World):Prop:=
 ∃ρ',Nx ρ ρ' H H'∧t9 ρ' T' a'.tmps.toList∧G9 E w0 H' w' ρ'∧a'.defers=ds
def c0t(H:AHeap)(ρ:B4)(ds:List Deferred)(R:Exit→Act→World→Prop):Prop:=
 ∀u v ρ' H' a' w',w0.X v H'→Nx ρ ρ' H H'→rel ρ' v u→G9 E w0 H' w' ρ'→a'.defers=ds→R (.panic (a6S u)) a' w'
def G8(c:Code)(T:List AV)(H:AHeap)(Q:r4→List AV→AHeap→Prop):Prop:=
 ∀(w:World) (ρ:B4) (a:Act) (R:Exit→Act→World→Prop),G9 E w0 H w ρ→P8 ρ H→t9 ρ T a.tmps.toList→
  (∀ex T' H' a' w',Q ex T' H'→StA E w0 H ρ a.defers T' H' a' w'→R (d2q ex) a' w')→c0t E w0 H ρ a.defers R→c.wp P R a w
end
section
variable{P:Program}{E:m6}{w0:a5P}
theorem Nx.refl(ρ:B4)(H:AHeap):Nx ρ ρ H H:=⟨Ext.refl _,Nat.le_refl _,fun _ _=>rfl⟩
theorem Nx.trans{ρ ρ1 ρ2:B4}{H H1 H2:AHeap}(h:Nx ρ ρ1 H H1)(h':Nx ρ1 ρ2 H1 H2):Nx ρ ρ2 H H2:=by
 obtain⟨a,b,c⟩:=h
 obtain⟨a',b',c'⟩:=h'
 exact⟨a.trans a',by omega,fun k hk=>by rw[c' k (by omega),c k (by omega)]⟩
theorem P8.step{ρ ρ':B4}{H H':AHeap}(h:P8 ρ H)(h':Nx ρ ρ' H H'):P8 ρ' H':=fun k hk=>by
 obtain⟨_,b,c⟩:=h'
 rw[c k (by omega),h k (by omega)]
theorem P8.fresh{ρ:B4}{H H':AHeap}(h:P8 ρ H):a3n ρ H H':=fun k hk _=>h k hk
theorem StA.trans{H0 H1 H2:AHeap}{ρ0 ρ1:B4}{ds:List Deferred}{T:List AV}{a:Act}{w:World}(h1:Nx ρ0 ρ1 H0 H1)(h:StA E w0 H1 ρ1 ds T H2 a w):StA E w0 H0 ρ0 ds T H2 a w:=by
 obtain⟨ρ,g1,g2,g3,g4⟩:=h
 exact⟨ρ,h1.trans g1,g2,g3,g4⟩
theorem StA.fresh{H0 H:AHeap}{ρ0:B4}{ds:List Deferred}{T:List AV}{a:Act}{w:World}(h:StA E w0 H0 ρ0 ds T H a w)(hf:P8 ρ0 H0):
  ∃ρ,Nx ρ0 ρ H0 H∧P8 ρ H∧t9 ρ T a.tmps.toList∧G9 E w0 H w ρ∧a.defers=ds:=by
 obtain⟨ρ,g1,g2,g3,g4⟩:=h
 exact⟨ρ,g1,hf.step g1,g2,g3,g4⟩
theorem c0t.trans{H0 H:AHeap}{ρ0 ρ:B4}{ds:List Deferred}{R:Exit→Act→World→Prop}(h:c0t E w0 H0 ρ0 ds R)(h1:Nx ρ0 ρ H0 H):c0t E w0 H ρ ds R:=fun u v ρ' H' a' w' hx hn=>h u v ρ' H' a' w' hx (h1.trans hn)
theorem b3W.mono{ρ:B4}{H:AHeap}{Q Q':AV→AHeap→Prop}(hq:∀v H',Q v H'→Q' v H'){e:Ending}{w:World}(h:b3W E w0 ρ H Q e w):b3W E w0 ρ H Q' e w:=by
 cases e with
 |returned u=>
  obtain⟨ρ',v,H',h2,h3⟩:=h
  exact⟨ρ',v,H',hq _ _ h2,h3⟩
 |panicked c=>exact h
 |outgrown=>exact h
theorem FnW.mono{f:FuncId}{args:List AV}{H:AHeap}{Q Q':AV→AHeap→Prop}(h:FnW P E w0 f args H Q)(hq:∀v H',Q v H'→Q' v H'):FnW P E w0 f args H Q':=
 fun w ρ vargs R hf hr=>Calls.mono (h w ρ vargs R hf hr) fun e w' he=>he.mono hq
theorem G8.mono{c:Code}{T:List AV}{H:AHeap}{Q Q':r4→List AV→AHeap→Prop}(h:G8 P E w0 c T H Q)(hq:∀ex T' H',Q ex T' H'→Q' ex T' H'):G8 P E w0 c T H Q':=
 fun w ρ a R hR hf hT hk hp=>h w ρ a R hR hf hT (fun ex T' H' a' w' hQ=>hk ex T' H' a' w' (hq _ _ _ hQ)) hp
theorem d0h{T:List AV}{H:AHeap}{o:Oper}{r:Option a0Y}{Q Q':AV→AHeap→Prop}(h:c2r P E w0 T H o r Q)(hq:∀v H',Q v H'→Q' v H'):c2r P E w0 T H o r Q':=by
 unfold c2r at*
 split
 ·exact hq _ _ h
 ·exact FnW.mono h hq
 ·exact h
theorem a3N{ops:Array Oper}{T:List AV}{H:AHeap}{o:Oper}{Q Q':AV→AHeap→Prop}(h:a2M P E w0 ops T H o Q)(hq:∀v H',Q v H'→Q' v H'):a2M P E w0 ops T H o Q':=by
 unfold a2M a7F at*
 split<;>rename_i e<;>rw[e]at h
 ·exact d0h h hq
 ·exact hq _ _ h
 ·exact h
theorem b1B{ops:Array Oper}{T:List AV}{H:AHeap}{o:Oper}{Q:AV→AHeap→Prop}(h:a2M P E w0 ops T H o Q){i:Nat}(ho:ops[i]? =some o)
  {w:World} {ρ:B4} (R:G9 E w0 H w ρ) {a:Act} (hT:t9 ρ T a.tmps.toList) (hf:P8 ρ H) {K:Act→World→Prop} {S:Exit→Act→World→Prop}
  (hK:∀v H' ρ' vv w',Q v H'→Nx ρ ρ' H H'→rel ρ' v vv→G9 E w0 H' w' ρ'→K (a.put o.dst vv) w') (hP:c0t E w0 H ρ a.defers S):wpOp P ops S i K a w:=by
 unfold wpOp
 rw[ho]
 simp only
 unfold a2M a7F at h
 split at h
 ·rename_i hw
  rw[a9P hw hT,if_pos rfl]
  left
  unfold Oper.wp
  unfold c2r at h
  split at h
  ·rename_i v1 H1 h1
   obtain⟨nx,vv,w',ρ',g1,g2,g3,g4,g5,g6,g7⟩:=b2x R h1 (a4n hT) hf.fresh
   rw[g1]
   rcases g2 with rfl|⟨rfl,rfl⟩
   ·exact hK _ _ ρ' vv w' h ⟨g3,g7,g4⟩ g5 g6
   ·exact hK _ _ ρ' undef w' h ⟨g3,g7,g4⟩ g5 g6
  ·rename_i f args H1 h1
   obtain⟨rfl,vargs,g1,g2⟩:=b2x R h1 (a4n hT)
   rw[g1]
   refine Calls.mono (h w ρ vargs R hf g2) ?_
   intro e w' he
   cases e with
   |returned u=>
    obtain⟨ρ',v,H',k1,k2,k3,k4⟩:=he
    exact hK _ _ ρ' u w' k1 k2 k3 k4
   |panicked c=>
    obtain⟨u,ρ',v,H',rfl,k1,k2,k3,k4⟩:=he
    exact hP u v ρ' H' a w' k1 k2 k3 k4 rfl
   |outgrown=>exact he.elim
  ·unfold c7P at h
   split at h
   ·rename_i x hx
    obtain⟨⟨t,v,e⟩,hX⟩:=h
    have hr:=a4n hT x
    rw[e]at hr hX
    have hr':=hr
    simp only[rel]at hr
    obtain⟨y,hy,_⟩:=hr
    have hrun:(execOp a.eval o).run P w= .halt (.panic (.iface t y)) w:=by
     obtain⟨dst,op,ty,pos,after,guard⟩:=o
     simp only at hx
     subst hx
     simp only[execOp,hy]
     rfl
    rw[hrun,Oper.upon_panic]
    rw[hy]at hr'
    exact hP _ _ ρ H a w hX (Nx.refl _ _) hr' R rfl
   ·cases h
 ·rename_i hw
  rw[a9P hw hT,if_neg Bool.false_ne_true]
  exact hK _ _ ρ undef w h (Nx.refl _ _) a3u R
 ·cases h
theorem c0k{ops:Array Oper}{S:Exit→Act→World→Prop}:∀(l:List Oper) (i:Nat) (T:List AV) (H:AHeap) (Q:List AV→AHeap→Prop),c8f P E w0 ops l T H Q→ops.toList.drop i=l→
  ∀(w:World) (ρ:B4) (a:Act),G9 E w0 H w ρ→t9 ρ T a.tmps.toList→P8 ρ H→(∀T' H' a' w',Q T' H'→StA E w0 H ρ a.defers T' H' a' w'→S .normal a' w')→c0t E w0 H ρ a.defers S→
   wpOps P ops S (List.range' i l.length) a w
 | [],i,T,H,Q,h,_,w,ρ,a,R,hT,hf,hQ,hP=>by
  simp only[List.length_nil,List.range'_zero,wpOps]
  exact hQ T H a w h ⟨ρ,Nx.refl _ _,hT,R,rfl⟩
 |o::l,i,T,H,Q,h,hl,w,ρ,a,R,hT,hf,hQ,hP=>by
  have hdr:ops.toList.drop (i+1)=l:=by
   have:=congrArg List.tail hl
   rw[List.tail_drop]at this
   exact this
  have ho:ops[i]? =some o:=by
   have:(ops.toList.drop i)[0]? =some o:=by rw[hl];rfl
   rw[List.getElem?_drop]at this
   simpa using this
  have hlen:(List.range' i (o::l).length)=i::List.range' (i+1) l.length:=by
   simp[List.range'_succ]
  rw[hlen,wpOps_cons]
  refine b1B h ho R hT hf ?_ hP
  intro v H1 ρ' vv w' g0 g1 g2 g3
  refine c0k l (i+1) _ _ _ g0 hdr w' ρ' _ g3 (a9o (K9 g1.1 _ _ hT) g2) (hf.step g1) ?_ (by rw[a0r];exact hP.trans g1)
  intro T' H' a' w'' hq hst
  rw[a0r]at hst
  exact hQ T' H' a' w'' hq (StA.trans g1 hst)
theorem c7n{T:List AV}{H:AHeap}{Q:r4→List AV→AHeap→Prop}(h:Q .normal T H):G8 P E w0 .skip T H Q:=
 fun w ρ a R hR hf hT hk _=>wp_skip (hk _ _ _ _ _ h ⟨ρ,Nx.refl _ _,hT,hR,rfl⟩)
theorem c5v{l:Nat}{T:List AV}{H:AHeap}{Q:r4→List AV→AHeap→Prop}(h:Q .normal T H):G8 P E w0 (.label l) T H Q:=
 fun w ρ a R hR hf hT hk _=>wp_label (hk _ _ _ _ _ h ⟨ρ,Nx.refl _ _,hT,hR,rfl⟩)
theorem c9X{T:List AV}{H:AHeap}{Q:r4→List AV→AHeap→Prop}(h:Q .ret T H):G8 P E w0 .ret T H Q:=
 fun w ρ a R hR hf hT hk _=>wp_ret (hk _ _ _ _ _ h ⟨ρ,Nx.refl _ _,hT,hR,rfl⟩)
theorem c7r{id:Nat}{T:List AV}{H:AHeap}{Q:r4→List AV→AHeap→Prop}(h:Q (.exit id) T H):G8 P E w0 (.exit id) T H Q:=
 fun w ρ a R hR hf hT hk _=>wp_exit (hk _ _ _ _ _ h ⟨ρ,Nx.refl _ _,hT,hR,rfl⟩)
theorem c4d{id:Nat}{ops:Array Oper}{T:List AV}{H:AHeap}{Q:r4→List AV→AHeap→Prop}(h:c8f P E w0 ops ops.toList T H (Q .normal)):G8 P E w0 (.region id ops false) T H Q:=by
 intro w ρ a R hR hf hT hk hp
 refine wp_region ?_
 have:=c0k (S:=R) ops.toList 0 T H _ h rfl w ρ a hR hT hf (fun T' H' a' w' hq hst=>hk _ _ _ _ _ hq hst) hp
 rwa [List.range_eq_range', ←Array.length_toList]
theorem d0q{x y:Code}{T:List AV}{H:AHeap}{Q:r4→List AV→AHeap→Prop}
  (h:G8 P E w0 x T H fun ex T' H'=>match ex with| .normal=>G8 P E w0 y T' H' Q|e=>Q e T' H'):G8 P E w0 (.seq x y) T H Q:=by
 intro w ρ a R hR hf hT hk hp
 refine wp_seq (h w ρ a _ hR hf hT ?_ hp)
 intro ex T' H' a' w' hq hst
 cases ex with
 |normal=>
  obtain⟨ρ',g1,g2,g3,g4,g5⟩:=hst.fresh hf
  refine hq w' ρ' a' R g4 g2 g3 ?_ (by rw[g5];exact hp.trans g1)
  intro ex T2 H2 a2 w2 hq2 hst2
  rw[g5]at hst2
  exact hk _ _ _ _ _ hq2 (StA.trans g1 hst2)
 |exit id=>exact hk _ _ _ _ _ hq hst
 |ret=>exact hk _ _ _ _ _ hq hst
def c5X(c:AV)(x y:Prop):Prop:=match c with
 | .bool true=>x
 | .bool false=>y
 |_=>False
theorem c0L{c:Operand}{x y:Code}{T:List AV}{H:AHeap}{Q:r4→List AV→AHeap→Prop}
  (h:c5X (o0 T c) (G8 P E w0 x T H Q) (G8 P E w0 y T H Q)):G8 P E w0 (.cond c x y) T H Q:=by
 intro w ρ a R hR hf hT hk hp
 have hr:=a4n hT c
 unfold c5X at h
 split at h
 ·rename_i e;rw[e]at hr;simp only[rel]at hr
  exact wp_cond hr (h w ρ a R hR hf hT hk hp)
 ·rename_i e;rw[e]at hr;simp only[rel]at hr
  exact wp_cond hr (h w ρ a R hR hf hT hk hp)
 ·cases h
def c7Y(id:Nat)(Q:r4→List AV→AHeap→Prop):r4→List AV→AHeap→Prop
 | .exit id',T,H=>if id'=id then Q .normal T H else Q (.exit id') T H
 |e,T,H=>Q e T H
theorem c6v{id:Nat}{x:Code}{T:List AV}{H:AHeap}{Q:r4→List AV→AHeap→Prop}(h:G8 P E w0 x T H (c7Y id Q)):G8 P E w0 (.block id x) T H Q:=by
 intro w ρ a R hR hf hT hk hp
 refine wp_block (h w ρ a _ hR hf hT ?_ hp)
 intro ex T' H' a' w' hq hst
 cases ex with
 |normal=>exact hk _ _ _ _ _ hq hst
 |ret=>exact hk _ _ _ _ _ hq hst
 |exit id'=>
  simp only[c7Y]at hq
  simp only[d2q,Exit.inBlock]
  split
  ·rename_i e;rw[if_pos e]at hq;exact hk .normal _ _ _ _ hq hst
  ·rename_i e;rw[if_neg e]at hq;exact hk (.exit id') _ _ _ _ hq hst
theorem c8c{c:Code}{Q:r4→List AV→AHeap→Prop}{I:Nat→List AV→AHeap→Prop}
  (step:∀n T H,I n T H→G8 P E w0 c T H fun ex T' H'=>match ex with| .normal=>∃m,m<n∧I m T' H'|e=>Q e T' H')
  {n:Nat} {T:List AV} {H:AHeap} (h:I n T H):G8 P E w0 (.loop c) T H Q:=by
 have main:∀(k n:Nat) (T:List AV) (H:AHeap),n<k→I n T H→∀(w:World) (ρ:B4) (a:Act) (R:Exit→Act→World→Prop),G9 E w0 H w ρ→P8 ρ H→t9 ρ T a.tmps.toList→
   (∀ex T' H' a' w',Q ex T' H'→StA E w0 H ρ a.defers T' H' a' w'→R (d2q ex) a' w')→c0t E w0 H ρ a.defers R→Code.rounds P c R k a w:=by
  intro k
  induction k with
  |zero=>intro n T H hn;omega
  |succ k ih=>
   intro n T H hn hI w ρ a R hR hf hT hk hp
   rw[rounds_succ]
   refine step n T H hI w ρ a _ hR hf hT ?_ hp
   intro ex T' H' a' w' hq hst
   cases ex with
   |normal=>
    obtain⟨m,hm,hI'⟩:=hq
    obtain⟨ρ',g1,g2,g3,g4,g5⟩:=hst.fresh hf
    refine ih m T' H' (by omega) hI' w' ρ' a' R g4 g2 g3 ?_ (by rw[g5];exact hp.trans g1)
    intro ex T2 H2 a2 w2 hq2 hst2
    rw[g5]at hst2
    exact hk _ _ _ _ _ hq2 (StA.trans g1 hst2)
   |exit id=>exact hk _ _ _ _ _ hq hst
   |ret=>exact hk _ _ _ _ _ hq hst
 intro w ρ a R hR hf hT hk hp
 exact wp_loop_rounds (n+1) (main (n+1) n T H (by omega) h w ρ a R hR hf hT hk hp)
def a9{α:Type}(x:Option α)(Q:α→Prop):Prop:=match x with
 |some v=>Q v
 |none=>False
def R9(P:Program)(E:m6)(H:AHeap)(T:List AV):List ResultVar→(List AV→Prop)→Prop
 | [],K=>K []
 | .tmp t::l,K=>R9 P E H T l fun vs=>K (T.getD t A0::vs)
 | .cell a t::l,K=>match T.getD a A0 with
  | .ptr o i=>a9 (M4 P E H t o i) fun v=>R9 P E H T l fun vs=>K (v::vs)
  |_=>False
def b3y:List AV→AV
 | [v]=>v
 |vs=> .tup vs
theorem a9f{H:AHeap}{T:List AV}:∀ {l:List ResultVar} {K:List AV→Prop},R9 P E H T l K→∃vs,K vs∧l.mapM (fun
  | .tmp t=>some (T.getD t A0)
  | .cell a t=>match T.getD a A0 with
   | .ptr o i=>M4 P E H t o i
   |_=>none:ResultVar→Option AV)=some vs
 | [],K,h=>⟨[],h,rfl⟩
 | .tmp t::l,K,h=>by
  obtain⟨vs,h1,h2⟩:=a9f (l:=l) h
  exact⟨_,h1,by simp only[List.mapM_cons,h2];rfl⟩
 | .cell a t::l,K,h=>by
  simp only[R9]at h
  split at h
  ·rename_i o i e
   unfold a9 at h
   split at h
   ·rename_i v hv
    obtain⟨vs,h1,h2⟩:=a9f (l:=l) h
    exact⟨_,h1,by simp only[List.mapM_cons,h2,e,hv];rfl⟩
   ·cases h
  ·cases h
theorem c0E{H:AHeap}{T:List AV}{fn:Func}{K:List AV→Prop}(h:R9 P E H T fn.results.toList K):∃vs,K vs∧b4O P E H fn T=some (b3y vs):=by
 obtain⟨vs,h1,h2⟩:=a9f h
 refine⟨vs,h1, ?_⟩
 unfold b4O
 erw [h2]
 simp only[Option.bind_eq_bind,Option.bind_some]
 unfold b3y
 split<;>rename_i h3<;>split<;>rename_i h4<;>simp_all
def d5s(P:Program)(E:m6)(fn:Func)(Q:AV→AHeap→Prop):r4→List AV→AHeap→Prop
 | .exit _,_,_=>False
 |_,T,H=>R9 P E H T fn.results.toList fun vs=>Q (b3y vs) H
theorem c5q{f:FuncId}{fn:Func}{c:Code}(hfn:P.funcs[f]? =some fn)(hb:fn.body=some c){args:List AV}{H:AHeap}{Q:AV→AHeap→Prop}
  (h:G8 P E w0 c (args++List.replicate (fn.ntmps - args.length) A0) H (d5s P E fn Q)):FnW P E w0 f args H Q:=by
 intro w ρ vargs R hf hr
 refine calls_of_wp hfn hb ?_
 refine h w ρ { tmps:=vargs++Array.replicate (fn.ntmps - vargs.size) undef,defers:=[] } _ R hf ?_ ?_ ?_
 ·have hl:=w7 hr
  simp only[Array.length_toList]at hl
  rw[Array.toList_append,Array.toList_replicate, ←hl]
  refine N9 hr ?_
  generalize fn.ntmps - args.length=m
  induction m with
  |zero=>exact t8.2 rfl
  |succ m ihm=>exact r0.2 ⟨a3u,ihm⟩
 ·intro ex T' H' a' w' hq ⟨ρ',g1,g2,g3,g4⟩
  have main:(ex= .normal∨ex= .ret)→bodyPost P fn (b3W E w0 ρ H Q) (d2q ex) a' w':=by
   intro hex
   have hq':R9 P E H' T' fn.results.toList fun vs=>Q (b3y vs) H':=by rcases hex with rfl|rfl<;>exact hq
   obtain⟨vs,h1,h2⟩:=c0E hq'
   obtain⟨u,k1,k2⟩:=b2s (P:=P) g3 h2 g2
   have:bodyPost P fn (b3W E w0 ρ H Q) .normal a' w':=
    ⟨g4,u,k1,ρ',_,H',h1,g1,k2,g3⟩
   rcases hex with rfl|rfl
   ·exact this
   ·exact this
  cases ex with
  |normal=>exact main (.inl rfl)
  |ret=>exact main (.inr rfl)
  |exit id=>exact hq.elim
 ·exact fun u v ρ' H' a' w' h1 h2 h3 h4 h5=>⟨h5,u,ρ',v,H',rfl,h1,h2,h3,h4⟩
theorem c4z{f:FuncId}{args:List AV}{Q:AV→AHeap→Prop}{W:World}(h:FnW P E (b7D W) f args AHeap.empty Q){vargs:Array Value}
  (hE:∀b cs,E b=some cs→b<W.heap.size∧∃arr el fr,W.heap[b]? =some (.cells arr el fr)∧t9 (fun _=>none) cs arr.toList) (hargs:t9 (fun _=>none) args vargs.toList):
  Calls P f vargs W fun e w=>∃u ρ v H',e= .returned u∧Q v H'∧rel ρ v u∧W.heap.size≤w.heap.size∧b9b W w:=by
 refine Calls.mono (h W (fun _=>none) vargs (G9.start E W hE) (fun _ _=>rfl) hargs) ?_
 intro e w he
 cases e with
 |returned u=>
  obtain⟨ρ,v,H',g1,_,g3,g4⟩:=he
  exact⟨u,ρ,v,H',rfl,g1,g3,g4.size,g4.side.1,g4.side.2,g4.old⟩
 |panicked c=>obtain⟨_,_,_,_,_,h,_⟩:=he;exact h.elim
 |outgrown=>exact he.elim
theorem c3P{f:FuncId}{args:List AV}{W:World}(h:FnW P E (b7D W) f args AHeap.empty fun v _=>v= .bool true){vargs:Array Value}
  (hE:∀b cs,E b=some cs→b<W.heap.size∧∃arr el fr,W.heap[b]? =some (.cells arr el fr)∧t9 (fun _=>none) cs arr.toList) (hargs:t9 (fun _=>none) args vargs.toList):
  Calls P f vargs W fun e w=>e= .returned (.bool true)∧b9b W w:=by
 refine Calls.mono (c4z h hE hargs) ?_
 rintro e w ⟨u,ρ,v,H',rfl,rfl,hr,_,hk⟩
 simp only[rel]at hr
 exact⟨by rw[hr],hk⟩
end
end Go.Am
end
