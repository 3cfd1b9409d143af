/-
  ImageOnceSaid: part Nah of its proof.
-/
import Derived.Test.YtchnpgddpaonhaaNag
set_option linter.unusedVariables false
set_option linter.unusedSimpArgs false
set_option maxRecDepth 100000
section
namespace Go.Am
structure a5H where
 w:World
 X:AV→AHeap→Prop
instance:Coe a5H World:=⟨a5H.w⟩
def b7j(w:World):a5H:=⟨w,fun _ _=>False⟩
section
variable(P:Program)(E:l9)(w0:a5H)
def O5(ρ:A6)(H:AHeap):Prop:=∀k,H.next≤k→ρ k=none
def Nx(ρ ρ':A6)(H H':AHeap):Prop:=Ext ρ ρ'∧H.next≤H'.next∧∀k,¬(H.next≤k∧k<H'.next)→ρ' k=ρ k
def a6C(u:Value):List PanicEntry:=[{ v:=u,recovered:=false }]
def b3p(ρ:A6)(H:AHeap)(Q:AV→AHeap→Prop):Ending→World→Prop
 | .returned u,w'=>∃ρ' v H',Q v H'∧Nx ρ ρ' H H'∧rel ρ' v u∧G6 E w0 H' w' ρ'
 | .panicked c,w'=>∃u ρ' v H',c=a6C u∧w0.X v H'∧Nx ρ ρ' H H'∧rel ρ' v u∧G6 E w0 H' w' ρ'
 | .outgrown,_=>False
def FnW(f:FuncId)(args:List AV)(H:AHeap)(Q:AV→AHeap→Prop):Prop:=
 ∀(w:World) (ρ:A6) (vargs:Array Value),G6 E w0 H w ρ→O5 ρ H→s6 ρ args vargs.toList→Calls P f vargs w (b3p E w0 ρ H Q)
def c5W(T:List AV)(H:AHeap)(o:Oper):Prop:=match o.op with
 | .panic x=>(∃t v,m8 T x= .ifc t v)∧w0.X (m8 T x) H
 |_=>False
def c0K(T:List AV)(H:AHeap)(o:Oper)(r:Option a0S)(Q:AV→AHeap→Prop):Prop:=match r with
 |some (.val v H')=>Q v H'
 |some (.call f args H')=>FnW P E w0 f args H' Q
 |none=>c5W w0 T H o
def d1N(g:AV)(want:Bool):Option Bool:=match g with
 | .bool b=>some (b==want)
 | .opq _=>none
 |_=>some false
def a6T(r:Option Bool)(s:(AV→AHeap→Prop)→Prop)(H:AHeap)(Q:AV→AHeap→Prop):Prop:=match r with
 |some true=>s Q
 |some false=>Q y9 H
 |none=>False
def a2I(ops:Array Oper)(T:List AV)(H:AHeap)(o:Oper)(Q:AV→AHeap→Prop):Prop:=
 a6T (a0y ops T o) (c0K P E w0 T H o (opA P E T H o)) H Q
def c5J(ops:Array Oper):List Oper→List AV→AHeap→(List AV→AHeap→Prop)→Prop
 | [],T,H,Q=>Q T H
 |o::l,T,H,Q=>a2I P E w0 ops T H o fun v H'=>c5J ops l (a2q T o.dst v) H' Q
def StA(H:AHeap)(ρ:A6)(ds:List Deferred)(T':List AV)(H':AHeap)(a':Act)(w':World):Prop:=
 ∃ρ',Nx ρ ρ' H H'∧s6 ρ' T' a'.tmps.toList∧G6 E w0 H' w' ρ'∧a'.defers=ds
def b9f(H:AHeap)(ρ:A6)(ds:List Deferred)(R:Exit→Act→World→Prop):Prop:=
 ∀u v ρ' H' a' w',w0.X v H'→Nx ρ ρ' H H'→rel ρ' v u→G6 E w0 H' w' ρ'→a'.defers=ds→R (.panic (a6C u)) a' w'
def G4(c:Code)(T:List AV)(H:AHeap)(Q:r0→List AV→AHeap→Prop):Prop:=
 ∀(w:World) (ρ:A6) (a:Act) (R:Exit→Act→World→Prop),G6 E w0 H w ρ→O5 ρ H→s6 ρ T a.tmps.toList→
  (∀ex T' H' a' w',Q ex T' H'→StA E w0 H ρ a.defers T' H' a' w'→R (d0Y ex) a' w')→b9f E w0 H ρ a.defers R→c.wp P R a w
end
section
variable{P:Program}{E:l9}{w0:a5H}
theorem Nx.refl(ρ:A6)(H:AHeap):Nx ρ ρ H H:=⟨Ext.refl _,Nat.le_refl _,fun _ _=>rfl⟩
theorem Nx.trans{ρ ρ1 ρ2:A6}{H H1 H2:AHeap}(h:Nx ρ ρ1 H H1)(h':Nx ρ1 ρ2 H1 H2):Nx ρ ρ2 H H2:=by
 obtain⟨a,b,c⟩:=h
 obtain⟨a',b',c'⟩:=h'
 exact⟨a.trans a',by omega,fun k hk=>by rw[c' k (by omega),c k (by omega)]⟩
theorem O5.step{ρ ρ':A6}{H H':AHeap}(h:O5 ρ H)(h':Nx ρ ρ' H H'):O5 ρ' H':=fun k hk=>by
 obtain⟨_,b,c⟩:=h'
 rw[c k (by omega),h k (by omega)]
theorem O5.fresh{ρ:A6}{H H':AHeap}(h:O5 ρ H):a2X ρ H H':=fun k hk _=>h k hk
theorem StA.trans{H0 H1 H2:AHeap}{ρ0 ρ1:A6}{ds:List Deferred}{T:List AV}{a:Act}{w:World}(h1:Nx ρ0 ρ1 H0 H1)(h:StA E w0 H1 ρ1 ds T H2 a w):StA E w0 H0 ρ0 ds T H2 a w:=by
 obtain⟨ρ,g1,g2,g3,g4⟩:=h
 exact⟨ρ,h1.trans g1,g2,g3,g4⟩
theorem StA.fresh{H0 H:AHeap}{ρ0:A6}{ds:List Deferred}{T:List AV}{a:Act}{w:World}(h:StA E w0 H0 ρ0 ds T H a w)(hf:O5 ρ0 H0):
  ∃ρ,Nx ρ0 ρ H0 H∧O5 ρ H∧s6 ρ T a.tmps.toList∧G6 E w0 H w ρ∧a.defers=ds:=by
 obtain⟨ρ,g1,g2,g3,g4⟩:=h
 exact⟨ρ,g1,hf.step g1,g2,g3,g4⟩
theorem b9f.trans{H0 H:AHeap}{ρ0 ρ:A6}{ds:List Deferred}{R:Exit→Act→World→Prop}(h:b9f E w0 H0 ρ0 ds R)(h1:Nx ρ0 ρ H0 H):b9f E w0 H ρ ds R:=fun u v ρ' H' a' w' hx hn=>h u v ρ' H' a' w' hx (h1.trans hn)
theorem b3p.mono{ρ:A6}{H:AHeap}{Q Q':AV→AHeap→Prop}(hq:∀v H',Q v H'→Q' v H'){e:Ending}{w:World}(h:b3p E w0 ρ H Q e w):b3p E w0 ρ H Q' e w:=by
 cases e with
 |returned u=>
  obtain⟨ρ',v,H',h2,h3⟩:=h
  exact⟨ρ',v,H',hq _ _ h2,h3⟩
 |panicked c=>exact h
 |outgrown=>exact h
theorem FnW.mono{f:FuncId}{args:List AV}{H:AHeap}{Q Q':AV→AHeap→Prop}(h:FnW P E w0 f args H Q)(hq:∀v H',Q v H'→Q' v H'):FnW P E w0 f args H Q':=
 fun w ρ vargs R hf hr=>Calls.mono (h w ρ vargs R hf hr) fun e w' he=>he.mono hq
theorem G4.mono{c:Code}{T:List AV}{H:AHeap}{Q Q':r0→List AV→AHeap→Prop}(h:G4 P E w0 c T H Q)(hq:∀ex T' H',Q ex T' H'→Q' ex T' H'):G4 P E w0 c T H Q':=
 fun w ρ a R hR hf hT hk hp=>h w ρ a R hR hf hT (fun ex T' H' a' w' hQ=>hk ex T' H' a' w' (hq _ _ _ hQ)) hp
theorem c8C{T:List AV}{H:AHeap}{o:Oper}{r:Option a0S}{Q Q':AV→AHeap→Prop}(h:c0K P E w0 T H o r Q)(hq:∀v H',Q v H'→Q' v H'):c0K P E w0 T H o r Q':=by
 unfold c0K at*
 split
 ·exact hq _ _ h
 ·exact FnW.mono h hq
 ·exact h
theorem a3l{ops:Array Oper}{T:List AV}{H:AHeap}{o:Oper}{Q Q':AV→AHeap→Prop}(h:a2I P E w0 ops T H o Q)(hq:∀v H',Q v H'→Q' v H'):a2I P E w0 ops T H o Q':=by
 unfold a2I a6T at*
 split<;>rename_i e<;>rw[e]at h
 ·exact c8C h hq
 ·exact hq _ _ h
 ·exact h
theorem b1C{ops:Array Oper}{T:List AV}{H:AHeap}{o:Oper}{Q:AV→AHeap→Prop}(h:a2I P E w0 ops T H o Q){i:Nat}(ho:ops[i]? =some o)
  {w:World} {ρ:A6} (R:G6 E w0 H w ρ) {a:Act} (hT:s6 ρ T a.tmps.toList) (hf:O5 ρ H) {K:Act→World→Prop} {S:Exit→Act→World→Prop}
  (hK:∀v H' ρ' vv w',Q v H'→Nx ρ ρ' H H'→rel ρ' v vv→G6 E w0 H' w' ρ'→K (a.put o.dst vv) w') (hP:b9f E w0 H ρ a.defers S):wpOp P ops S i K a w:=by
 unfold wpOp
 rw[ho]
 simp only
 unfold a2I a6T at h
 split at h
 ·rename_i hw
  rw[a8q hw hT,if_pos rfl]
  left
  unfold Oper.wp
  unfold c0K at h
  split at h
  ·rename_i v1 H1 h1
   obtain⟨nx,vv,w',ρ',g1,g2,g3,g4,g5,g6,g7⟩:=b1Q R h1 (a4e hT) hf.fresh
   rw[g1]
   rcases g2 with rfl|⟨rfl,rfl⟩
   ·exact hK _ _ ρ' vv w' h ⟨g3,g7,g4⟩ g5 g6
   ·exact hK _ _ ρ' undef w' h ⟨g3,g7,g4⟩ g5 g6
  ·rename_i f args H1 h1
   obtain⟨rfl,vargs,g1,g2⟩:=b1Q R h1 (a4e hT)
   rw[g1]
   refine Calls.mono (h w ρ vargs R hf g2) ?_
   intro e w' he
   cases e with
   |returned u=>
    obtain⟨ρ',v,H',k1,k2,k3,k4⟩:=he
    exact hK _ _ ρ' u w' k1 k2 k3 k4
   |panicked c=>
    obtain⟨u,ρ',v,H',rfl,k1,k2,k3,k4⟩:=he
    exact hP u v ρ' H' a w' k1 k2 k3 k4 rfl
   |outgrown=>exact he.elim
  ·unfold c5W at h
   split at h
   ·rename_i x hx
    obtain⟨⟨t,v,e⟩,hX⟩:=h
    have hr:=a4e hT x
    rw[e]at hr hX
    have hr':=hr
    simp only[rel]at hr
    obtain⟨y,hy,_⟩:=hr
    have hrun:(execOp a.eval o).run P w= .halt (.panic (.iface t y)) w:=by
     obtain⟨dst,op,ty,pos,after,guard⟩:=o
     simp only at hx
     subst hx
     simp only[execOp,hy]
     rfl
    rw[hrun,Oper.upon_panic]
    rw[hy]at hr'
    exact hP _ _ ρ H a w hX (Nx.refl _ _) hr' R rfl
   ·cases h
 ·rename_i hw
  rw[a8q hw hT,if_neg Bool.false_ne_true]
  exact hK _ _ ρ undef w h (Nx.refl _ _) a3d R
 ·cases h
theorem b8T{ops:Array Oper}{S:Exit→Act→World→Prop}:∀(l:List Oper) (i:Nat) (T:List AV) (H:AHeap) (Q:List AV→AHeap→Prop),c5J P E w0 ops l T H Q→ops.toList.drop i=l→
  ∀(w:World) (ρ:A6) (a:Act),G6 E w0 H w ρ→s6 ρ T a.tmps.toList→O5 ρ H→(∀T' H' a' w',Q T' H'→StA E w0 H ρ a.defers T' H' a' w'→S .normal a' w')→b9f E w0 H ρ a.defers S→
   wpOps P ops S (List.range' i l.length) a w
 | [],i,T,H,Q,h,_,w,ρ,a,R,hT,hf,hQ,hP=>by
  simp only[List.length_nil,List.range'_zero,wpOps]
  exact hQ T H a w h ⟨ρ,Nx.refl _ _,hT,R,rfl⟩
 |o::l,i,T,H,Q,h,hl,w,ρ,a,R,hT,hf,hQ,hP=>by
  have hdr:ops.toList.drop (i+1)=l:=by
   have:=congrArg List.tail hl
   rw[List.tail_drop]at this
   exact this
  have ho:ops[i]? =some o:=by
   have:(ops.toList.drop i)[0]? =some o:=by rw[hl];rfl
   rw[List.getElem?_drop]at this
   simpa using this
  have hlen:(List.range' i (o::l).length)=i::List.range' (i+1) l.length:=by
   simp[List.range'_succ]
  rw[hlen,wpOps_cons]
  refine b1C h ho R hT hf ?_ hP
  intro v H1 ρ' vv w' g0 g1 g2 g3
  refine b8T l (i+1) _ _ _ g0 hdr w' ρ' _ g3 (a8c (J9 g1.1 _ _ hT) g2) (hf.step g1) ?_ (by rw[Z9];exact hP.trans g1)
  intro T' H' a' w'' hq hst
  rw[Z9]at hst
  exact hQ T' H' a' w'' hq (StA.trans g1 hst)
theorem c5X{T:List AV}{H:AHeap}{Q:r0→List AV→AHeap→Prop}(h:Q .normal T H):G4 P E w0 .skip T H Q:=
 fun w ρ a R hR hf hT hk _=>wp_skip (hk _ _ _ _ _ h ⟨ρ,Nx.refl _ _,hT,hR,rfl⟩)
theorem c4y{l:Nat}{T:List AV}{H:AHeap}{Q:r0→List AV→AHeap→Prop}(h:Q .normal T H):G4 P E w0 (.label l) T H Q:=
 fun w ρ a R hR hf hT hk _=>wp_label (hk _ _ _ _ _ h ⟨ρ,Nx.refl _ _,hT,hR,rfl⟩)
theorem c8b{T:List AV}{H:AHeap}{Q:r0→List AV→AHeap→Prop}(h:Q .ret T H):G4 P E w0 .ret T H Q:=
 fun w ρ a R hR hf hT hk _=>wp_ret (hk _ _ _ _ _ h ⟨ρ,Nx.refl _ _,hT,hR,rfl⟩)
theorem c6F{id:Nat}{T:List AV}{H:AHeap}{Q:r0→List AV→AHeap→Prop}(h:Q (.exit id) T H):G4 P E w0 (.exit id) T H Q:=
 fun w ρ a R hR hf hT hk _=>wp_exit (hk _ _ _ _ _ h ⟨ρ,Nx.refl _ _,hT,hR,rfl⟩)
theorem c3u{id:Nat}{ops:Array Oper}{T:List AV}{H:AHeap}{Q:r0→List AV→AHeap→Prop}(h:c5J P E w0 ops ops.toList T H (Q .normal)):G4 P E w0 (.region id ops false) T H Q:=by
 intro w ρ a R hR hf hT hk hp
 refine wp_region ?_
 have:=b8T (S:=R) ops.toList 0 T H _ h rfl w ρ a hR hT hf (fun T' H' a' w' hq hst=>hk _ _ _ _ _ hq hst) hp
 rwa [List.range_eq_range', ←Array.length_toList]
theorem c8m{x y:Code}{T:List AV}{H:AHeap}{Q:r0→List AV→AHeap→Prop}
  (h:G4 P E w0 x T H fun ex T' H'=>match ex with| .normal=>G4 P E w0 y T' H' Q|e=>Q e T' H'):G4 P E w0 (.seq x y) T H Q:=by
 intro w ρ a R hR hf hT hk hp
 refine wp_seq (h w ρ a _ hR hf hT ?_ hp)
 intro ex T' H' a' w' hq hst
 cases ex with
 |normal=>
  obtain⟨ρ',g1,g2,g3,g4,g5⟩:=hst.fresh hf
  refine hq w' ρ' a' R g4 g2 g3 ?_ (by rw[g5];exact hp.trans g1)
  intro ex T2 H2 a2 w2 hq2 hst2
  rw[g5]at hst2
  exact hk _ _ _ _ _ hq2 (StA.trans g1 hst2)
 |exit id=>exact hk _ _ _ _ _ hq hst
 |ret=>exact hk _ _ _ _ _ hq hst
def c4v(c:AV)(x y:Prop):Prop:=match c with
 | .bool true=>x
 | .bool false=>y
 |_=>False
theorem c0w{c:Operand}{x y:Code}{T:List AV}{H:AHeap}{Q:r0→List AV→AHeap→Prop}
  (h:c4v (m8 T c) (G4 P E w0 x T H Q) (G4 P E w0 y T H Q)):G4 P E w0 (.cond c x y) T H Q:=by
 intro w ρ a R hR hf hT hk hp
 have hr:=a4e hT c
 unfold c4v at h
 split at h
 ·rename_i e;rw[e]at hr;simp only[rel]at hr
  exact wp_cond hr (h w ρ a R hR hf hT hk hp)
 ·rename_i e;rw[e]at hr;simp only[rel]at hr
  exact wp_cond hr (h w ρ a R hR hf hT hk hp)
 ·cases h
def c5P(id:Nat)(Q:r0→List AV→AHeap→Prop):r0→List AV→AHeap→Prop
 | .exit id',T,H=>if id'=id then Q .normal T H else Q (.exit id') T H
 |e,T,H=>Q e T H
theorem c5r{id:Nat}{x:Code}{T:List AV}{H:AHeap}{Q:r0→List AV→AHeap→Prop}(h:G4 P E w0 x T H (c5P id Q)):G4 P E w0 (.block id x) T H Q:=by
 intro w ρ a R hR hf hT hk hp
 refine wp_block (h w ρ a _ hR hf hT ?_ hp)
 intro ex T' H' a' w' hq hst
 cases ex with
 |normal=>exact hk _ _ _ _ _ hq hst
 |ret=>exact hk _ _ _ _ _ hq hst
 |exit id'=>
  simp only[c5P]at hq
  simp only[d0Y,Exit.inBlock]
  split
  ·rename_i e;rw[if_pos e]at hq;exact hk .normal _ _ _ _ hq hst
  ·rename_i e;rw[if_neg e]at hq;exact hk (.exit id') _ _ _ _ hq hst
theorem c6i{c:Code}{Q:r0→List AV→AHeap→Prop}{I:Nat→List AV→AHeap→Prop}
  (step:∀n T H,I n T H→G4 P E w0 c T H fun ex T' H'=>match ex with| .normal=>∃m,m<n∧I m T' H'|e=>Q e T' H')
  {n:Nat} {T:List AV} {H:AHeap} (h:I n T H):G4 P E w0 (.loop c) T H Q:=by
 have main:∀(k n:Nat) (T:List AV) (H:AHeap),n<k→I n T H→∀(w:World) (ρ:A6) (a:Act) (R:Exit→Act→World→Prop),G6 E w0 H w ρ→O5 ρ H→s6 ρ T a.tmps.toList→
   (∀ex T' H' a' w',Q ex T' H'→StA E w0 H ρ a.defers T' H' a' w'→R (d0Y ex) a' w')→b9f E w0 H ρ a.defers R→Code.rounds P c R k a w:=by
  intro k
  induction k with
  |zero=>intro n T H hn;omega
  |succ k ih=>
   intro n T H hn hI w ρ a R hR hf hT hk hp
   rw[rounds_succ]
   refine step n T H hI w ρ a _ hR hf hT ?_ hp
   intro ex T' H' a' w' hq hst
   cases ex with
   |normal=>
    obtain⟨m,hm,hI'⟩:=hq
    obtain⟨ρ',g1,g2,g3,g4,g5⟩:=hst.fresh hf
    refine ih m T' H' (by omega) hI' w' ρ' a' R g4 g2 g3 ?_ (by rw[g5];exact hp.trans g1)
    intro ex T2 H2 a2 w2 hq2 hst2
    rw[g5]at hst2
    exact hk _ _ _ _ _ hq2 (StA.trans g1 hst2)
   |exit id=>exact hk _ _ _ _ _ hq hst
   |ret=>exact hk _ _ _ _ _ hq hst
 intro w ρ a R hR hf hT hk hp
 exact wp_loop_rounds (n+1) (main (n+1) n T H (by omega) h w ρ a R hR hf hT hk hp)
def a9{α:Type}(x:Option α)(Q:α→Prop):Prop:=match x with
 |some v=>Q v
 |none=>False
def Q1(P:Program)(E:l9)(H:AHeap)(T:List AV):List ResultVar→(List AV→Prop)→Prop
 | [],K=>K []
 | .tmp t::l,K=>Q1 P E H T l fun vs=>K (T.getD t y9::vs)
 | .cell a t::l,K=>match T.getD a y9 with
  | .ptr o i=>a9 (L6 P E H t o i) fun v=>Q1 P E H T l fun vs=>K (v::vs)
  |_=>False
def b2E:List AV→AV
 | [v]=>v
 |vs=> .tup vs
theorem a9r{H:AHeap}{T:List AV}:∀ {l:List ResultVar} {K:List AV→Prop},Q1 P E H T l K→∃vs,K vs∧l.mapM (fun
  | .tmp t=>some (T.getD t y9)
  | .cell a t=>match T.getD a y9 with
   | .ptr o i=>L6 P E H t o i
   |_=>none:ResultVar→Option AV)=some vs
 | [],K,h=>⟨[],h,rfl⟩
 | .tmp t::l,K,h=>by
  obtain⟨vs,h1,h2⟩:=a9r (l:=l) h
  exact⟨_,h1,by simp only[List.mapM_cons,h2];rfl⟩
 | .cell a t::l,K,h=>by
  simp only[Q1]at h
  split at h
  ·rename_i o i e
   unfold a9 at h
   split at h
   ·rename_i v hv
    obtain⟨vs,h1,h2⟩:=a9r (l:=l) h
    exact⟨_,h1,by simp only[List.mapM_cons,h2,e,hv];rfl⟩
   ·cases h
  ·cases h
theorem b9X{H:AHeap}{T:List AV}{fn:Func}{K:List AV→Prop}(h:Q1 P E H T fn.results.toList K):∃vs,K vs∧b5m P E H fn T=some (b2E vs):=by
 obtain⟨vs,h1,h2⟩:=a9r h
 refine⟨vs,h1, ?_⟩
 unfold b5m
 erw [h2]
 simp only[Option.bind_eq_bind,Option.bind_some]
 unfold b2E
 split<;>rename_i h3<;>split<;>rename_i h4<;>simp_all
def d3B(P:Program)(E:l9)(fn:Func)(Q:AV→AHeap→Prop):r0→List AV→AHeap→Prop
 | .exit _,_,_=>False
 |_,T,H=>Q1 P E H T fn.results.toList fun vs=>Q (b2E vs) H
theorem c5w{f:FuncId}{fn:Func}{c:Code}(hfn:P.funcs[f]? =some fn)(hb:fn.body=some c){args:List AV}{H:AHeap}{Q:AV→AHeap→Prop}
  (h:G4 P E w0 c (args++List.replicate (fn.ntmps - args.length) y9) H (d3B P E fn Q)):FnW P E w0 f args H Q:=by
 intro w ρ vargs R hf hr
 refine calls_of_wp hfn hb ?_
 refine h w ρ { tmps:=vargs++Array.replicate (fn.ntmps - vargs.size) undef,defers:=[] } _ R hf ?_ ?_ ?_
 ·have hl:=u7 hr
  simp only[Array.length_toList]at hl
  rw[Array.toList_append,Array.toList_replicate, ←hl]
  refine M8 hr ?_
  generalize fn.ntmps - args.length=m
  induction m with
  |zero=>exact s4.2 rfl
  |succ m ihm=>exact q9.2 ⟨a3d,ihm⟩
 ·intro ex T' H' a' w' hq ⟨ρ',g1,g2,g3,g4⟩
  have main:(ex= .normal∨ex= .ret)→bodyPost P fn (b3p E w0 ρ H Q) (d0Y ex) a' w':=by
   intro hex
   have hq':Q1 P E H' T' fn.results.toList fun vs=>Q (b2E vs) H':=by rcases hex with rfl|rfl<;>exact hq
   obtain⟨vs,h1,h2⟩:=b9X hq'
   obtain⟨u,k1,k2⟩:=b0y (P:=P) g3 h2 g2
   have:bodyPost P fn (b3p E w0 ρ H Q) .normal a' w':=
    ⟨g4,u,k1,ρ',_,H',h1,g1,k2,g3⟩
   rcases hex with rfl|rfl
   ·exact this
   ·exact this
  cases ex with
  |normal=>exact main (.inl rfl)
  |ret=>exact main (.inr rfl)
  |exit id=>exact hq.elim
 ·exact fun u v ρ' H' a' w' h1 h2 h3 h4 h5=>⟨h5,u,ρ',v,H',rfl,h1,h2,h3,h4⟩
theorem c2U{f:FuncId}{args:List AV}{Q:AV→AHeap→Prop}{W:World}(h:FnW P E (b7j W) f args AHeap.empty Q){vargs:Array Value}
  (hE:∀b cs,E b=some cs→b<W.heap.size∧∃arr el fr,W.heap[b]? =some (.cells arr el fr)∧s6 (fun _=>none) cs arr.toList) (hargs:s6 (fun _=>none) args vargs.toList):
  Calls P f vargs W fun e w=>∃u ρ v H',e= .returned u∧Q v H'∧rel ρ v u∧W.heap.size≤w.heap.size∧b7E W w:=by
 refine Calls.mono (h W (fun _=>none) vargs (G6.start E W hE) (fun _ _=>rfl) hargs) ?_
 intro e w he
 cases e with
 |returned u=>
  obtain⟨ρ,v,H',g1,_,g3,g4⟩:=he
  exact⟨u,ρ,v,H',rfl,g1,g3,g4.size,g4.side.1,g4.side.2,g4.old⟩
 |panicked c=>obtain⟨_,_,_,_,_,h,_⟩:=he;exact h.elim
 |outgrown=>exact he.elim
theorem c3m{f:FuncId}{args:List AV}{W:World}(h:FnW P E (b7j W) f args AHeap.empty fun v _=>v= .bool true){vargs:Array Value}
  (hE:∀b cs,E b=some cs→b<W.heap.size∧∃arr el fr,W.heap[b]? =some (.cells arr el fr)∧s6 (fun _=>none) cs arr.toList) (hargs:s6 (fun _=>none) args vargs.toList):
  Calls P f vargs W fun e w=>e= .returned (.bool true)∧b7E W w:=by
 refine Calls.mono (c2U h hE hargs) ?_
 rintro e w ⟨u,ρ,v,H',rfl,rfl,hr,_,hk⟩
 simp only[rel]at hr
 exact⟨by rw[hr],hk⟩
end
end Go.Am
end
