/-
  TransferHeightsSaid: part Har of its proof.
-/
import Derived.Test.YtdkidgkiplcggaaHaq
import Derived.Test.YtdkidgkiplcggaaRows
import Derived.KernelRfl
set_option linter.unusedVariables false
set_option linter.unusedSimpArgs false
set_option maxRecDepth 100000
section
namespace Go.Am
section
def b8N(T:List D)(dst:Option Tmp)(v:D):List D:=match dst with
 |some d=>T.set d v
 |none=>T
def b4m:List D→(List D→Prop)→Prop
 | [],k=>k []
 |a::l,k=>b4m l fun l'=>k (a::l')
def c9H:List D→Nat→(D→Prop)→Prop
 | [],_,k=>k b9
 |a::l,n,k=>match n with
  |0=>k a
  |n+1=>c9H l n k
def b5f(T:List D)(x:Operand)(k:D→Prop):Prop:=match x with
 | .tmp t=>c9H T t k
 |x=>k (u5 T x)
def d6(g:D)(want:Bool):Option Bool:=match g with
 | .bool b=>some (b==want)
 | .any=>none
 |_=>some false
def b9B(ops:Array Oper)(T:List D)(o:Oper):Option Bool:=
 match o.guard with
 |none=>some true
 |some (j,want)=>match (ops[j]?).bind (·.dst) with
  |none=>some false
  |some d=>match T[d]? with
   |some x=>d6 x want
   |none=>some false
def d9(g:Option Bool)(r:Option D):Option D:=match g with
 |some true=>r
 |some false=>some b9
 |none=>none
def V8(r:Option Bool)(s:(D→b8→Prop)→Prop)(S:b8)(Q:D→b8→Prop):Prop:=match r with
 |some true=>s Q
 |some false=>Q b9 S
 |none=>False
def d0F(P:Program)(ops:Array Oper)(T:List D)(S:b8)(o:Oper):Option D:=d9 (b9B ops T o) (d4D P T S o)
def c9q(P:Program)(G:DW)(ops:Array Oper)(T:List D)(S:b8)(o:Oper)(K:D→b8→Prop):Prop:=V8 (b9B ops T o) (d5e P G T S o) S K
structure j8 where
 w:World
 X:D→b8→Prop
instance:Coe j8 World:=⟨j8.w⟩
def d5L(w:World):j8:=⟨w,fun _ _=>False⟩
def j8.at(E:j3)(w0:j8)(R:Fz):a7D:=⟨w0.w,fun v H'=>E0 H'∧∃R' S' d,R.le R'∧y9 E R' S' H'∧Rp E R' d v∧w0.X d S'⟩
def l8(P:Program)(E:j3)(w0:j8):DW:=fun f ds S Q=>∀R H avs,E0 H→y9 E R S H→z7 E R ds avs→FnW P E (w0.at E R) f avs H (Z9 E R Q)
def b1z(E:j3)(w0:j8)(d:D)(S:b8):Prop:=(∃t v,d= .ifc t v)∧w0.X d S
def b9w(o:Oper):Option Operand:=match o.guard with
 |none=>match o.op with
  | .panic x=>some x
  |_=>none
 |some _=>none
def c2L(P:Program)(G:DW)(X:D→b8→Prop)(ops:Array Oper):List Oper→List D→b8→(List D→b8→Prop)→Prop
 | [],T,S,Q=>b4m T fun T=>Q T S
 |o::l,T,S,Q=>b4m T fun T=>match b2j o with
  |some x=>b5f T x fun e=>c2L P G X ops l (b8N T o.dst e) S Q
  |none=>match t8 P o with
  |0|1=>b7 (d0F P ops T S o) fun v=>c2L P G X ops l (b8N T o.dst v) S Q
  |_=>match b9w o with
   |some x=>b5f T x fun e=>X e S
   |none=>c9q P G ops T S o fun v S'=>c2L P G X ops l (b8N T o.dst v) S' Q
def o4(x:D)(S S':b8):Prop:=match b5y x with
 |some k=>S' k=S k
 |none=>True
def c4W(x:D)(S S':b8):Prop:=match b5M x with
 |some k=>S' k=S k
 |none=>True
def b7D(P:Program)(T:List D)(o:Oper)(S S':b8):Prop:=match o.op with
 | .load _ a=>o4 (u5 T a) S S'
 | .convert _ _ x=>o4 (u5 T x) S S'
 | .lookup _ x _ _=>c4W (u5 T x) S S'
 | .call c=>if d3C P c then c4W (c0J T c) S S' else True
 |_=>True
def b6v(P:Program)(o:Oper):Bool:=match o.op with
 | .load .. | .convert .. | .lookup .. =>true
 | .call c=>d3C P c
 |_=>false
def b6Y(P:Program)(S':b8)(anc:Nat)(K:Prop):Nat→List (Oper×List D×b8)→Prop
 |_,[]=>K
 |j,d::ds=>if(t8 P d.1==1&&b6v P d.1)&& !anc.testBit j then b7D P d.2.1 d.1 d.2.2 S'∧b6Y P S' anc K (j+1) ds else b6Y P S' anc K (j+1) ds
def b4D(P:Program)(G:DW)(X:D→b8→Prop)(ops:Array Oper):List s6→List (Oper×List D×b8)→List D→b8→(List D→b8→Prop)→Prop
 | [],_,T,S,Q=>b4m T fun T=>Q T S
 |s::l,ds,T,S,Q=>b4m T fun T=>match b2j s.o with
  |some x=>b5f T x fun e=>b4D P G X ops l (ds++[(s.o,T,S)]) (b8N T s.o.dst e) S Q
  |none=>match t8 P s.o with
  |0|1=>b7 (d0F P ops T S s.o) fun v=>b4D P G X ops l (ds++[(s.o,T,S)]) (b8N T s.o.dst v) S Q
  |_=>match b9w s.o with
   |some x=>b5f T x fun e=>X e S
   |none=>c9q P G ops T S s.o fun v S'=>b6Y P S' s.anc (b4D P G X ops l (ds++[(s.o,T,S)]) (b8N T s.o.dst v) S' Q) 0 ds
section
variable{P:Program}{E:j3}{w0:j8}
theorem a7J:∀ {T:List D} {k:List D→Prop},b4m T k=k T
 | [],k=>rfl
 |a::l,k=>by simp only[b4m];rw[a7J]
theorem c6J:∀ {T:List D} {n:Nat} {k:D→Prop},c9H T n k=k (T.getD n b9)
 | [],n,k=>rfl
 |a::l,0,k=>rfl
 |a::l,n+1,k=>by simp only[c9H];rw[c6J];simp
theorem b9P{T:List D}{x:Operand}{k:D→Prop}:b5f T x k=k (u5 T x):=by
 cases x<;>first|rfl|exact c6J
theorem b7P(T:List D)(dst:Option Tmp)(v:D):(b8N T dst v).length=T.length:=by
 cases dst with
 |none=>rfl
 |some d=>exact List.length_set
theorem c9e{R:Fz}{T:List D}{avs:List AV}(h:z7 E R T avs)(dst:Option Tmp){d:D}{v:AV}(hd:Rp E R d v):z7 E R (b8N T dst d) (a2O avs dst v):=by
 cases dst with
 |none=>exact h
 |some t=>exact h.set t hd
theorem b7a{R:Fz}{v:AV}:Rp E R .any v:=by simp only[Rp]
theorem d2D{F:FW}(hF:d2G F){T:List AV}{H:AHeap}{o:Oper}{K K':AV→AHeap→Prop}(hk:∀v H',K v H'→K' v H')(h:opW P E F T H o K):opW P E F T H o K':=by
 have o1:∀ {α:Type} {r:Option α} {f g:α→Prop},(∀x,f x→g x)→b7 r f→b7 r g:=by
  intro α r f g hfg h
  cases r with
  |none=>exact h
  |some x=>exact hfg x h
 have o2:∀ {r:Option (AV×AHeap)},a4e r K→a4e r K':=by
  intro r h
  cases r with
  |none=>exact h
  |some x=>exact hk _ _ h
 have rf:∀ {r:Option a0L},b3C F r K→b3C F r K':=by
  intro r h
  unfold b3C at*
  split
  ·exact hk _ _ h
  ·exact hF _ _ _ _ _ h hk
  ·exact h
 obtain⟨dst,op,type,pos,after,guard⟩:=o
 cases op<;>simp only[opW]at h ⊢ <;>try (first|exact o1 (fun v hv=>hk _ _ hv) h|exact o2 h)
 case box e x=>exact hk _ _ h
 case store t a x=>
  unfold c4v at*
  split at h
  ·split at h
   ·rename_i hs
    rw[if_pos hs]
    exact o1 (fun v hv=>hk _ _ hv) h
   ·exact h.elim
  ·exact h.elim
 case makeMap t r=>
  cases r with
  |none=>exact hk _ _ h
  |some x=>exact h
 case call c=>
  cases hc:c.callee with
  |value f=>
   simp only[hc]at h ⊢
   cases f with
   |func g=>
    simp only at h ⊢
    split at h
    ·rename_i hb;rw[if_pos hb];exact hF _ _ _ _ _ h hk
    ·exact h.elim
   |tmp t=>exact rf h
   |const v=>exact rf h
   |global g=>exact rf h
  |invoke r m=>
   simp only[hc]at h ⊢
   exact rf h
  |builtin b=>
   simp only[hc]at h ⊢
   generalize c.args.toList.map (m7 T)=as1 at h ⊢
   generalize c.argTypes.toList=ts at h ⊢
   cases b<;>(try simp only at h ⊢)<;>try (exact o1 (fun v hv=>hk _ _ hv) h)
   case append=>
    rcases as1 with _|⟨s,_|⟨x,_|⟨y,as1⟩⟩⟩<;>rcases ts with _|⟨sT,_|⟨xT,_|⟨u,ts⟩⟩⟩<;>first|exact o2 h|exact o1 (fun v hv=>hk _ _ hv) h
   case copy=>
    rcases as1 with _|⟨s,_|⟨x,_|⟨y,as1⟩⟩⟩<;>rcases ts with _|⟨sT,ts⟩<;>first|exact o2 h|exact o1 (fun v hv=>hk _ _ hv) h
theorem c4Z.weak{w:World}{X X':AV→AHeap→Prop}(hX:∀v H,X v H→X' v H){ρ:B0}{H:AHeap}{Q:AV→AHeap→Prop}{e:Ending}{w':World}(h:c4Z E ⟨w,X⟩ ρ H Q e w'):c4Z E ⟨w,X'⟩ ρ H Q e w':=by
 cases e with
 |returned u=>exact h
 |panicked c=>
  obtain⟨u,ρ',v,H',h1,h2,h3⟩:=h
  exact⟨u,ρ',v,H',h1,hX _ _ h2,h3⟩
 |outgrown=>exact h
theorem FnW.weak{w:World}{X X':AV→AHeap→Prop}(hX:∀v H,X v H→X' v H){f:FuncId}{args:List AV}{H:AHeap}{Q:AV→AHeap→Prop}(h:FnW P E ⟨w,X⟩ f args H Q):FnW P E ⟨w,X'⟩ f args H Q:=
 fun w ρ vargs R hf hr=>Calls.mono (h w ρ vargs R hf hr) fun e w' he=>he.weak hX
theorem L5.weak{w:World}{X X':AV→AHeap→Prop}(hX:∀v H,X v H→X' v H){c:Code}{T:List AV}{H:AHeap}{Q:o9→List AV→AHeap→Prop}(h:L5 P E ⟨w,X⟩ c T H Q):L5 P E ⟨w,X'⟩ c T H Q:=
 fun w ρ a R hR hf hT hk hp=>h w ρ a R hR hf hT hk fun u v ρ' H' a' w' hx=>hp u v ρ' H' a' w' (hX _ _ hx)
theorem j8.at_le{R R':Fz}(h:R.le R'):∀v H,(w0.at E R').X v H→(w0.at E R).X v H:=fun v H ⟨F,R1,S,d,a,b⟩=>⟨F,R1,S,d,Fz.le_trans h a,b⟩
theorem FnW.at_le{R R':Fz}(h:R.le R'){f:FuncId}{args:List AV}{H:AHeap}{Q:AV→AHeap→Prop}(hf:FnW P E (w0.at E R') f args H Q):FnW P E (w0.at E R) f args H Q:=FnW.weak (j8.at_le h) hf
theorem L5.at_le{R R':Fz}(h:R.le R'){c:Code}{T:List AV}{H:AHeap}{Q:o9→List AV→AHeap→Prop}(hf:L5 P E (w0.at E R') c T H Q):L5 P E (w0.at E R) c T H Q:=L5.weak (j8.at_le h) hf
theorem goF{R0 R:Fz}(h:R0.le R){S:b8}{H:AHeap}(F:E0 H)(hC:y9 E R S H):GoF E (FnW P E (w0.at E R0)) (l8 P E w0) R S H:=fun f ds avs K ha hf=>FnW.at_le h (hf R H avs F hC ha)
theorem c1P{w0:a7D}:d2G (FnW P E w0):=fun f args H Q Q' h hq=>h.mono hq
theorem b2f{R:Fz}{T:List D}{avs:List AV}(h:z7 E R T avs){ops:Array Oper}{o:Oper}{b:Bool}(hw:b9B ops T o=some b):a0y ops avs o=some b:=by
 unfold b9B at hw
 unfold a0y
 cases hg:o.guard with
 |none=>rw[hg]at hw;exact hw
 |some jw=>
  obtain⟨j,want⟩:=jw
  simp only[hg]at hw ⊢
  cases hd:(ops[j]?).bind (·.dst) with
  |none=>simp only[hd]at hw ⊢;exact hw
  |some d=>
   simp only[hd]at hw ⊢
   cases hx:T[d]? with
   |none=>
    have:avs[d]? =none:=List.getElem?_eq_none (by rw[h.length];exact List.getElem?_eq_none_iff.1 hx)
    simp only[hx]at hw
    simp only[this]
    exact hw
   |some x=>
    simp only[hx]at hw
    obtain⟨v,h1,h2⟩:=a5i h hx
    simp only[h1]
    cases x<;>simp only[d6]at hw<;>try (cases hw;done)
    all_goals
     simp only[Rp]at h2
     first
      |(subst h2;exact hw)
      |(rcases h2 with ⟨_,rfl⟩|⟨o,j,cap,ex,z,rfl,_⟩<;>exact hw)
      |(obtain⟨o,j,cap,ex,z,all,rfl,_⟩:=h2;exact hw)
      |(obtain⟨o,j,all,rfl,_⟩:=h2;exact hw)
      |(obtain⟨a',b',rfl,_⟩:=h2;exact hw)
      |(obtain⟨v',rfl,_⟩:=h2;exact hw)
      |(obtain⟨_,rfl⟩:=(h2:_∧_);exact hw)
      |(obtain⟨_,j,cap,ex,all,rfl,_⟩:=(h2:_∧_);exact hw)
theorem c3l{T:List D}{o:Oper}{S S':b8}(h:b7D P T o S S'){k:Nat}(hk:b0O P T o=some k):S' k=S k:=by
 unfold b0O at hk
 unfold b7D at h
 split at hk
 ·rename_i e;simp only[e,o4,hk]at h;exact h
 ·rename_i e;simp only[e,o4,hk]at h;exact h
 ·rename_i e;simp only[e,c4W,hk]at h;exact h
 ·rename_i e
  simp only[e]at h
  split at hk
  ·rename_i hl;rw[if_pos hl]at h;simp only[c4W,hk]at h;exact h
  ·cases hk
 ·cases hk
theorem c8L{T:List D}{o:Oper}{S S':b8}(h:b6v P o=false):b7D P T o S S':=by
 unfold b7D
 split
 ·rename_i e;simp[b6v,e]at h
 ·rename_i e;simp[b6v,e]at h
 ·rename_i e;simp[b6v,e]at h
 ·rename_i e;simp only[b6v,e]at h;rw[h,if_neg (by decide)];trivial
 ·trivial
theorem c9v{R:Fz}{S:b8}{H:AHeap}{T:List D}{avs:List AV}(hT:z7 E R T avs)(hC:y9 E R S H){ops:Array Oper}{o:Oper}{d:D}(h:d0F P ops T S o=some d):
  ∃v,Rp E R d v∧∀H,Agr R S (b0O P T o) H→c8h P E ops avs H o=some v:=by
 unfold d0F d9 at h
 split at h
 ·rename_i hw
  obtain⟨v,h1,h2⟩:=d2I hT hC h
  exact⟨v,h1,fun H hA=>by unfold c8h;rw[b2f hT hw];exact h2 H hA⟩
 ·rename_i hw
  cases h
  exact⟨B4,a0P,fun H hA=>by unfold c8h;rw[b2f hT hw];rfl⟩
 ·cases h
theorem c6O{F:FW}{G:DW}{R:Fz}{S:b8}{H:AHeap}(hG:GoF E F G R S H)(hF:E0 H)(hC:y9 E R S H){T:List D}{avs:List AV}(hT:z7 E R T avs){ops:Array Oper}{o:Oper}{K:D→b8→Prop}(h:c9q P G ops T S o K):c1q P E F ops avs H o (Z9 E R K):=by
 unfold c9q V8 at h
 unfold c1q
 split at h
 ·rename_i hw
  rw[b2f hT hw]
  exact d2Y hG hF hC hT h
 ·rename_i hw
  rw[b2f hT hw]
  exact⟨hF,R,S,b9,Fz.le_refl R,hC,a0P,h⟩
 ·exact h.elim
theorem b9T{F:FW}(hF:d2G F){ops:Array Oper}{T:List AV}{H:AHeap}{o:Oper}{K K':AV→AHeap→Prop}(h:c1q P E F ops T H o K)(hk:∀v H',K v H'→K' v H'):c1q P E F ops T H o K':=by
 unfold c1q a8E at*
 split<;>rename_i e<;>rw[e]at h
 ·exact d2D hF hk h
 ·exact hk _ _ h
 ·exact h
def a6Z(E:j3)(R:Fz)(n:Nat)(Q:List D→b8→Prop)(avs':List AV)(H':AHeap):Prop:=E0 H'∧∃R' S' T',R.le R'∧y9 E R' S' H'∧z7 E R' T' avs'∧T'.length=n∧Q T' S'
theorem a6Z.le{R R1:Fz}(h:R.le R1){n:Nat}{Q:List D→b8→Prop}{avs':List AV}{H':AHeap}(hp:a6Z E R1 n Q avs' H'):a6Z E R n Q avs' H':=by
 obtain⟨F,R',S',T',a,b⟩:=hp
 exact⟨F,R',S',T',Fz.le_trans h a,b⟩
theorem c8X{R0 R:Fz}(hle:R0.le R){S:b8}{H:AHeap}{T:List D}{avs:List AV}{ops:Array Oper}(F:E0 H)(hC:y9 E R S H)(hT:z7 E R T avs){o:Oper}{x:Operand}(hx:b9w o=some x)(h:b1z E w0 (u5 T x) S){Q:AV→AHeap→Prop}:a3T P E (w0.at E R0) ops avs H o Q:=by
 obtain⟨hp,h⟩:=h
 have hr:=r0 hT x
 obtain⟨dst,op,type,pos,after,guard⟩:=o
 unfold b9w at hx
 split at hx
 ·rename_i hg
  simp only at hg
  subst hg
  split at hx
  ·rename_i y hy
   simp only at hy
   subst hy
   cases hx
   unfold a3T a0y a8E c5q
   simp only[opA]
   unfold d0L
   refine⟨?_,F,R,S,u5 T x,hle,hC,hr,h⟩
   obtain⟨t,v,e⟩:=hp
   rw[e]at hr
   simp only[Rp]at hr
   obtain⟨v',e',_⟩:=hr
   exact⟨t,v',e'⟩
  ·cases hx
 ·cases hx
theorem d2u{R0:Fz}{ops:Array Oper}:∀ {l:List Oper} {T:List D} {avs:List AV} {S:b8} {H:AHeap} {R:Fz} {Q:List D→b8→Prop},R0.le R→E0 H→y9 E R S H→z7 E R T avs→c2L P (l8 P E w0) (b1z E w0) ops l T S Q→b7A P E (w0.at E R0) ops l avs H (a6Z E R T.length Q)
 | [],T,avs,S,H,R,Q,h0,F,hC,hT,h=>by
  simp only[c2L,a7J]at h
  exact⟨F,R,S,T,Fz.le_refl R,hC,hT,rfl,h⟩
 |o::l,T,avs,S,H,R,Q,h0,F,hC,hT,h=>by
  simp only[c2L,a7J,b9P]at h
  have next:∀ {d:D} {v:AV} {R':Fz} {S':b8} {H':AHeap},R.le R'→E0 H'→y9 E R' S' H'→Rp E R' d v→c2L P (l8 P E w0) (b1z E w0) ops l (b8N T o.dst d) S' Q→b7A P E (w0.at E R0) ops l (a2O avs o.dst v) H' (a6Z E R T.length Q):=by
   intro d v R' S' H' hle F' hC' hd h'
   have:=d2u (Fz.le_trans h0 hle) F' hC' (c9e (z7.le hle _ _ hT) o.dst hd) h'
   rw[b7P]at this
   exact b6P (fun _ _=>a6Z.le hle) this
  have val:t8 P o≤1→(b7 (d0F P ops T S o) fun v=>c2L P (l8 P E w0) (b1z E w0) ops l (b8N T o.dst v) S Q)→b7A P E (w0.at E R0) ops (o::l) avs H (a6Z E R T.length Q):=by
   intro hk h
   unfold b7 at h
   split at h
   ·rename_i d hd
    obtain⟨v,h1,h2⟩:=c9v hT hC hd
    rw[b7A,if_pos hk]
    exact⟨v,by rw[b4w hk];exact h2 H (hC.agr _),next (Fz.le_refl R) F hC h1 h⟩
   ·exact h.elim
  cases ha:b2j o with
  |some x=>
   simp only[ha]at h
   obtain⟨hk,hv⟩:=c2h (P:=P) (E:=E) ha
   rw[b7A,if_pos (by omega)]
   exact⟨_,by rw[b4w (by omega)];exact hv ops avs H,next (Fz.le_refl R) F hC (r0 hT _) h⟩
  |none=>
   simp only[ha]at h
   rcases hk:t8 P o with _|_|k
   ·simp only[hk]at h;exact val (by omega) h
   ·simp only[hk]at h;exact val (by omega) h
   ·simp only[hk]at h
    rw[b7A,if_neg (by omega)]
    split at h
    ·rename_i x hx;exact c8X h0 F hC hT hx h
    ·refine a3t (c9o (b9T c1P (c6O (goF h0 F hC) F hC hT h) fun v H' hq=>hq)) ?_
     rintro v H' ⟨F',R',S',d,hle,hC',hd,h'⟩
     exact next hle F' hC' hd h'
def d4J(P:Program)(E:j3)(ops:Array Oper)(R:Fz)(x:Oper×List D×b8)(y:s6):Prop:=
 x.1=y.o∧(t8 P y.o=1→∃Rd:Fz,Rd.le R∧∀H',Agr Rd x.2.2 (b0O P x.2.1 x.1) H'→c8h P E ops y.T H' y.o=some y.v)
def DsC(P:Program)(E:j3)(ops:Array Oper)(R:Fz):List (Oper×List D×b8)→List s6→Prop
 | [],[]=>True
 |x::xs,y::ys=>d4J P E ops R x y∧DsC P E ops R xs ys
 |_,_=>False
theorem DsC.le{ops:Array Oper}{R R':Fz}(hle:R.le R'):∀ {xs:List (Oper×List D×b8)} {ys:List s6},DsC P E ops R xs ys→DsC P E ops R' xs ys
 | [],[],h=>h
 |x::xs,y::ys,h=>⟨⟨h.1.1,fun k=>let ⟨Rd,a,b⟩:=h.1.2 k;⟨Rd,Fz.le_trans a hle,b⟩⟩,DsC.le hle h.2⟩
 | [],_::_,h=>h.elim
 |_::_,[],h=>h.elim
theorem DsC.snoc{ops:Array Oper}{R:Fz}{x:Oper×List D×b8}{y:s6}(h1:d4J P E ops R x y):∀ {xs:List (Oper×List D×b8)} {ys:List s6},DsC P E ops R xs ys→DsC P E ops R (xs++[x]) (ys++[y])
 | [],[],h=>⟨h1,trivial⟩
 |x::xs,y::ys,h=>⟨h.1,DsC.snoc h1 h.2⟩
 | [],_::_,h=>h.elim
 |_::_,[],h=>h.elim
theorem c3Q{ops:Array Oper}{R R':Fz}(hle:R.le R'){S':b8}{H':AHeap}(hC:y9 E R' S' H'){anc:Nat}{K:Prop}:∀ {xs:List (Oper×List D×b8)} {ys:List s6} {j:Nat},DsC P E ops R xs ys→b6Y P S' anc K j xs→
  K∧∀(i:Nat) (d:s6),ys[i]? =some d→t8 P d.o=1→anc.testBit (j+i)=false→b3K P E ops d.T H' d.o=some d.v
 | [],[],j,_,h=>⟨h,fun i d e=>by simp at e⟩
 |x::xs,y::ys,j,⟨⟨e1,e2⟩,hd⟩,h=>by
  have step:∀(hK:b6Y P S' anc K (j+1) xs),(t8 P y.o=1→anc.testBit j=false→b7D P x.2.1 x.1 x.2.2 S')→K∧∀(i:Nat) (d:s6),(y::ys)[i]? =some d→t8 P d.o=1→anc.testBit (j+i)=false→b3K P E ops d.T H' d.o=some d.v:=fun hK hf=>by
   obtain⟨k1,k2⟩:=c3Q hle hC hd hK
   refine⟨k1,fun i d hi hk ha=> ?_⟩
   cases i with
   |zero=>
    simp at hi
    subst hi
    obtain⟨Rd,g1,g2⟩:=e2 hk
    have hft:=hf hk (by simpa using ha)
    rw[b4w (by omega)]
    exact g2 H' ⟨fun j cs e=>let ⟨w,pre,g⟩:=hC.frozen j cs (hle _ _ (g1 _ _ e));⟨w,pre,g⟩,fun j o' hj hjS hoc=>by
     rw[←c3l hft hj]at hjS
     obtain⟨_,⟨pre,g⟩,_⟩:=hC.cells hjS hoc
     exact⟨_,pre,g⟩,fun j o' rows hj hjS hm=>by
     rw[←c3l hft hj]at hjS
     obtain⟨_,es,cl,a,g,_⟩:=hC.mapAt hjS hm
     exact⟨es,cl,a,g⟩⟩
   |succ i=>exact k2 i d (by simpa using hi) hk (by rw[Nat.add_assoc,Nat.add_comm 1 i];exact ha)
  simp only[b6Y]at h
  split at h
  ·exact step h.2 fun _ _=>h.1
  ·rename_i hc
   refine step h fun hk ha=>c8L ?_
   rw[e1]at hc ⊢
   simp only[hk,ha,Bool.not_false,Bool.and_true,beq_self_eq_true,Bool.true_and,Bool.not_eq_true]at hc
   exact hc
 | [],_::_,_,h,_=>h.elim
 |_::_,[],_,h,_=>h.elim
theorem c8q{R0:Fz}{ops:Array Oper}:∀ {l:List s6} {xs:List (Oper×List D×b8)} {ys:List s6} {T:List D} {avs:List AV} {S:b8} {H:AHeap} {R:Fz} {Q:List D→b8→Prop},R0.le R→E0 H→y9 E R S H→z7 E R T avs→DsC P E ops R xs ys→b4D P (l8 P E w0) (b1z E w0) ops l xs T S Q→a8C P E (w0.at E R0) ops l ys avs H (a6Z E R T.length Q)
 | [],xs,ys,T,avs,S,H,R,Q,h0,F,hC,hT,hD,h=>by
  simp only[b4D,a7J]at h
  exact⟨F,R,S,T,Fz.le_refl R,hC,hT,rfl,h⟩
 |s::l,xs,ys,T,avs,S,H,R,Q,h0,F,hC,hT,hD,h=>by
  simp only[b4D,a7J,b9P]at h
  have next:∀ {d:D} {v:AV} {R':Fz} {S':b8} {H':AHeap},R.le R'→E0 H'→y9 E R' S' H'→Rp E R' d v→d4J P E ops R' (s.o,T,S) ⟨s.o,s.anc,avs,v,0,0,s.wr,[]⟩→b4D P (l8 P E w0) (b1z E w0) ops l (xs++[(s.o,T,S)]) (b8N T s.o.dst d) S' Q→a8C P E (w0.at E R0) ops l (ys++[⟨s.o,s.anc,avs,v,0,0,s.wr,[]⟩]) (a2O avs s.o.dst v) H' (a6Z E R T.length Q):=by
   intro d v R' S' H' hle F' hC' hd he h'
   have:=c8q (Fz.le_trans h0 hle) F' hC' (c9e (z7.le hle _ _ hT) s.o.dst hd) ((hD.le hle).snoc he) h'
   rw[b7P]at this
   exact b7C (fun _ _=>a6Z.le hle) this
  have val:t8 P s.o≤1→(b7 (d0F P ops T S s.o) fun v=>b4D P (l8 P E w0) (b1z E w0) ops l (xs++[(s.o,T,S)]) (b8N T s.o.dst v) S Q)→a8C P E (w0.at E R0) ops (s::l) ys avs H (a6Z E R T.length Q):=by
   intro hk h
   unfold b7 at h
   split at h
   ·rename_i d hd
    obtain⟨v,h1,h2⟩:=c9v hT hC hd
    rw[a8C,if_pos hk]
    exact⟨v,by rw[b4w hk];exact h2 H (hC.agr _),next (Fz.le_refl R) F hC h1 ⟨rfl,fun _=>⟨R,Fz.le_refl R,h2⟩⟩ h⟩
   ·exact h.elim
  cases ha:b2j s.o with
  |some x=>
   simp only[ha]at h
   obtain⟨hk,hv⟩:=c2h (P:=P) (E:=E) ha
   rw[a8C,if_pos (by omega)]
   exact⟨_,by rw[b4w (by omega)];exact hv ops avs H,next (Fz.le_refl R) F hC (r0 hT _) ⟨rfl,fun hk1=>by simp only at hk1;omega⟩ h⟩
  |none=>
   simp only[ha]at h
   rcases hk:t8 P s.o with _|_|k
   ·simp only[hk]at h;exact val (by omega) h
   ·simp only[hk]at h;exact val (by omega) h
   ·simp only[hk]at h
    rw[a8C,if_neg (by omega)]
    split at h
    ·rename_i x hx;exact c8X h0 F hC hT hx h
    ·refine a3t (c9o (b9T c1P (c6O (goF h0 F hC) F hC hT h) fun v H' hq=>hq)) ?_
     rintro v H' ⟨F',R',S',d,hle,hC',hd,h'⟩
     obtain⟨k1,k2⟩:=c3Q hle hC' hD h'
     exact⟨fun i d hi hk1 ha=>k2 i d hi hk1 (by rw[Nat.zero_add];exact ha),next hle F' hC' hd ⟨rfl,fun hk1=>by simp only at hk1;omega⟩ k1⟩
end
end
section
section
variable(P:Program)(E:j3)(w0:j8)
def d3R(E:j3)(R:Fz)(n:Nat)(Q:o9→List D→b8→Prop)(ex:o9)(avs':List AV)(H':AHeap):Prop:=a6Z E R n (Q ex) avs' H'
def j2(c:Code)(T:List D)(S:b8)(Q:o9→List D→b8→Prop):Prop:=
 ∀R H avs,E0 H→y9 E R S H→z7 E R T avs→L5 P E (w0.at E R) c avs H (d3R E R T.length Q)
end
def a8H:List D→List Nat→List D→List D
 |T,i::L,v::vs=>a8H (T.set i v) L vs
 |T,_,_=>T
def m6(n:Nat)(L:List Nat)(vs:List D):List D:=a8H (List.replicate n .any) L vs
def a8B(T:List D):List Nat→List D
 | []=>[]
 |i::L=>T.getD i b9::a8B T L
def i9(c:D)(a b:Prop):Prop:=match c with
 | .bool true=>a
 | .bool false=>b
 |_=>False
def q8(id:Nat)(Q:o9→List D→b8→Prop):o9→List D→b8→Prop
 | .exit id',T,S=>if id'=id then Q .normal T S else Q (.exit id') T S
 |e,T,S=>Q e T S
def c9i{α:Type}(k:Nat):List (Nat×α)→Option α
 | []=>none
 |(i,L)::l=>if i=k then some L else c9i k l
def hdD:Code→Option Nat
 | .region id _ _=>some (2*id)
 | .seq a b=>match hdD a with
  |some k=>some k
  |none=>hdD b
 | .cond _ a b=>match hdD a with
  |some k=>some (2*k+1)
  |none=>match hdD b with
   |some k=>some (2*k+1)
   |none=>none
 | .block _ c| .loop c=>hdD c
 |_=>none
def d5W(cuts:List (Nat×List Nat))(c:Code):Option (List Nat):=match hdD c with
 |some id=>c9i id cuts
 |none=>none
section
variable(P:Program)(E:j3)(w0:j8)(loops cuts:List (Nat×List Nat))(arrs:List (Nat×V1))
def vcD:Code→List D→b8→(o9→List D→b8→Prop)→Prop
 | .skip,T,S,Q=>Q .normal T S
 | .label _,T,S,Q=>Q .normal T S
 | .ret,T,S,Q=>Q .ret T S
 | .exit id,T,S,Q=>Q (.exit id) T S
 | .region id ops draw,T,S,Q=>match draw with
  |false=>c2L P (l8 P E w0) (b1z E w0) ops ops.toList T S (Q .normal)
  |true=>match c9i id arrs with
   |some t=>if a7F ops&&c1Q ops then b0K P ops (fun ops' sd=>b4D P (l8 P E w0) (b1z E w0) ops' sd [] T S (Q .normal)) t []else False
   |none=>match b1g P ops ops.toList []with
    |some sd=>b4D P (l8 P E w0) (b1z E w0) ops sd [] T S (Q .normal)
    |none=>False
 | .seq a b,T,S,Q=>match d5W cuts b with
  |some L=>vcD a T S fun ex T' S'=>match ex with
   | .normal=>j2 P E w0 b (m6 T.length L (a8B T' L)) S' Q
   |e=>Q e T' S'
  |none=>vcD a T S fun ex T' S'=>match ex with
   | .normal=>vcD b T' S' Q
   |e=>Q e T' S'
 | .cond c a b,T,S,Q=>i9 (u5 T c) (vcD a T S Q) (vcD b T S Q)
 | .block id c,T,S,Q=>vcD c T S (q8 id Q)
 | .loop c,T,S,Q=>match d5W loops c with
  |some L=>j2 P E w0 (.loop c) (m6 T.length L (a8B T L)) S Q
  |none=>j2 P E w0 (.loop c) T S Q
 |_,_,_,_=>False
end
section
variable(P:Program)(E:j3)(w0:j8)(loops cuts:List (Nat×List Nat))(arrs:List (Nat×V1))
def G5(b:Code)(Q:o9→List D→b8→Prop)(ex:o9)(T:List D)(S:b8):Prop:=match ex with
 | .normal=>vcD P E w0 loops cuts arrs b T S Q
 |e=>Q e T S
def d1F(n:Nat)(L:List Nat)(b:Code)(Q:o9→List D→b8→Prop)(ex:o9)(T:List D)(S:b8):Prop:=match ex with
 | .normal=>j2 P E w0 b (m6 n L (a8B T L)) S Q
 |e=>Q e T S
end
def B1(N:List D→b8→Prop)(Q:o9→List D→b8→Prop)(ex:o9)(T:List D)(S:b8):Prop:=match ex with
 | .normal=>N T S
 |e=>Q e T S
def b2h(P:Program)(S:b8)(T:List D):List ResultVar→(List D→Prop)→Prop
 | [],K=>K []
 | .tmp t::l,K=>b2h P S T l fun vs=>K (T.getD t b9::vs)
 | .cell a t::l,K=>b7 (c8S P S t (T.getD a b9)) fun v=>b2h P S T l fun vs=>K (v::vs)
def d1g:List D→D
 | [v]=>v
 |vs=> .tup vs
def E7(P:Program)(fn:Func)(Q:D→b8→Prop):o9→List D→b8→Prop
 | .exit _,_,_=>False
 |_,T,S=>b2h P S T fn.results.toList fun vs=>Q (d1g vs) S
def i4(E:j3)(Q:D→b8→Prop)(d:D)(S:b8):Prop:=
 ∀R H v,y9 E R S H→Rp E R d v→∃R' S' d',R.le R'∧y9 E R' S' H∧Rp E R' d' v∧Q d' S'
section
variable{P:Program}{E:j3}{w0:j8}
theorem j2.mono{c:Code}{T:List D}{S:b8}{Q Q':o9→List D→b8→Prop}(h:j2 P E w0 c T S Q)(hq:∀ex T' S',T'.length=T.length→Q ex T' S'→Q' ex T' S'):j2 P E w0 c T S Q':=fun R H avs F hC hT=>
 (h R H avs F hC hT).mono fun ex T' H' ⟨F',R',S',T1,a,b,c,d,e⟩=>⟨F',R',S',T1,a,b,c,d,hq _ _ _ d e⟩
theorem l8.use{f:FuncId}{ds:List D}{S:b8}{Q Q':D→b8→Prop}(h:l8 P E w0 f ds S Q)(hq:∀d S',Q d S'→Q' d S'):l8 P E w0 f ds S Q':=fun R H avs hFi hC ha=>
 (h R H avs hFi hC ha).mono fun v H' ⟨F',R',S',d,a,b,c,e⟩=>⟨F',R',S',d,a,b,c,hq _ _ e⟩
theorem b3b:∀(T:List D) (L:List Nat) (vs:List D),(a8H T L vs).length=T.length
 |T,i::L,v::vs=>by rw[a8H,b3b,List.length_set]
 |T,[],_=>by simp[a8H]
 |T,_::_,[]=>by simp[a8H]
theorem o0(n:Nat)(L:List Nat)(vs:List D):(m6 n L vs).length=n:=by rw[m6,b3b,List.length_replicate]
theorem c9w{R:Fz}:∀ {avs:List AV},z7 E R (List.replicate avs.length .any) avs
 | []=>C7
 |v::avs=>s7 b7a c9w
theorem d3f{R:Fz}{T:List D}{avs:List AV}(h:z7 E R T avs)(L:List Nat):z7 E R (m6 T.length L (a8B T L)) avs:=by
 have main:∀(L:List Nat) (T0:List D),T0.length=T.length→z7 E R T0 avs→z7 E R (a8H T0 L (a8B T L)) avs:=by
  intro L
  induction L with
  |nil=>intro T0 hl h0;simpa [a8H,a8B]using h0
  |cons i L ih=>
   intro T0 hl h0
   simp only[a8B,a8H]
   refine ih _ (by rw[List.length_set,hl]) ?_
   by_cases hi:i<T.length
   ·have hlen:=h.length
    have:=h0.set i (b6o h i)
    rw[List.getD_eq_getElem?_getD (l:=avs),List.getElem?_eq_getElem (by omega),Option.getD_some,List.set_getElem_self]at this
    exact this
   ·rw[List.set_eq_of_length_le (by omega)]
    exact h0
 refine main L _ (by rw[List.length_replicate]) ?_
 rw[←h.length]
 exact c9w
theorem q9{c:Code}{T:List D}{S:b8}{Q:o9→List D→b8→Prop}{n:Nat}(L:List Nat)(hn:T.length=n)(h:j2 P E w0 c (m6 n L (a8B T L)) S Q):j2 P E w0 c T S Q:=fun R H avs F hC hT=>by
 have:=h R H avs F hC (by rw[←hn];exact d3f hT L)
 rw[o0, ←hn]at this
 exact this
theorem p8{c:Code}{Q:o9→List D→b8→Prop}{I:Nat→List D→b8→Prop}{k:Nat}
  (step:∀n T S,T.length=k→I n T S→j2 P E w0 c T S fun ex T' S'=>match ex with| .normal=>∃m,m<n∧I m T' S'|e=>Q e T' S')
  {n:Nat} {T:List D} {S:b8} (hk:T.length=k) (h:I n T S):j2 P E w0 (.loop c) T S Q:=fun R H avs F hC hT=>by
 refine c8Q (I:=fun n avs H=>a6Z E R k (I n) avs H) (fun n avs H hI=> ?_) (n:=n) ⟨F,R,S,T,Fz.le_refl R,hC,hT,hk,h⟩
 obtain⟨F1,R1,S1,T1,a,b,c1,d,e⟩:=hI
 refine(L5.at_le a (step n T1 S1 d e R1 H avs F1 b c1)).mono fun ex T' H' hq=> ?_
 cases ex with
 |normal=>
  obtain⟨F2,R2,S2,T2,a2,b2,c2,d2,m,hm,e2⟩:=hq
  exact⟨m,hm,F2,R2,S2,T2,Fz.le_trans a a2,b2,c2,by rw[d2,d],e2⟩
 |exit id=>
  obtain⟨F2,R2,S2,T2,a2,b2,c2,d2,e2⟩:=hq
  exact⟨F2,R2,S2,T2,Fz.le_trans a a2,b2,c2,by rw[d2,d,hk],e2⟩
 |ret=>
  obtain⟨F2,R2,S2,T2,a2,b2,c2,d2,e2⟩:=hq
  exact⟨F2,R2,S2,T2,Fz.le_trans a a2,b2,c2,by rw[d2,d,hk],e2⟩
theorem c9T{id:Nat}{ops:Array Oper}{T:List D}{S:b8}{Q:o9→List D→b8→Prop}(h:c2L P (l8 P E w0) (b1z E w0) ops ops.toList T S (Q .normal)):j2 P E w0 (.region id ops false) T S Q:=fun R H avs F hC hT=>c5m (c3W (d2u (Fz.le_refl R) F hC hT h))
theorem c8I(hm:P.follows .mixedOrders=true){id:Nat}{ops:Array Oper}{sd:List s6}(hB:b1g P ops ops.toList []=some sd){T:List D}{S:b8}{Q:o9→List D→b8→Prop}(h:b4D P (l8 P E w0) (b1z E w0) ops sd [] T S (Q .normal)):j2 P E w0 (.region id ops true) T S Q:=fun R H avs F hC hT=>c7J hm hB (c8q (xs:=[]) (ys:=[]) (Fz.le_refl R) F hC hT trivial h)
theorem c5N(hm:P.follows .mixedOrders=true){id:Nat}{ops:Array Oper}{t:V1}{T:List D}{S:b8}{Q:o9→List D→b8→Prop}(h:if a7F ops&&c1Q ops then b0K P ops (fun ops' sd=>b4D P (l8 P E w0) (b1z E w0) ops' sd [] T S (Q .normal)) t []else False):j2 P E w0 (.region id ops true) T S Q:=fun R H avs F hC hT=>by
 split at h
 ·rename_i hok
  simp only[Bool.and_eq_true]at hok
  exact c6C hm hok.1 hok.2 (h.mono fun ops' sd ho=>c8q (xs:=[]) (ys:=[]) (Fz.le_refl R) F hC hT trivial ho)
 ·exact h.elim
variable{loops cuts:List (Nat×List Nat)}{arrs:List (Nat×V1)}
theorem b1F(hm:P.follows .mixedOrders=true):∀(c:Code) (T:List D) (S:b8) (Q:o9→List D→b8→Prop),vcD P E w0 loops cuts arrs c T S Q→j2 P E w0 c T S Q
 | .skip,T,S,Q,h=>fun R H avs F hC hT=>c8z ⟨F,R,S,T,Fz.le_refl R,hC,hT,rfl,h⟩
 | .label _,T,S,Q,h=>fun R H avs F hC hT=>c6N ⟨F,R,S,T,Fz.le_refl R,hC,hT,rfl,h⟩
 | .ret,T,S,Q,h=>fun R H avs F hC hT=>d0P ⟨F,R,S,T,Fz.le_refl R,hC,hT,rfl,h⟩
 | .exit id,T,S,Q,h=>fun R H avs F hC hT=>c7S ⟨F,R,S,T,Fz.le_refl R,hC,hT,rfl,h⟩
 | .region _ ops false,T,S,Q,h=>c9T h
 | .region id ops true,T,S,Q,h=>by
  change (match c9i id arrs with
   |some t=>if a7F ops&&c1Q ops then b0K P ops (fun ops' sd=>b4D P (l8 P E w0) (b1z E w0) ops' sd [] T S (Q .normal)) t []else False
   |none=>match b1g P ops ops.toList []with
    |some sd=>b4D P (l8 P E w0) (b1z E w0) ops sd [] T S (Q .normal)
    |none=>False)at h
  split at h
  ·exact c5N hm h
  ·split at h
   ·rename_i sd hB;exact c8I hm hB h
   ·exact h.elim
 | .seq a b,T,S,Q,h=>fun R H avs F hC hT=>by
  simp only[vcD]at h
  have fin:j2 P E w0 a T S (fun ex T' S'=>match ex with| .normal=>j2 P E w0 b T' S' Q|e=>Q e T' S')→L5 P E (w0.at E R) (.seq a b) avs H (d3R E R T.length Q):=by
   intro h
   refine d0Q ((h R H avs F hC hT).mono fun ex T' H' hq=> ?_)
   cases ex with
   |normal=>
    obtain⟨F2,R2,S2,T2,a2,b2,c2,d2,e2⟩:=hq
    have:=e2 R2 H' T' F2 b2 c2
    rw[d2]at this
    exact(L5.at_le a2 this).mono fun ex T' H' hq=>a6Z.le a2 hq
   |exit id=>exact hq
   |ret=>exact hq
  split at h
  ·rename_i L hL
   refine fin ((b1F hm a T S _ h).mono fun ex T' S' hl hq=> ?_)
   cases ex with
   |normal=>exact q9 L hl hq
   |exit id=>exact hq
   |ret=>exact hq
  ·refine fin ((b1F hm a T S _ h).mono fun ex T' S' hl hq=> ?_)
   cases ex with
   |normal=>exact b1F hm b T' S' Q hq
   |exit id=>exact hq
   |ret=>exact hq
 | .cond c a b,T,S,Q,h=>fun R H avs F hC hT=>by
  simp only[vcD]at h
  have hr:=r0 hT c
  unfold i9 at h
  split at h
  ·rename_i e
   rw[e]at hr
   simp only[Rp]at hr
   exact c0q (by rw[hr];exact b1F hm a T S Q h R H avs F hC hT)
  ·rename_i e
   rw[e]at hr
   simp only[Rp]at hr
   exact c0q (by rw[hr];exact b1F hm b T S Q h R H avs F hC hT)
  ·exact h.elim
 | .block id c,T,S,Q,h=>fun R H avs F hC hT=>by
  refine c7h ((b1F hm c T S _ h R H avs F hC hT).mono fun ex T' H' hq=> ?_)
  cases ex with
  |normal=>exact hq
  |ret=>exact hq
  |exit id'=>
   obtain⟨F2,R2,S2,T2,a2,b2,c2,d2,e2⟩:=hq
   simp only[q8]at e2
   simp only[c8x]
   split at e2
   ·rename_i e;rw[if_pos e];exact⟨F2,R2,S2,T2,a2,b2,c2,d2,e2⟩
   ·rename_i e;rw[if_neg e];exact⟨F2,R2,S2,T2,a2,b2,c2,d2,e2⟩
 | .loop c,T,S,Q,h=>by
  simp only[vcD]at h
  split at h
  ·rename_i L hL;exact q9 L rfl h
  ·exact h
 | .rangeFunc ..,T,S,Q,h=>h.elim
 | .scope ..,T,S,Q,h=>h.elim
 | .goto ..,T,S,Q,h=>h.elim
 | .refuse ..,T,S,Q,h=>h.elim
theorem b4i{R:Fz}{S:b8}{H:AHeap}{T:List D}{avs:List AV}(hC:y9 E R S H)(hT:z7 E R T avs):∀ {l:List ResultVar} {K:List D→Prop} {K':List AV→Prop},(∀ds vs,z7 E R ds vs→K ds→K' vs)→b2h P S T l K→a3N P E H avs l K'
 | [],K,K',hk,h=>hk [] [] C7 h
 | .tmp t::l,K,K',hk,h=>by
  have:=b4i (l:=l) (K':=fun vs=>K' (avs.getD t B4::vs)) hC hT (fun ds vs hr hK=>hk (T.getD t b9::ds) (avs.getD t B4::vs) (s7 (b6o hT t) hr) hK) h
  exact this
 | .cell a t::l,K,K',hk,h=>by
  simp only[b2h]at h
  unfold b7 at h
  split at h
  ·rename_i d hd
   have ha:=b6o hT a
   obtain⟨v,h1,h2⟩:=c9y hC ha hd
   have h2:=h2 H (hC.agr _)
   have:=b4i (l:=l) (K':=fun vs=>K' (v::vs)) hC hT (fun ds vs hr hK=>hk (d::ds) (v::vs) (s7 h1 hr) hK) h
   simp only[a3N]
   unfold c9b at h2
   split at h2
   ·rename_i o i e
    simp only[e,h2,b1Z]
    exact this
   ·cases h2
  ·exact h.elim
theorem d2M{R:Fz}{ds:List D}{vs:List AV}(h:z7 E R ds vs):Rp E R (d1g ds) (c3j vs):=by
 rcases ds with _|⟨d,_|⟨d',ds⟩⟩
 ·simp only[z7]at h;subst h;exact a0P
 ·simp only[z7]at h
  obtain⟨v,_,rfl,h1,rfl⟩:=h
  exact h1
 ·have h':=h
  simp only[z7]at h
  obtain⟨v,_,rfl,h1,v2,vs',rfl,h2,h3⟩:=h
  show Rp E R (.tup (d::d'::ds)) (.tup (v::v2::vs'))
  simp only[Rp]
  exact⟨_,rfl,h'⟩
theorem c6Z{f:FuncId}{fn:Func}{c:Code}(hfn:P.funcs[f]? =some fn)(hb:fn.body=some c){ds:List D}{S:b8}{Q:D→b8→Prop}
  (h:j2 P E w0 c (ds++List.replicate (fn.ntmps - ds.length) b9) S (E7 P fn (i4 E Q))):l8 P E w0 f ds S Q:=fun R H avs F hC ha=>by
 have hrow:z7 E R (ds++List.replicate (fn.ntmps - ds.length) b9) (avs++List.replicate (fn.ntmps - avs.length) B4):=by
  refine ha.append ?_
  rw[ha.length]
  generalize fn.ntmps - ds.length=m
  induction m with
  |zero=>exact C7
  |succ m ih=>exact s7 a0P ih
 have h':L5 P E (w0.at E R) c (avs++List.replicate (fn.ntmps - avs.length) B4) H (d5z P E fn (Z9 E R Q)):=by
  refine(h R H _ F hC hrow).mono fun ex T' H' hq=> ?_
  obtain⟨F2,R2,S2,T2,a2,b2,c2,d2,e2⟩:=hq
  have go:∀ {l:List ResultVar},b2h P S2 T2 l (fun vs=>i4 E Q (d1g vs) S2)→a3N P E H' T' l fun vs=>Z9 E R Q (c3j vs) H':=fun h=>b4i b2 c2 (fun ds vs hr hK=>by
   obtain⟨R',S',d',k1,k2,k3,k4⟩:=hK R2 H' _ b2 (d2M hr)
   exact⟨F2,R',S',d',Fz.le_trans a2 k1,k2,k3,k4⟩) h
  cases ex with
  |normal=>exact go e2
  |ret=>exact go e2
  |exit id=>exact e2
 exact c5V hfn hb h'
theorem j5(loops cuts:List (Nat×List Nat))(arrs:List (Nat×V1))(hm:P.follows .mixedOrders=true){f:FuncId}{fn:Func}{c:Code}(hfn:P.funcs[f]? =some fn)(hb:fn.body=some c){ds:List D}{S:b8}{Q:D→b8→Prop}{V:Prop}
  (e:vcD P E w0 loops cuts arrs c (ds++List.replicate (fn.ntmps - ds.length) b9) S (E7 P fn (i4 E Q))=V) (h:V):l8 P E w0 f ds S Q:=
 c6Z hfn hb (b1F hm _ _ _ _ (e▸h))
theorem j4(loops cuts:List (Nat×List Nat))(arrs:List (Nat×V1))(hm:P.follows .mixedOrders=true){c:Code}{T:List D}{S:b8}{Q:o9→List D→b8→Prop}{V:Prop}(e:vcD P E w0 loops cuts arrs c T S Q=V)(h:V):j2 P E w0 c T S Q:=
 b1F hm _ _ _ _ (e▸h)
theorem i4.here{Q:D→b8→Prop}{d:D}{S:b8}(h:Q d S):i4 E Q d S:=fun R H v hC hd=>⟨R,S,d,Fz.le_refl R,hC,hd,h⟩
theorem i4.less{Q:D→b8→Prop}{d:D}{S S':b8}(hs:S'.le S)(h:i4 E Q d S'):i4 E Q d S:=fun R H v hC hd=>h R H v (hC.less hs) hd
theorem i4.mono{Q Q':D→b8→Prop}{d:D}{S:b8}(h:i4 E Q d S)(hq:∀d S,Q d S→Q' d S):i4 E Q' d S:=fun R H v hC hd=>by
 obtain⟨R',S',d',a,b,c,e⟩:=h R H v hC hd
 exact⟨R',S',d',a,b,c,hq _ _ e⟩
theorem i4.freeze{Q:D→b8→Prop}{S:b8}{k:Nat}{o:D2}(hk:S k=some o){i len cap:Nat}{ex:Bool}{sz:Nat}(hsz:o.sz=sz)(hl:i+len≤o.rows.length)(hc:len≤cap)
  (h:i4 E Q (.lst ((o.rows.drop i).take len) sz) (S.erase k)):i4 E Q (.raw k i len cap ex sz) S:=fun R H v hC hd=>by
 have hzm:sz<N8:=by simp only[Rp]at hd;exact hd.1
 obtain⟨h1,h2⟩:=hC.freeze hk (.inl (by rw[hsz];exact hzm))
 obtain⟨R',S',d',a,b,c,e⟩:=h _ H v h1 (b2e hC hk hd hsz hl hc)
 exact⟨R',S',d',Fz.le_trans h2 a,b,c,e⟩
theorem i4.freezeT{Q:D→b8→Prop}{S:b8}{k:Nat}{o:D2}(hk:S k=some o){i len cap:Nat}{ex:Bool}{sz:Nat}(hsz:o.sz=sz)(hl:i+len≤o.rows.length)(hc:len≤cap){lp lq:List D}
  (h:i4 E Q (.tup (lp++ .lst ((o.rows.drop i).take len) sz::lq)) (S.erase k)):i4 E Q (.tup (lp++ .raw k i len cap ex sz::lq)) S:=fun R H v hC hd=>by
 simp only[Rp]at hd
 obtain⟨vs,rfl,hv⟩:=hd
 obtain⟨v1,v2,rfl,g1,g2⟩:=a5l hv
 simp only[z7]at g2
 obtain⟨w,ws,rfl,g3,g4⟩:=g2
 have hzm:sz<N8:=by simp only[Rp]at g3;exact g3.1
 obtain⟨h1,h2⟩:=hC.freeze hk (.inl (by rw[hsz];exact hzm))
 obtain⟨R',S',d',a,b,c,e⟩:=h _ H (.tup (v1++w::ws)) h1 (by
  simp only[Rp]
  exact⟨_,rfl,(z7.le h2 _ _ g1).append (s7 (b2e hC hk g3 hsz hl hc) (z7.le h2 _ _ g4))⟩)
 exact⟨R',S',d',Fz.le_trans h2 a,b,c,e⟩
theorem i4.nil{Q:D→b8→Prop}{S:b8}{sz:Nat}(h:i4 E Q (.lst [] sz) S):i4 E Q .nilSlc S:=fun R H v hC hd=>h R H v hC (by simp only[Rp]at hd ⊢;exact .inl ⟨trivial,hd⟩)
theorem i4.nilT{Q:D→b8→Prop}{S:b8}{sz:Nat}{lp lq:List D}(h:i4 E Q (.tup (lp++ .lst [] sz::lq)) S):i4 E Q (.tup (lp++ .nilSlc::lq)) S:=fun R H v hC hd=>h R H v hC (by
 simp only[Rp]at hd ⊢
 obtain⟨vs,rfl,hv⟩:=hd
 obtain⟨v1,v2,rfl,g1,g2⟩:=a5l hv
 simp only[z7]at g2
 obtain⟨w,ws,rfl,g3,g4⟩:=g2
 exact⟨_,rfl,g1.append (s7 (by simp only[Rp]at g3 ⊢;exact .inl ⟨trivial,g3⟩) g4)⟩)
def U1(P:Program)(E:j3)(w0:j8)(f:FuncId)(ds:List D)(d:D):Prop:=∀S,l8 P E w0 f ds S fun d' S'=>d'=d∧S'=S
theorem U1.use{f:FuncId}{ds:List D}{d:D}(h:U1 P E w0 f ds d){S:b8}{K:D→b8→Prop}(hk:K d S):l8 P E w0 f ds S K:=(h S).use fun d' S' ⟨a,b⟩=>by subst a b;exact hk
end
end
end Go.Am
end
section
open Go.Proofs Go Go.Am
namespace Go.Proofs.Ytdkidgkiplcggaa.d
theorem mixed:Try.prog.follows .mixedOrders=true:=by kernel_rfl
abbrev a2a:FuncId:=9
abbrev V6:FuncId:=19
abbrev a5k:FuncId:=23
abbrev a3I:FuncId:=28
abbrev U3:FuncId:=29
abbrev L2:FuncId:=30
abbrev a2S:FuncId:=32
abbrev N6:FuncId:=33
abbrev a2p:FuncId:=39
abbrev a4W:FuncId:=44
abbrev a8Q:FuncId:=45
abbrev a2v:FuncId:=46
abbrev D4:FuncId:=47
abbrev w9:FuncId:=48
abbrev V2:FuncId:=49
abbrev a3u:FuncId:=50
abbrev a7t:FuncId:=51
abbrev a0O:FuncId:=54
abbrev a5a:FuncId:=60
abbrev B2:FuncId:=61
abbrev r9:FuncId:=62
abbrev C5:FuncId:=63
abbrev a1l:FuncId:=64
abbrev B7:FuncId:=65
abbrev a5x:FuncId:=66
abbrev Y0:FuncId:=67
abbrev a0Q:FuncId:=68
abbrev a0p:FuncId:=69
abbrev E8:FuncId:=70
abbrev a2x:FuncId:=71
abbrev b1J:FuncId:=87
abbrev a0e:FuncId:=88
abbrev a2s:FuncId:=89
abbrev b1o:FuncId:=90
abbrev X5:FuncId:=91
abbrev a1H:FuncId:=92
abbrev b4p:FuncId:=93
abbrev p6:FuncId:=94
abbrev j0:FuncId:=95
abbrev o6:FuncId:=96
abbrev b3F:FuncId:=97
abbrev b0C:FuncId:=98
abbrev a2K:FuncId:=99
abbrev a8Y:FuncId:=100
abbrev J8:FuncId:=101
abbrev a1i:FuncId:=102
abbrev b3U:FuncId:=103
abbrev b1w:FuncId:=113
abbrev b1M:FuncId:=114
abbrev a9x:FuncId:=115
abbrev X3:FuncId:=116
abbrev A6:FuncId:=117
abbrev a1u:FuncId:=118
abbrev a1I:FuncId:=119
abbrev K9:FuncId:=120
abbrev a1r:FuncId:=121
abbrev a1J:FuncId:=122
abbrev p9:FuncId:=123
abbrev I5:FuncId:=124
abbrev D7:FuncId:=125
abbrev L9:FuncId:=126
abbrev a1N:FuncId:=127
abbrev a7V:FuncId:=129
abbrev a1h:FuncId:=130
abbrev a8t:FuncId:=131
abbrev W0:FuncId:=132
abbrev L0:FuncId:=133
abbrev Q9:FuncId:=134
abbrev a0u:FuncId:=135
abbrev P4:FuncId:=136
abbrev a2q:FuncId:=137
abbrev G6:FuncId:=138
abbrev a2J:FuncId:=139
abbrev b4j:FuncId:=140
abbrev a0U:FuncId:=141
abbrev K4:FuncId:=142
end Go.Proofs.Ytdkidgkiplcggaa.d
end
