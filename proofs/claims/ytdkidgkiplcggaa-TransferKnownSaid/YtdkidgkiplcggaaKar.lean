/-
  TransferKnownSaid: part Kar of its proof.
-/
import Derived.Test.YtdkidgkiplcggaaKaq
import Derived.Test.YtdkidgkiplcggaaRows
import Derived.KernelRfl
set_option linter.unusedVariables false
set_option linter.unusedSimpArgs false
set_option maxRecDepth 100000
section
namespace Go.Am
section
def b9k(T:List D)(dst:Option Tmp)(v:D):List D:=match dst with
 |some d=>T.set d v
 |none=>T
def b3E:List D→(List D→Prop)→Prop
 | [],k=>k []
 |a::l,k=>b3E l fun l'=>k (a::l')
def c9l:List D→Nat→(D→Prop)→Prop
 | [],_,k=>k c9
 |a::l,n,k=>match n with
  |0=>k a
  |n+1=>c9l l n k
def b5B(T:List D)(x:Operand)(k:D→Prop):Prop:=match x with
 | .tmp t=>c9l T t k
 |x=>k (t8 T x)
def b9(g:D)(want:Bool):Option Bool:=match g with
 | .bool b=>some (b==want)
 | .any=>none
 |_=>some false
def b9H(ops:Array Oper)(T:List D)(o:Oper):Option Bool:=
 match o.guard with
 |none=>some true
 |some (j,want)=>match (ops[j]?).bind (·.dst) with
  |none=>some false
  |some d=>match T[d]? with
   |some x=>b9 x want
   |none=>some false
def d8(g:Option Bool)(r:Option D):Option D:=match g with
 |some true=>r
 |some false=>some c9
 |none=>none
def p8(r:Option Bool)(s:(D→b8→Prop)→Prop)(S:b8):(D→b8→Prop)→Prop:=match r with
 |some true=>s
 |some false=>fun Q=>Q c9 S
 |none=>fun _=>False
theorem d0p{r:Option Bool}{s:(D→b8→Prop)→Prop}{S:b8}{Q:D→b8→Prop}:p8 r s S Q=match r with
 |some true=>s Q
 |some false=>Q c9 S
 |none=>False:=by
 cases r with
 |none=>rfl
 |some b=>cases b<;>rfl
def c9S(P:Program)(ops:Array Oper)(T:List D)(S:b8)(o:Oper):Option D:=d8 (b9H ops T o) (d4n P T S o)
def c9M(P:Program)(G:DW)(ops:Array Oper)(T:List D)(S:b8)(o:Oper)(K:D→b8→Prop):Prop:=p8 (b9H ops T o) (d4L P G T S o) S K
structure j7 where
 w:World
 X:D→b8→Prop
instance:Coe j7 World:=⟨j7.w⟩
def d5D(w:World):j7:=⟨w,fun _ _=>False⟩
def j7.at(E:i9)(w0:j7)(R:Fz):a7W:=⟨w0.w,fun v H'=>E6 H'∧∃R' S' d,R.le R'∧A1 E R' S' H'∧Rp E R' d v∧w0.X d S'⟩
def j6(P:Program)(E:i9)(w0:j7):DW:=fun f ds S Q=>∀R H avs,E6 H→A1 E R S H→A0 E R ds avs→FnW P E (w0.at E R) f avs H (a0d E R Q)
def b1D(E:i9)(w0:j7)(d:D)(S:b8):Prop:=(∃t v,d= .ifc t v)∧w0.X d S
def b9t(o:Oper):Option Operand:=match o.guard with
 |none=>match o.op with
  | .panic x=>some x
  |_=>none
 |some _=>none
def c2w(P:Program)(G:DW)(X:D→b8→Prop)(ops:Array Oper):List Oper→List D→b8→(List D→b8→Prop)→Prop
 | [],T,S,Q=>b3E T fun T=>Q T S
 |o::l,T,S,Q=>b3E T fun T=>match b2l o with
  |some x=>b5B T x fun e=>c2w P G X ops l (b9k T o.dst e) S Q
  |none=>match t7 P o with
  |0|1=>b7 (c9S P ops T S o) fun v=>c2w P G X ops l (b9k T o.dst v) S Q
  |_=>match b9t o with
   |some x=>b5B T x fun e=>X e S
   |none=>c9M P G ops T S o fun v S'=>c2w P G X ops l (b9k T o.dst v) S' Q
def r3(x:D)(S S':b8):Prop:=match b6b x with
 |some k=>S' k=S k
 |none=>True
def c5p(x:D)(S S':b8):Prop:=match b5D x with
 |some k=>S' k=S k
 |none=>True
def b7m(P:Program)(T:List D)(o:Oper)(S S':b8):Prop:=match o.op with
 | .load _ a=>r3 (t8 T a) S S'
 | .convert _ _ x=>r3 (t8 T x) S S'
 | .lookup _ x _ _=>c5p (t8 T x) S S'
 | .call c=>if d2T P c then c5p (c0Z T c) S S' else True
 |_=>True
def b6Y(P:Program)(o:Oper):Bool:=match o.op with
 | .load .. | .convert .. | .lookup .. =>true
 | .call c=>d2T P c
 |_=>false
def b6K(P:Program)(S':b8)(anc:Nat)(K:Prop):Nat→List (Oper×List D×b8)→Prop
 |_,[]=>K
 |j,d::ds=>if(t7 P d.1==1&&b6Y P d.1)&& !anc.testBit j then b7m P d.2.1 d.1 d.2.2 S'∧b6K P S' anc K (j+1) ds else b6K P S' anc K (j+1) ds
def b5m(P:Program)(G:DW)(X:D→b8→Prop)(ops:Array Oper):List s0→List (Oper×List D×b8)→List D→b8→(List D→b8→Prop)→Prop
 | [],_,T,S,Q=>b3E T fun T=>Q T S
 |s::l,ds,T,S,Q=>b3E T fun T=>match b2l s.o with
  |some x=>b5B T x fun e=>b5m P G X ops l (ds++[(s.o,T,S)]) (b9k T s.o.dst e) S Q
  |none=>match t7 P s.o with
  |0|1=>b7 (c9S P ops T S s.o) fun v=>b5m P G X ops l (ds++[(s.o,T,S)]) (b9k T s.o.dst v) S Q
  |_=>match b9t s.o with
   |some x=>b5B T x fun e=>X e S
   |none=>c9M P G ops T S s.o fun v S'=>b6K P S' s.anc (b5m P G X ops l (ds++[(s.o,T,S)]) (b9k T s.o.dst v) S' Q) 0 ds
section
variable{P:Program}{E:i9}{w0:j7}
theorem a8B:∀ {T:List D} {k:List D→Prop},b3E T k=k T
 | [],k=>rfl
 |a::l,k=>by simp only[b3E];rw[a8B]
theorem c6r:∀ {T:List D} {n:Nat} {k:D→Prop},c9l T n k=k (T.getD n c9)
 | [],n,k=>rfl
 |a::l,0,k=>rfl
 |a::l,n+1,k=>by simp only[c9l];rw[c6r];simp
theorem c1E{T:List D}{x:Operand}{k:D→Prop}:b5B T x k=k (t8 T x):=by
 cases x<;>first|rfl|exact c6r
theorem b7N(T:List D)(dst:Option Tmp)(v:D):(b9k T dst v).length=T.length:=by
 cases dst with
 |none=>rfl
 |some d=>exact List.length_set
theorem c9j{R:Fz}{T:List D}{avs:List AV}(h:A0 E R T avs)(dst:Option Tmp){d:D}{v:AV}(hd:Rp E R d v):A0 E R (b9k T dst d) (a2C avs dst v):=by
 cases dst with
 |none=>exact h
 |some t=>exact h.set t hd
theorem b7I{R:Fz}{v:AV}:Rp E R .any v:=by simp only[Rp]
theorem d2C{F:FW}(hF:d2F F){T:List AV}{H:AHeap}{o:Oper}{K K':AV→AHeap→Prop}(hk:∀v H',K v H'→K' v H')(h:opW P E F T H o K):opW P E F T H o K':=by
 have o1:∀ {α:Type} {r:Option α} {f g:α→Prop},(∀x,f x→g x)→b7 r f→b7 r g:=by
  intro α r f g hfg h
  cases r with
  |none=>exact h
  |some x=>exact hfg x h
 have o2:∀ {r:Option (AV×AHeap)},a4i r K→a4i r K':=by
  intro r h
  cases r with
  |none=>exact h
  |some x=>exact hk _ _ h
 have rf:∀ {r:Option a0O},b4r F r K→b4r F r K':=by
  intro r h
  unfold b4r at*
  split
  ·exact hk _ _ h
  ·exact hF _ _ _ _ _ h hk
  ·exact h
 obtain⟨dst,op,type,pos,after,guard⟩:=o
 cases op<;>simp only[opW]at h ⊢ <;>try (first|exact o1 (fun v hv=>hk _ _ hv) h|exact o2 h)
 case box e x=>exact hk _ _ h
 case store t a x=>
  unfold c4H at*
  split at h
  ·split at h
   ·rename_i hs
    rw[if_pos hs]
    exact o1 (fun v hv=>hk _ _ hv) h
   ·exact h.elim
  ·exact h.elim
 case makeMap t r=>
  cases r with
  |none=>exact hk _ _ h
  |some x=>exact h
 case call c=>
  cases hc:c.callee with
  |value f=>
   simp only[hc]at h ⊢
   cases f with
   |func g=>
    simp only at h ⊢
    split at h
    ·rename_i hb;rw[if_pos hb];exact hF _ _ _ _ _ h hk
    ·exact h.elim
   |tmp t=>exact rf h
   |const v=>exact rf h
   |global g=>exact rf h
  |invoke r m=>
   simp only[hc]at h ⊢
   exact rf h
  |builtin b=>
   simp only[hc]at h ⊢
   generalize c.args.toList.map (l8 T)=as1 at h ⊢
   generalize c.argTypes.toList=ts at h ⊢
   cases b<;>(try simp only at h ⊢)<;>try (exact o1 (fun v hv=>hk _ _ hv) h)
   case append=>
    rcases as1 with _|⟨s,_|⟨x,_|⟨y,as1⟩⟩⟩<;>rcases ts with _|⟨sT,_|⟨xT,_|⟨u,ts⟩⟩⟩<;>first|exact o2 h|exact o1 (fun v hv=>hk _ _ hv) h
   case copy=>
    rcases as1 with _|⟨s,_|⟨x,_|⟨y,as1⟩⟩⟩<;>rcases ts with _|⟨sT,ts⟩<;>first|exact o2 h|exact o1 (fun v hv=>hk _ _ hv) h
theorem c5c.weak{w:World}{X X':AV→AHeap→Prop}(hX:∀v H,X v H→X' v H){ρ:B1}{H:AHeap}{Q:AV→AHeap→Prop}{e:Ending}{w':World}(h:c5c E ⟨w,X⟩ ρ H Q e w'):c5c E ⟨w,X'⟩ ρ H Q e w':=by
 cases e with
 |returned u=>exact h
 |panicked c=>
  obtain⟨u,ρ',v,H',h1,h2,h3⟩:=h
  exact⟨u,ρ',v,H',h1,hX _ _ h2,h3⟩
 |outgrown=>exact h
theorem FnW.weak{w:World}{X X':AV→AHeap→Prop}(hX:∀v H,X v H→X' v H){f:FuncId}{args:List AV}{H:AHeap}{Q:AV→AHeap→Prop}(h:FnW P E ⟨w,X⟩ f args H Q):FnW P E ⟨w,X'⟩ f args H Q:=
 fun w ρ vargs R hf hr=>Calls.mono (h w ρ vargs R hf hr) fun e w' he=>he.weak hX
theorem L4.weak{w:World}{X X':AV→AHeap→Prop}(hX:∀v H,X v H→X' v H){c:Code}{T:List AV}{H:AHeap}{Q:o7→List AV→AHeap→Prop}(h:L4 P E ⟨w,X⟩ c T H Q):L4 P E ⟨w,X'⟩ c T H Q:=
 fun w ρ a R hR hf hT hk hp=>h w ρ a R hR hf hT hk fun u v ρ' H' a' w' hx=>hp u v ρ' H' a' w' (hX _ _ hx)
theorem j7.at_le{R R':Fz}(h:R.le R'):∀v H,(w0.at E R').X v H→(w0.at E R).X v H:=fun v H ⟨F,R1,S,d,a,b⟩=>⟨F,R1,S,d,Fz.le_trans h a,b⟩
theorem FnW.at_le{R R':Fz}(h:R.le R'){f:FuncId}{args:List AV}{H:AHeap}{Q:AV→AHeap→Prop}(hf:FnW P E (w0.at E R') f args H Q):FnW P E (w0.at E R) f args H Q:=FnW.weak (j7.at_le h) hf
theorem L4.at_le{R R':Fz}(h:R.le R'){c:Code}{T:List AV}{H:AHeap}{Q:o7→List AV→AHeap→Prop}(hf:L4 P E (w0.at E R') c T H Q):L4 P E (w0.at E R) c T H Q:=L4.weak (j7.at_le h) hf
theorem goF{R0 R:Fz}(h:R0.le R){S:b8}{H:AHeap}(F:E6 H)(hC:A1 E R S H):GoF E (FnW P E (w0.at E R0)) (j6 P E w0) R S H:=fun f ds avs K ha hf=>FnW.at_le h (hf R H avs F hC ha)
theorem b9N{w0:a7W}:d2F (FnW P E w0):=fun f args H Q Q' h hq=>h.mono hq
theorem b2o{R:Fz}{T:List D}{avs:List AV}(h:A0 E R T avs){ops:Array Oper}{o:Oper}{b:Bool}(hw:b9H ops T o=some b):a0F ops avs o=some b:=by
 unfold b9H at hw
 unfold a0F
 cases hg:o.guard with
 |none=>rw[hg]at hw;exact hw
 |some jw=>
  obtain⟨j,want⟩:=jw
  simp only[hg]at hw ⊢
  cases hd:(ops[j]?).bind (·.dst) with
  |none=>simp only[hd]at hw ⊢;exact hw
  |some d=>
   simp only[hd]at hw ⊢
   cases hx:T[d]? with
   |none=>
    have:avs[d]? =none:=List.getElem?_eq_none (by rw[h.length];exact List.getElem?_eq_none_iff.1 hx)
    simp only[hx]at hw
    simp only[this]
    exact hw
   |some x=>
    simp only[hx]at hw
    obtain⟨v,h1,h2⟩:=a5g h hx
    simp only[h1]
    cases x<;>simp only[b9]at hw<;>try (cases hw;done)
    all_goals
     simp only[Rp]at h2
     first
      |(subst h2;exact hw)
      |(rcases h2 with ⟨_,rfl⟩|⟨o,j,cap,ex,z,rfl,_⟩<;>exact hw)
      |(obtain⟨o,j,cap,ex,z,all,rfl,_⟩:=h2;exact hw)
      |(obtain⟨o,j,all,rfl,_⟩:=h2;exact hw)
      |(obtain⟨a',b',rfl,_⟩:=h2;exact hw)
      |(obtain⟨v',rfl,_⟩:=h2;exact hw)
      |(obtain⟨_,rfl⟩:=(h2:_∧_);exact hw)
      |(obtain⟨_,j,cap,ex,all,rfl,_⟩:=(h2:_∧_);exact hw)
theorem c3q{T:List D}{o:Oper}{S S':b8}(h:b7m P T o S S'){k:Nat}(hk:b1c P T o=some k):S' k=S k:=by
 unfold b1c at hk
 unfold b7m at h
 split at hk
 ·rename_i e;simp only[e,r3,hk]at h;exact h
 ·rename_i e;simp only[e,r3,hk]at h;exact h
 ·rename_i e;simp only[e,c5p,hk]at h;exact h
 ·rename_i e
  simp only[e]at h
  split at hk
  ·rename_i hl;rw[if_pos hl]at h;simp only[c5p,hk]at h;exact h
  ·cases hk
 ·cases hk
theorem c8D{T:List D}{o:Oper}{S S':b8}(h:b6Y P o=false):b7m P T o S S':=by
 unfold b7m
 split
 ·rename_i e;simp[b6Y,e]at h
 ·rename_i e;simp[b6Y,e]at h
 ·rename_i e;simp[b6Y,e]at h
 ·rename_i e;simp only[b6Y,e]at h;rw[h,if_neg (by decide)];trivial
 ·trivial
theorem c9K{R:Fz}{S:b8}{H:AHeap}{T:List D}{avs:List AV}(hT:A0 E R T avs)(hC:A1 E R S H){ops:Array Oper}{o:Oper}{d:D}(h:c9S P ops T S o=some d):
  ∃v,Rp E R d v∧∀H,Agr R S (b1c P T o) H→c8f P E ops avs H o=some v:=by
 unfold c9S d8 at h
 split at h
 ·rename_i hw
  obtain⟨v,h1,h2⟩:=d3E hT hC h
  exact⟨v,h1,fun H hA=>by unfold c8f;rw[b2o hT hw];exact h2 H hA⟩
 ·rename_i hw
  cases h
  exact⟨B6,a0T,fun H hA=>by unfold c8f;rw[b2o hT hw];rfl⟩
 ·cases h
theorem c5O{F:FW}{G:DW}{R:Fz}{S:b8}{H:AHeap}(hG:GoF E F G R S H)(hF:E6 H)(hC:A1 E R S H){T:List D}{avs:List AV}(hT:A0 E R T avs){ops:Array Oper}{o:Oper}{K:D→b8→Prop}(h:c9M P G ops T S o K):c0m P E F ops avs H o (a0d E R K):=by
 unfold c9M at h
 rw[d0p]at h
 unfold c0m
 split at h
 ·rename_i hw
  rw[b2o hT hw]
  exact d2X hG hF hC hT h
 ·rename_i hw
  rw[b2o hT hw]
  exact⟨hF,R,S,c9,Fz.le_refl R,hC,a0T,h⟩
 ·exact h.elim
theorem c1m{F:FW}(hF:d2F F){ops:Array Oper}{T:List AV}{H:AHeap}{o:Oper}{K K':AV→AHeap→Prop}(h:c0m P E F ops T H o K)(hk:∀v H',K v H'→K' v H'):c0m P E F ops T H o K':=by
 unfold c0m a9h at*
 split<;>rename_i e<;>rw[e]at h
 ·exact d2C hF hk h
 ·exact hk _ _ h
 ·exact h
def a7j(E:i9)(R:Fz)(n:Nat)(Q:List D→b8→Prop)(avs':List AV)(H':AHeap):Prop:=E6 H'∧∃R' S' T',R.le R'∧A1 E R' S' H'∧A0 E R' T' avs'∧T'.length=n∧Q T' S'
theorem a7j.le{R R1:Fz}(h:R.le R1){n:Nat}{Q:List D→b8→Prop}{avs':List AV}{H':AHeap}(hp:a7j E R1 n Q avs' H'):a7j E R n Q avs' H':=by
 obtain⟨F,R',S',T',a,b⟩:=hp
 exact⟨F,R',S',T',Fz.le_trans h a,b⟩
theorem c8T{R0 R:Fz}(hle:R0.le R){S:b8}{H:AHeap}{T:List D}{avs:List AV}{ops:Array Oper}(F:E6 H)(hC:A1 E R S H)(hT:A0 E R T avs){o:Oper}{x:Operand}(hx:b9t o=some x)(h:b1D E w0 (t8 T x) S){Q:AV→AHeap→Prop}:a4n P E (w0.at E R0) ops avs H o Q:=by
 obtain⟨hp,h⟩:=h
 have hr:=q7 hT x
 obtain⟨dst,op,type,pos,after,guard⟩:=o
 unfold b9t at hx
 split at hx
 ·rename_i hg
  simp only at hg
  subst hg
  split at hx
  ·rename_i y hy
   simp only at hy
   subst hy
   cases hx
   unfold a4n a0F a9h c4l
   simp only[opA]
   unfold d0z
   refine⟨?_,F,R,S,t8 T x,hle,hC,hr,h⟩
   obtain⟨t,v,e⟩:=hp
   rw[e]at hr
   simp only[Rp]at hr
   obtain⟨v',e',_⟩:=hr
   exact⟨t,v',e'⟩
  ·cases hx
 ·cases hx
theorem d1O{R0:Fz}{ops:Array Oper}:∀ {l:List Oper} {T:List D} {avs:List AV} {S:b8} {H:AHeap} {R:Fz} {Q:List D→b8→Prop},R0.le R→E6 H→A1 E R S H→A0 E R T avs→c2w P (j6 P E w0) (b1D E w0) ops l T S Q→b6P P E (w0.at E R0) ops l avs H (a7j E R T.length Q)
 | [],T,avs,S,H,R,Q,h0,F,hC,hT,h=>by
  simp only[c2w,a8B]at h
  exact⟨F,R,S,T,Fz.le_refl R,hC,hT,rfl,h⟩
 |o::l,T,avs,S,H,R,Q,h0,F,hC,hT,h=>by
  simp only[c2w,a8B,c1E]at h
  have next:∀ {d:D} {v:AV} {R':Fz} {S':b8} {H':AHeap},R.le R'→E6 H'→A1 E R' S' H'→Rp E R' d v→c2w P (j6 P E w0) (b1D E w0) ops l (b9k T o.dst d) S' Q→b6P P E (w0.at E R0) ops l (a2C avs o.dst v) H' (a7j E R T.length Q):=by
   intro d v R' S' H' hle F' hC' hd h'
   have:=d1O (Fz.le_trans h0 hle) F' hC' (c9j (A0.le hle _ _ hT) o.dst hd) h'
   rw[b7N]at this
   exact b7a (fun _ _=>a7j.le hle) this
  have val:t7 P o≤1→(b7 (c9S P ops T S o) fun v=>c2w P (j6 P E w0) (b1D E w0) ops l (b9k T o.dst v) S Q)→b6P P E (w0.at E R0) ops (o::l) avs H (a7j E R T.length Q):=by
   intro hk h
   unfold b7 at h
   split at h
   ·rename_i d hd
    obtain⟨v,h1,h2⟩:=c9K hT hC hd
    rw[b6P,if_pos hk]
    exact⟨v,by rw[b5b hk];exact h2 H (hC.agr _),next (Fz.le_refl R) F hC h1 h⟩
   ·exact h.elim
  cases ha:b2l o with
  |some x=>
   simp only[ha]at h
   obtain⟨hk,hv⟩:=c1O (P:=P) (E:=E) ha
   rw[b6P,if_pos (by omega)]
   exact⟨_,by rw[b5b (by omega)];exact hv ops avs H,next (Fz.le_refl R) F hC (q7 hT _) h⟩
  |none=>
   simp only[ha]at h
   rcases hk:t7 P o with _|_|k
   ·simp only[hk]at h;exact val (by omega) h
   ·simp only[hk]at h;exact val (by omega) h
   ·simp only[hk]at h
    rw[b6P,if_neg (by omega)]
    split at h
    ·rename_i x hx;exact c8T h0 F hC hT hx h
    ·refine a3y (c8W (c1m b9N (c5O (goF h0 F hC) F hC hT h) fun v H' hq=>hq)) ?_
     rintro v H' ⟨F',R',S',d,hle,hC',hd,h'⟩
     exact next hle F' hC' hd h'
def d4x(P:Program)(E:i9)(ops:Array Oper)(R:Fz)(x:Oper×List D×b8)(y:s0):Prop:=
 x.1=y.o∧(t7 P y.o=1→∃Rd:Fz,Rd.le R∧∀H',Agr Rd x.2.2 (b1c P x.2.1 x.1) H'→c8f P E ops y.T H' y.o=some y.v)
def DsC(P:Program)(E:i9)(ops:Array Oper)(R:Fz):List (Oper×List D×b8)→List s0→Prop
 | [],[]=>True
 |x::xs,y::ys=>d4x P E ops R x y∧DsC P E ops R xs ys
 |_,_=>False
theorem DsC.le{ops:Array Oper}{R R':Fz}(hle:R.le R'):∀ {xs:List (Oper×List D×b8)} {ys:List s0},DsC P E ops R xs ys→DsC P E ops R' xs ys
 | [],[],h=>h
 |x::xs,y::ys,h=>⟨⟨h.1.1,fun k=>let ⟨Rd,a,b⟩:=h.1.2 k;⟨Rd,Fz.le_trans a hle,b⟩⟩,DsC.le hle h.2⟩
 | [],_::_,h=>h.elim
 |_::_,[],h=>h.elim
theorem DsC.snoc{ops:Array Oper}{R:Fz}{x:Oper×List D×b8}{y:s0}(h1:d4x P E ops R x y):∀ {xs:List (Oper×List D×b8)} {ys:List s0},DsC P E ops R xs ys→DsC P E ops R (xs++[x]) (ys++[y])
 | [],[],h=>⟨h1,trivial⟩
 |x::xs,y::ys,h=>⟨h.1,DsC.snoc h1 h.2⟩
 | [],_::_,h=>h.elim
 |_::_,[],h=>h.elim
theorem c3i{ops:Array Oper}{R R':Fz}(hle:R.le R'){S':b8}{H':AHeap}(hC:A1 E R' S' H'){anc:Nat}{K:Prop}:∀ {xs:List (Oper×List D×b8)} {ys:List s0} {j:Nat},DsC P E ops R xs ys→b6K P S' anc K j xs→
  K∧∀(i:Nat) (d:s0),ys[i]? =some d→t7 P d.o=1→anc.testBit (j+i)=false→b3D P E ops d.T H' d.o=some d.v
 | [],[],j,_,h=>⟨h,fun i d e=>by simp at e⟩
 |x::xs,y::ys,j,⟨⟨e1,e2⟩,hd⟩,h=>by
  have step:∀(hK:b6K P S' anc K (j+1) xs),(t7 P y.o=1→anc.testBit j=false→b7m P x.2.1 x.1 x.2.2 S')→K∧∀(i:Nat) (d:s0),(y::ys)[i]? =some d→t7 P d.o=1→anc.testBit (j+i)=false→b3D P E ops d.T H' d.o=some d.v:=fun hK hf=>by
   obtain⟨k1,k2⟩:=c3i hle hC hd hK
   refine⟨k1,fun i d hi hk ha=> ?_⟩
   cases i with
   |zero=>
    simp at hi
    subst hi
    obtain⟨Rd,g1,g2⟩:=e2 hk
    have hft:=hf hk (by simpa using ha)
    rw[b5b (by omega)]
    exact g2 H' ⟨fun j cs e=>let ⟨w,pre,g⟩:=hC.frozen j cs (hle _ _ (g1 _ _ e));⟨w,pre,g⟩,fun j o' hj hjS hoc=>by
     rw[←c3q hft hj]at hjS
     obtain⟨_,⟨pre,g⟩,_⟩:=hC.cells hjS hoc
     exact⟨_,pre,g⟩,fun j o' rows hj hjS hm=>by
     rw[←c3q hft hj]at hjS
     obtain⟨_,es,cl,a,g,_⟩:=hC.mapAt hjS hm
     exact⟨es,cl,a,g⟩⟩
   |succ i=>exact k2 i d (by simpa using hi) hk (by rw[Nat.add_assoc,Nat.add_comm 1 i];exact ha)
  simp only[b6K]at h
  split at h
  ·exact step h.2 fun _ _=>h.1
  ·rename_i hc
   refine step h fun hk ha=>c8D ?_
   rw[e1]at hc ⊢
   simp only[hk,ha,Bool.not_false,Bool.and_true,beq_self_eq_true,Bool.true_and,Bool.not_eq_true]at hc
   exact hc
 | [],_::_,_,h,_=>h.elim
 |_::_,[],_,h,_=>h.elim
theorem c8L{R0:Fz}{ops:Array Oper}:∀ {l:List s0} {xs:List (Oper×List D×b8)} {ys:List s0} {T:List D} {avs:List AV} {S:b8} {H:AHeap} {R:Fz} {Q:List D→b8→Prop},R0.le R→E6 H→A1 E R S H→A0 E R T avs→DsC P E ops R xs ys→b5m P (j6 P E w0) (b1D E w0) ops l xs T S Q→a8J P E (w0.at E R0) ops l ys avs H (a7j E R T.length Q)
 | [],xs,ys,T,avs,S,H,R,Q,h0,F,hC,hT,hD,h=>by
  simp only[b5m,a8B]at h
  exact⟨F,R,S,T,Fz.le_refl R,hC,hT,rfl,h⟩
 |s::l,xs,ys,T,avs,S,H,R,Q,h0,F,hC,hT,hD,h=>by
  simp only[b5m,a8B,c1E]at h
  have next:∀ {d:D} {v:AV} {R':Fz} {S':b8} {H':AHeap},R.le R'→E6 H'→A1 E R' S' H'→Rp E R' d v→d4x P E ops R' (s.o,T,S) ⟨s.o,s.anc,avs,v,0,0,s.wr,[]⟩→b5m P (j6 P E w0) (b1D E w0) ops l (xs++[(s.o,T,S)]) (b9k T s.o.dst d) S' Q→a8J P E (w0.at E R0) ops l (ys++[⟨s.o,s.anc,avs,v,0,0,s.wr,[]⟩]) (a2C avs s.o.dst v) H' (a7j E R T.length Q):=by
   intro d v R' S' H' hle F' hC' hd he h'
   have:=c8L (Fz.le_trans h0 hle) F' hC' (c9j (A0.le hle _ _ hT) s.o.dst hd) ((hD.le hle).snoc he) h'
   rw[b7N]at this
   exact b6X (fun _ _=>a7j.le hle) this
  have val:t7 P s.o≤1→(b7 (c9S P ops T S s.o) fun v=>b5m P (j6 P E w0) (b1D E w0) ops l (xs++[(s.o,T,S)]) (b9k T s.o.dst v) S Q)→a8J P E (w0.at E R0) ops (s::l) ys avs H (a7j E R T.length Q):=by
   intro hk h
   unfold b7 at h
   split at h
   ·rename_i d hd
    obtain⟨v,h1,h2⟩:=c9K hT hC hd
    rw[a8J,if_pos hk]
    exact⟨v,by rw[b5b hk];exact h2 H (hC.agr _),next (Fz.le_refl R) F hC h1 ⟨rfl,fun _=>⟨R,Fz.le_refl R,h2⟩⟩ h⟩
   ·exact h.elim
  cases ha:b2l s.o with
  |some x=>
   simp only[ha]at h
   obtain⟨hk,hv⟩:=c1O (P:=P) (E:=E) ha
   rw[a8J,if_pos (by omega)]
   exact⟨_,by rw[b5b (by omega)];exact hv ops avs H,next (Fz.le_refl R) F hC (q7 hT _) ⟨rfl,fun hk1=>by simp only at hk1;omega⟩ h⟩
  |none=>
   simp only[ha]at h
   rcases hk:t7 P s.o with _|_|k
   ·simp only[hk]at h;exact val (by omega) h
   ·simp only[hk]at h;exact val (by omega) h
   ·simp only[hk]at h
    rw[a8J,if_neg (by omega)]
    split at h
    ·rename_i x hx;exact c8T h0 F hC hT hx h
    ·refine a3y (c8W (c1m b9N (c5O (goF h0 F hC) F hC hT h) fun v H' hq=>hq)) ?_
     rintro v H' ⟨F',R',S',d,hle,hC',hd,h'⟩
     obtain⟨k1,k2⟩:=c3i hle hC' hD h'
     exact⟨fun i d hi hk1 ha=>k2 i d hi hk1 (by rw[Nat.zero_add];exact ha),next hle F' hC' hd ⟨rfl,fun hk1=>by simp only at hk1;omega⟩ k1⟩
end
end
section
section
variable(P:Program)(E:i9)(w0:j7)
def d3R(E:i9)(R:Fz)(n:Nat)(Q:o7→List D→b8→Prop)(ex:o7)(avs':List AV)(H':AHeap):Prop:=a7j E R n (Q ex) avs' H'
def j3(c:Code)(T:List D)(S:b8)(Q:o7→List D→b8→Prop):Prop:=
 ∀R H avs,E6 H→A1 E R S H→A0 E R T avs→L4 P E (w0.at E R) c avs H (d3R E R T.length Q)
end
def a9H:List D→List Nat→List D→List D
 |T,i::L,v::vs=>a9H (T.set i v) L vs
 |T,_,_=>T
def l9(n:Nat)(L:List Nat)(vs:List D):List D:=a9H (List.replicate n .any) L vs
def a8Z(T:List D):List Nat→List D
 | []=>[]
 |i::L=>T.getD i c9::a8Z T L
def i5(c:D)(a b:Prop):Prop:=match c with
 | .bool true=>a
 | .bool false=>b
 |_=>False
def r8(id:Nat)(Q:o7→List D→b8→Prop):o7→List D→b8→Prop
 | .exit id',T,S=>if id'=id then Q .normal T S else Q (.exit id') T S
 |e,T,S=>Q e T S
def c9n{α:Type}(k:Nat):List (Nat×α)→Option α
 | []=>none
 |(i,L)::l=>if i=k then some L else c9n k l
def hdD:Code→Option Nat
 | .region id _ _=>some (2*id)
 | .seq a b=>match hdD a with
  |some k=>some k
  |none=>hdD b
 | .cond _ a b=>match hdD a with
  |some k=>some (2*k+1)
  |none=>match hdD b with
   |some k=>some (2*k+1)
   |none=>none
 | .block _ c| .loop c=>hdD c
 |_=>none
def d5O(cuts:List (Nat×List Nat))(c:Code):Option (List Nat):=match hdD c with
 |some id=>c9n id cuts
 |none=>none
section
variable(P:Program)(E:i9)(w0:j7)(loops cuts:List (Nat×List Nat))(arrs:List (Nat×V5))
def vcD:Code→List D→b8→(o7→List D→b8→Prop)→Prop
 | .skip,T,S,Q=>Q .normal T S
 | .label _,T,S,Q=>Q .normal T S
 | .ret,T,S,Q=>Q .ret T S
 | .exit id,T,S,Q=>Q (.exit id) T S
 | .region id ops draw,T,S,Q=>match draw with
  |false=>c2w P (j6 P E w0) (b1D E w0) ops ops.toList T S (Q .normal)
  |true=>match c9n id arrs with
   |some t=>if a8t ops&&c1w ops then b1g P ops (fun ops' sd=>b5m P (j6 P E w0) (b1D E w0) ops' sd [] T S (Q .normal)) t []else False
   |none=>match b0Y P ops ops.toList []with
    |some sd=>b5m P (j6 P E w0) (b1D E w0) ops sd [] T S (Q .normal)
    |none=>False
 | .seq a b,T,S,Q=>match d5O cuts b with
  |some L=>vcD a T S fun ex T' S'=>match ex with
   | .normal=>j3 P E w0 b (l9 T.length L (a8Z T' L)) S' Q
   |e=>Q e T' S'
  |none=>vcD a T S fun ex T' S'=>match ex with
   | .normal=>vcD b T' S' Q
   |e=>Q e T' S'
 | .cond c a b,T,S,Q=>i5 (t8 T c) (vcD a T S Q) (vcD b T S Q)
 | .block id c,T,S,Q=>vcD c T S (r8 id Q)
 | .loop c,T,S,Q=>match d5O loops c with
  |some L=>j3 P E w0 (.loop c) (l9 T.length L (a8Z T L)) S Q
  |none=>j3 P E w0 (.loop c) T S Q
 |_,_,_,_=>False
end
section
variable(P:Program)(E:i9)(w0:j7)(loops cuts:List (Nat×List Nat))(arrs:List (Nat×V5))
def L3(b:Code)(Q:o7→List D→b8→Prop)(ex:o7)(T:List D)(S:b8):Prop:=match ex with
 | .normal=>vcD P E w0 loops cuts arrs b T S Q
 |e=>Q e T S
def d2t(n:Nat)(L:List Nat)(b:Code)(Q:o7→List D→b8→Prop)(ex:o7)(T:List D)(S:b8):Prop:=match ex with
 | .normal=>j3 P E w0 b (l9 n L (a8Z T L)) S Q
 |e=>Q e T S
end
def D8(N:List D→b8→Prop)(Q:o7→List D→b8→Prop)(ex:o7)(T:List D)(S:b8):Prop:=match ex with
 | .normal=>N T S
 |e=>Q e T S
def b2s(P:Program)(S:b8)(T:List D):List ResultVar→(List D→Prop)→Prop
 | [],K=>K []
 | .tmp t::l,K=>b2s P S T l fun vs=>K (T.getD t c9::vs)
 | .cell a t::l,K=>b7 (c9g P S t (T.getD a c9)) fun v=>b2s P S T l fun vs=>K (v::vs)
def d2B:List D→D
 | [v]=>v
 |vs=> .tup vs
def F3(P:Program)(fn:Func)(Q:D→b8→Prop):o7→List D→b8→Prop
 | .exit _,_,_=>False
 |_,T,S=>b2s P S T fn.results.toList fun vs=>Q (d2B vs) S
def d9(E:i9)(Q:D→b8→Prop)(d:D)(S:b8):Prop:=
 ∀R H v,A1 E R S H→Rp E R d v→∃R' S' d',R.le R'∧A1 E R' S' H∧Rp E R' d' v∧Q d' S'
section
variable{P:Program}{E:i9}{w0:j7}
theorem j3.mono{c:Code}{T:List D}{S:b8}{Q Q':o7→List D→b8→Prop}(h:j3 P E w0 c T S Q)(hq:∀ex T' S',T'.length=T.length→Q ex T' S'→Q' ex T' S'):j3 P E w0 c T S Q':=fun R H avs F hC hT=>
 (h R H avs F hC hT).mono fun ex T' H' ⟨F',R',S',T1,a,b,c,d,e⟩=>⟨F',R',S',T1,a,b,c,d,hq _ _ _ d e⟩
theorem j6.use{f:FuncId}{ds:List D}{S:b8}{Q Q':D→b8→Prop}(h:j6 P E w0 f ds S Q)(hq:∀d S',Q d S'→Q' d S'):j6 P E w0 f ds S Q':=fun R H avs hFi hC ha=>
 (h R H avs hFi hC ha).mono fun v H' ⟨F',R',S',d,a,b,c,e⟩=>⟨F',R',S',d,a,b,c,hq _ _ e⟩
theorem b3x:∀(T:List D) (L:List Nat) (vs:List D),(a9H T L vs).length=T.length
 |T,i::L,v::vs=>by rw[a9H,b3x,List.length_set]
 |T,[],_=>by simp[a9H]
 |T,_::_,[]=>by simp[a9H]
theorem o5(n:Nat)(L:List Nat)(vs:List D):(l9 n L vs).length=n:=by rw[l9,b3x,List.length_replicate]
theorem c9A{R:Fz}:∀ {avs:List AV},A0 E R (List.replicate avs.length .any) avs
 | []=>D0
 |v::avs=>u6 b7I c9A
theorem d3g{R:Fz}{T:List D}{avs:List AV}(h:A0 E R T avs)(L:List Nat):A0 E R (l9 T.length L (a8Z T L)) avs:=by
 have main:∀(L:List Nat) (T0:List D),T0.length=T.length→A0 E R T0 avs→A0 E R (a9H T0 L (a8Z T L)) avs:=by
  intro L
  induction L with
  |nil=>intro T0 hl h0;simpa [a9H,a8Z]using h0
  |cons i L ih=>
   intro T0 hl h0
   simp only[a8Z,a9H]
   refine ih _ (by rw[List.length_set,hl]) ?_
   by_cases hi:i<T.length
   ·have hlen:=h.length
    have:=h0.set i (b5U h i)
    rw[List.getD_eq_getElem?_getD (l:=avs),List.getElem?_eq_getElem (by omega),Option.getD_some,List.set_getElem_self]at this
    exact this
   ·rw[List.set_eq_of_length_le (by omega)]
    exact h0
 refine main L _ (by rw[List.length_replicate]) ?_
 rw[←h.length]
 exact c9A
theorem s4{c:Code}{T:List D}{S:b8}{Q:o7→List D→b8→Prop}{n:Nat}(L:List Nat)(hn:T.length=n)(h:j3 P E w0 c (l9 n L (a8Z T L)) S Q):j3 P E w0 c T S Q:=fun R H avs F hC hT=>by
 have:=h R H avs F hC (by rw[←hn];exact d3g hT L)
 rw[o5, ←hn]at this
 exact this
theorem q9{c:Code}{Q:o7→List D→b8→Prop}{I:Nat→List D→b8→Prop}{k:Nat}
  (step:∀n T S,T.length=k→I n T S→j3 P E w0 c T S fun ex T' S'=>match ex with| .normal=>∃m,m<n∧I m T' S'|e=>Q e T' S')
  {n:Nat} {T:List D} {S:b8} (hk:T.length=k) (h:I n T S):j3 P E w0 (.loop c) T S Q:=fun R H avs F hC hT=>by
 refine c8n (I:=fun n avs H=>a7j E R k (I n) avs H) (fun n avs H hI=> ?_) (n:=n) ⟨F,R,S,T,Fz.le_refl R,hC,hT,hk,h⟩
 obtain⟨F1,R1,S1,T1,a,b,c1,d,e⟩:=hI
 refine(L4.at_le a (step n T1 S1 d e R1 H avs F1 b c1)).mono fun ex T' H' hq=> ?_
 cases ex with
 |normal=>
  obtain⟨F2,R2,S2,T2,a2,b2,c2,d2,m,hm,e2⟩:=hq
  exact⟨m,hm,F2,R2,S2,T2,Fz.le_trans a a2,b2,c2,by rw[d2,d],e2⟩
 |exit id=>
  obtain⟨F2,R2,S2,T2,a2,b2,c2,d2,e2⟩:=hq
  exact⟨F2,R2,S2,T2,Fz.le_trans a a2,b2,c2,by rw[d2,d,hk],e2⟩
 |ret=>
  obtain⟨F2,R2,S2,T2,a2,b2,c2,d2,e2⟩:=hq
  exact⟨F2,R2,S2,T2,Fz.le_trans a a2,b2,c2,by rw[d2,d,hk],e2⟩
theorem d0k{id:Nat}{ops:Array Oper}{T:List D}{S:b8}{Q:o7→List D→b8→Prop}(h:c2w P (j6 P E w0) (b1D E w0) ops ops.toList T S (Q .normal)):j3 P E w0 (.region id ops false) T S Q:=fun R H avs F hC hT=>c4q (c4D (d1O (Fz.le_refl R) F hC hT h))
theorem c8C(hm:P.follows .mixedOrders=true){id:Nat}{ops:Array Oper}{sd:List s0}(hB:b0Y P ops ops.toList []=some sd){T:List D}{S:b8}{Q:o7→List D→b8→Prop}(h:b5m P (j6 P E w0) (b1D E w0) ops sd [] T S (Q .normal)):j3 P E w0 (.region id ops true) T S Q:=fun R H avs F hC hT=>c7I hm hB (c8L (xs:=[]) (ys:=[]) (Fz.le_refl R) F hC hT trivial h)
theorem c6q(hm:P.follows .mixedOrders=true){id:Nat}{ops:Array Oper}{t:V5}{T:List D}{S:b8}{Q:o7→List D→b8→Prop}(h:if a8t ops&&c1w ops then b1g P ops (fun ops' sd=>b5m P (j6 P E w0) (b1D E w0) ops' sd [] T S (Q .normal)) t []else False):j3 P E w0 (.region id ops true) T S Q:=fun R H avs F hC hT=>by
 split at h
 ·rename_i hok
  simp only[Bool.and_eq_true]at hok
  exact c5K hm hok.1 hok.2 (h.mono fun ops' sd ho=>c8L (xs:=[]) (ys:=[]) (Fz.le_refl R) F hC hT trivial ho)
 ·exact h.elim
variable{loops cuts:List (Nat×List Nat)}{arrs:List (Nat×V5)}
theorem b1h(hm:P.follows .mixedOrders=true):∀(c:Code) (T:List D) (S:b8) (Q:o7→List D→b8→Prop),vcD P E w0 loops cuts arrs c T S Q→j3 P E w0 c T S Q
 | .skip,T,S,Q,h=>fun R H avs F hC hT=>c7O ⟨F,R,S,T,Fz.le_refl R,hC,hT,rfl,h⟩
 | .label _,T,S,Q,h=>fun R H avs F hC hT=>c6X ⟨F,R,S,T,Fz.le_refl R,hC,hT,rfl,h⟩
 | .ret,T,S,Q,h=>fun R H avs F hC hT=>d0r ⟨F,R,S,T,Fz.le_refl R,hC,hT,rfl,h⟩
 | .exit id,T,S,Q,h=>fun R H avs F hC hT=>c8q ⟨F,R,S,T,Fz.le_refl R,hC,hT,rfl,h⟩
 | .region _ ops false,T,S,Q,h=>d0k h
 | .region id ops true,T,S,Q,h=>by
  change (match c9n id arrs with
   |some t=>if a8t ops&&c1w ops then b1g P ops (fun ops' sd=>b5m P (j6 P E w0) (b1D E w0) ops' sd [] T S (Q .normal)) t []else False
   |none=>match b0Y P ops ops.toList []with
    |some sd=>b5m P (j6 P E w0) (b1D E w0) ops sd [] T S (Q .normal)
    |none=>False)at h
  split at h
  ·exact c6q hm h
  ·split at h
   ·rename_i sd hB;exact c8C hm hB h
   ·exact h.elim
 | .seq a b,T,S,Q,h=>fun R H avs F hC hT=>by
  simp only[vcD]at h
  have fin:j3 P E w0 a T S (fun ex T' S'=>match ex with| .normal=>j3 P E w0 b T' S' Q|e=>Q e T' S')→L4 P E (w0.at E R) (.seq a b) avs H (d3R E R T.length Q):=by
   intro h
   refine c9O ((h R H avs F hC hT).mono fun ex T' H' hq=> ?_)
   cases ex with
   |normal=>
    obtain⟨F2,R2,S2,T2,a2,b2,c2,d2,e2⟩:=hq
    have:=e2 R2 H' T' F2 b2 c2
    rw[d2]at this
    exact(L4.at_le a2 this).mono fun ex T' H' hq=>a7j.le a2 hq
   |exit id=>exact hq
   |ret=>exact hq
  split at h
  ·rename_i L hL
   refine fin ((b1h hm a T S _ h).mono fun ex T' S' hl hq=> ?_)
   cases ex with
   |normal=>exact s4 L hl hq
   |exit id=>exact hq
   |ret=>exact hq
  ·refine fin ((b1h hm a T S _ h).mono fun ex T' S' hl hq=> ?_)
   cases ex with
   |normal=>exact b1h hm b T' S' Q hq
   |exit id=>exact hq
   |ret=>exact hq
 | .cond c a b,T,S,Q,h=>fun R H avs F hC hT=>by
  simp only[vcD]at h
  have hr:=q7 hT c
  unfold i5 at h
  split at h
  ·rename_i e
   rw[e]at hr
   simp only[Rp]at hr
   exact c0p (by rw[hr];exact b1h hm a T S Q h R H avs F hC hT)
  ·rename_i e
   rw[e]at hr
   simp only[Rp]at hr
   exact c0p (by rw[hr];exact b1h hm b T S Q h R H avs F hC hT)
  ·exact h.elim
 | .block id c,T,S,Q,h=>fun R H avs F hC hT=>by
  refine c5B ((b1h hm c T S _ h R H avs F hC hT).mono fun ex T' H' hq=> ?_)
  cases ex with
  |normal=>exact hq
  |ret=>exact hq
  |exit id'=>
   obtain⟨F2,R2,S2,T2,a2,b2,c2,d2,e2⟩:=hq
   simp only[r8]at e2
   simp only[c7G]
   split at e2
   ·rename_i e;rw[if_pos e];exact⟨F2,R2,S2,T2,a2,b2,c2,d2,e2⟩
   ·rename_i e;rw[if_neg e];exact⟨F2,R2,S2,T2,a2,b2,c2,d2,e2⟩
 | .loop c,T,S,Q,h=>by
  simp only[vcD]at h
  split at h
  ·rename_i L hL;exact s4 L rfl h
  ·exact h
 | .rangeFunc ..,T,S,Q,h=>h.elim
 | .scope ..,T,S,Q,h=>h.elim
 | .goto ..,T,S,Q,h=>h.elim
 | .refuse ..,T,S,Q,h=>h.elim
theorem b3T{R:Fz}{S:b8}{H:AHeap}{T:List D}{avs:List AV}(hC:A1 E R S H)(hT:A0 E R T avs):∀ {l:List ResultVar} {K:List D→Prop} {K':List AV→Prop},(∀ds vs,A0 E R ds vs→K ds→K' vs)→b2s P S T l K→a3U P E H avs l K'
 | [],K,K',hk,h=>hk [] [] D0 h
 | .tmp t::l,K,K',hk,h=>by
  have:=b3T (l:=l) (K':=fun vs=>K' (avs.getD t B6::vs)) hC hT (fun ds vs hr hK=>hk (T.getD t c9::ds) (avs.getD t B6::vs) (u6 (b5U hT t) hr) hK) h
  exact this
 | .cell a t::l,K,K',hk,h=>by
  simp only[b2s]at h
  unfold b7 at h
  split at h
  ·rename_i d hd
   have ha:=b5U hT a
   obtain⟨v,h1,h2⟩:=c9f hC ha hd
   have h2:=h2 H (hC.agr _)
   have:=b3T (l:=l) (K':=fun vs=>K' (v::vs)) hC hT (fun ds vs hr hK=>hk (d::ds) (v::vs) (u6 h1 hr) hK) h
   simp only[a3U]
   unfold c9z at h2
   split at h2
   ·rename_i o i e
    simp only[e,h2,b2g]
    exact this
   ·cases h2
  ·exact h.elim
theorem d2S{R:Fz}{ds:List D}{vs:List AV}(h:A0 E R ds vs):Rp E R (d2B ds) (c3B vs):=by
 rcases ds with _|⟨d,_|⟨d',ds⟩⟩
 ·simp only[A0]at h;subst h;exact a0T
 ·simp only[A0]at h
  obtain⟨v,_,rfl,h1,rfl⟩:=h
  exact h1
 ·have h':=h
  simp only[A0]at h
  obtain⟨v,_,rfl,h1,v2,vs',rfl,h2,h3⟩:=h
  show Rp E R (.tup (d::d'::ds)) (.tup (v::v2::vs'))
  simp only[Rp]
  exact⟨_,rfl,h'⟩
theorem c6h{f:FuncId}{fn:Func}{c:Code}(hfn:P.funcs[f]? =some fn)(hb:fn.body=some c){ds:List D}{S:b8}{Q:D→b8→Prop}
  (h:j3 P E w0 c (ds++List.replicate (fn.ntmps - ds.length) c9) S (F3 P fn (d9 E Q))):j6 P E w0 f ds S Q:=fun R H avs F hC ha=>by
 have hrow:A0 E R (ds++List.replicate (fn.ntmps - ds.length) c9) (avs++List.replicate (fn.ntmps - avs.length) B6):=by
  refine ha.append ?_
  rw[ha.length]
  generalize fn.ntmps - ds.length=m
  induction m with
  |zero=>exact D0
  |succ m ih=>exact u6 a0T ih
 have h':L4 P E (w0.at E R) c (avs++List.replicate (fn.ntmps - avs.length) B6) H (d5L P E fn (a0d E R Q)):=by
  refine(h R H _ F hC hrow).mono fun ex T' H' hq=> ?_
  obtain⟨F2,R2,S2,T2,a2,b2,c2,d2,e2⟩:=hq
  have go:∀ {l:List ResultVar},b2s P S2 T2 l (fun vs=>d9 E Q (d2B vs) S2)→a3U P E H' T' l fun vs=>a0d E R Q (c3B vs) H':=fun h=>b3T b2 c2 (fun ds vs hr hK=>by
   obtain⟨R',S',d',k1,k2,k3,k4⟩:=hK R2 H' _ b2 (d2S hr)
   exact⟨F2,R',S',d',Fz.le_trans a2 k1,k2,k3,k4⟩) h
  cases ex with
  |normal=>exact go e2
  |ret=>exact go e2
  |exit id=>exact e2
 exact c5S hfn hb h'
theorem j4(loops cuts:List (Nat×List Nat))(arrs:List (Nat×V5))(hm:P.follows .mixedOrders=true){f:FuncId}{fn:Func}{c:Code}(hfn:P.funcs[f]? =some fn)(hb:fn.body=some c){ds:List D}{S:b8}{Q:D→b8→Prop}{V:Prop}
  (e:vcD P E w0 loops cuts arrs c (ds++List.replicate (fn.ntmps - ds.length) c9) S (F3 P fn (d9 E Q))=V) (h:V):j6 P E w0 f ds S Q:=
 c6h hfn hb (b1h hm _ _ _ _ (e▸h))
theorem j0(loops cuts:List (Nat×List Nat))(arrs:List (Nat×V5))(hm:P.follows .mixedOrders=true){c:Code}{T:List D}{S:b8}{Q:o7→List D→b8→Prop}{V:Prop}(e:vcD P E w0 loops cuts arrs c T S Q=V)(h:V):j3 P E w0 c T S Q:=
 b1h hm _ _ _ _ (e▸h)
theorem d9.here{Q:D→b8→Prop}{d:D}{S:b8}(h:Q d S):d9 E Q d S:=fun R H v hC hd=>⟨R,S,d,Fz.le_refl R,hC,hd,h⟩
theorem d9.less{Q:D→b8→Prop}{d:D}{S S':b8}(hs:S'.le S)(h:d9 E Q d S'):d9 E Q d S:=fun R H v hC hd=>h R H v (hC.less hs) hd
theorem d9.mono{Q Q':D→b8→Prop}{d:D}{S:b8}(h:d9 E Q d S)(hq:∀d S,Q d S→Q' d S):d9 E Q' d S:=fun R H v hC hd=>by
 obtain⟨R',S',d',a,b,c,e⟩:=h R H v hC hd
 exact⟨R',S',d',a,b,c,hq _ _ e⟩
theorem d9.freeze{Q:D→b8→Prop}{S:b8}{k:Nat}{o:D6}(hk:S k=some o){i len cap:Nat}{ex:Bool}{sz:Nat}(hsz:o.sz=sz)(hl:i+len≤o.rows.length)(hc:len≤cap)
  (h:d9 E Q (.lst ((o.rows.drop i).take len) sz) (S.erase k)):d9 E Q (.raw k i len cap ex sz) S:=fun R H v hC hd=>by
 have hzm:sz<M8:=by simp only[Rp]at hd;exact hd.1
 obtain⟨h1,h2⟩:=hC.freeze hk (.inl (by rw[hsz];exact hzm))
 obtain⟨R',S',d',a,b,c,e⟩:=h _ H v h1 (a7X hC hk hd hsz hl hc)
 exact⟨R',S',d',Fz.le_trans h2 a,b,c,e⟩
theorem d9.freezeT{Q:D→b8→Prop}{S:b8}{k:Nat}{o:D6}(hk:S k=some o){i len cap:Nat}{ex:Bool}{sz:Nat}(hsz:o.sz=sz)(hl:i+len≤o.rows.length)(hc:len≤cap){lp lq:List D}
  (h:d9 E Q (.tup (lp++ .lst ((o.rows.drop i).take len) sz::lq)) (S.erase k)):d9 E Q (.tup (lp++ .raw k i len cap ex sz::lq)) S:=fun R H v hC hd=>by
 simp only[Rp]at hd
 obtain⟨vs,rfl,hv⟩:=hd
 obtain⟨v1,v2,rfl,g1,g2⟩:=a3D hv
 simp only[A0]at g2
 obtain⟨w,ws,rfl,g3,g4⟩:=g2
 have hzm:sz<M8:=by simp only[Rp]at g3;exact g3.1
 obtain⟨h1,h2⟩:=hC.freeze hk (.inl (by rw[hsz];exact hzm))
 obtain⟨R',S',d',a,b,c,e⟩:=h _ H (.tup (v1++w::ws)) h1 (by
  simp only[Rp]
  exact⟨_,rfl,(A0.le h2 _ _ g1).append (u6 (a7X hC hk g3 hsz hl hc) (A0.le h2 _ _ g4))⟩)
 exact⟨R',S',d',Fz.le_trans h2 a,b,c,e⟩
theorem d9.nil{Q:D→b8→Prop}{S:b8}{sz:Nat}(h:d9 E Q (.lst [] sz) S):d9 E Q .nilSlc S:=fun R H v hC hd=>h R H v hC (by simp only[Rp]at hd ⊢;exact .inl ⟨trivial,hd⟩)
theorem d9.nilT{Q:D→b8→Prop}{S:b8}{sz:Nat}{lp lq:List D}(h:d9 E Q (.tup (lp++ .lst [] sz::lq)) S):d9 E Q (.tup (lp++ .nilSlc::lq)) S:=fun R H v hC hd=>h R H v hC (by
 simp only[Rp]at hd ⊢
 obtain⟨vs,rfl,hv⟩:=hd
 obtain⟨v1,v2,rfl,g1,g2⟩:=a3D hv
 simp only[A0]at g2
 obtain⟨w,ws,rfl,g3,g4⟩:=g2
 exact⟨_,rfl,g1.append (u6 (by simp only[Rp]at g3 ⊢;exact .inl ⟨trivial,g3⟩) g4)⟩)
def P9(P:Program)(E:i9)(w0:j7)(f:FuncId)(ds:List D)(d:D):Prop:=∀S,j6 P E w0 f ds S fun d' S'=>d'=d∧S'=S
theorem P9.use{f:FuncId}{ds:List D}{d:D}(h:P9 P E w0 f ds d){S:b8}{K:D→b8→Prop}(hk:K d S):j6 P E w0 f ds S K:=(h S).use fun d' S' ⟨a,b⟩=>by subst a b;exact hk
end
end
end Go.Am
end
section
open Go.Proofs Go Go.Am
namespace Go.Proofs.Ytdkidgkiplcggaa.d
theorem mixed:Try.prog.follows .mixedOrders=true:=by kernel_rfl
abbrev a3h:FuncId:=10
abbrev J1:FuncId:=19
abbrev a5u:FuncId:=23
abbrev a7p:FuncId:=29
abbrev u7:FuncId:=30
abbrev s9:FuncId:=31
abbrev D2:FuncId:=32
abbrev D9:FuncId:=33
abbrev a2R:FuncId:=39
abbrev a5l:FuncId:=44
abbrev a2B:FuncId:=46
abbrev E0:FuncId:=47
abbrev y0:FuncId:=48
abbrev V1:FuncId:=49
abbrev a3A:FuncId:=50
abbrev a7t:FuncId:=51
abbrev a0N:FuncId:=54
abbrev a5f:FuncId:=60
abbrev B5:FuncId:=61
abbrev r7:FuncId:=62
abbrev C8:FuncId:=63
abbrev a1o:FuncId:=64
abbrev B9:FuncId:=65
abbrev a5J:FuncId:=66
abbrev Y3:FuncId:=67
abbrev a0Z:FuncId:=68
abbrev a0u:FuncId:=69
abbrev F6:FuncId:=70
abbrev a2Y:FuncId:=71
abbrev b2e:FuncId:=87
abbrev a0e:FuncId:=88
abbrev a2t:FuncId:=89
abbrev b1G:FuncId:=90
abbrev Y9:FuncId:=91
abbrev a1O:FuncId:=92
abbrev b4d:FuncId:=93
abbrev o9:FuncId:=94
abbrev i6:FuncId:=95
abbrev o3:FuncId:=96
abbrev b3L:FuncId:=97
abbrev b0T:FuncId:=98
abbrev a2N:FuncId:=99
abbrev a9w:FuncId:=100
abbrev K0:FuncId:=101
abbrev a1k:FuncId:=102
abbrev b4i:FuncId:=103
abbrev b1J:FuncId:=113
abbrev b1q:FuncId:=114
abbrev a9g:FuncId:=115
abbrev X6:FuncId:=116
abbrev A8:FuncId:=117
abbrev a1v:FuncId:=118
abbrev a1M:FuncId:=119
abbrev K8:FuncId:=120
abbrev a1A:FuncId:=121
abbrev a1L:FuncId:=122
abbrev p6:FuncId:=123
abbrev I3:FuncId:=124
abbrev E1:FuncId:=125
abbrev M5:FuncId:=126
abbrev a1W:FuncId:=127
abbrev a8m:FuncId:=129
abbrev a1j:FuncId:=130
abbrev a9f:FuncId:=131
abbrev W7:FuncId:=132
abbrev K5:FuncId:=133
abbrev Q9:FuncId:=134
abbrev a0A:FuncId:=135
abbrev P5:FuncId:=136
abbrev a2J:FuncId:=137
abbrev G9:FuncId:=138
abbrev a2S:FuncId:=139
abbrev b3C:FuncId:=140
abbrev a0K:FuncId:=141
abbrev K6:FuncId:=142
end Go.Proofs.Ytdkidgkiplcggaa.d
end
