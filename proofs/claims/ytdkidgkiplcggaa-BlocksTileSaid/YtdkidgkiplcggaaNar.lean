/-
  BlocksTileSaid: part Nar of its proof.
-/
import Derived.Test.YtdkidgkiplcggaaNaq
import Derived.Test.YtdkidgkiplcggaaRows
import Derived.KernelRfl
set_option linter.unusedVariables false
set_option linter.unusedSimpArgs false
set_option maxRecDepth 100000
section
namespace Go.Am
section
def b0j(T:List D)(dst:Option Tmp)(v:D):List D:=match dst with
 |some d=>T.set d v
 |none=>T
def a6Z:List D→(List D→Prop)→Prop
 | [],k=>k []
 |a::l,k=>a6Z l fun l'=>k (a::l')
def b9C:List D→Nat→(D→Prop)→Prop
 | [],_,k=>k b6
 |a::l,n,k=>match n with
  |0=>k a
  |n+1=>b9C l n k
def a7K(T:List D)(x:Operand)(k:D→Prop):Prop:=match x with
 | .tmp t=>b9C T t k
 |x=>k (j7 T x)
def b7(g:D)(want:Bool):Option Bool:=match g with
 | .bool b=>some (b==want)
 | .any=>none
 |_=>some false
def b0K(ops:Array Oper)(T:List D)(o:Oper):Option Bool:=
 match o.guard with
 |none=>some true
 |some (j,want)=>match (ops[j]?).bind (·.dst) with
  |none=>some false
  |some d=>match T[d]? with
   |some x=>b7 x want
   |none=>some false
def b8(g:Option Bool)(r:Option D):Option D:=match g with
 |some true=>r
 |some false=>some b6
 |none=>none
def a0a(r:Option Bool)(s:(D→b4→Prop)→Prop)(S:b4):(D→b4→Prop)→Prop:=match r with
 |some true=>s
 |some false=>fun Q=>Q b6 S
 |none=>fun _=>False
theorem c0u{r:Option Bool}{s:(D→b4→Prop)→Prop}{S:b4}{Q:D→b4→Prop}:a0a r s S Q=match r with
 |some true=>s Q
 |some false=>Q b6 S
 |none=>False:=by
 cases r with
 |none=>rfl
 |some b=>cases b<;>rfl
def c0m(P:Program)(ops:Array Oper)(T:List D)(S:b4)(o:Oper):Option D:=b8 (b0K ops T o) (c4n P T S o)
def b9k(P:Program)(G:DW)(ops:Array Oper)(T:List D)(S:b4)(o:Oper)(K:D→b4→Prop):Prop:=a0a (b0K ops T o) (c3K P G T S o) S K
structure i9 where
 w:World
 X:D→b4→Prop
instance:Coe i9 World:=⟨i9.w⟩
def c5f(w:World):i9:=⟨w,fun _ _=>False⟩
def i9.at(E:d6)(w0:i9)(R:Fz):a2z:=⟨w0.w,fun v H'=>u7 H'∧∃R' S' d,R.le R'∧o5 E R' S' H'∧Rp E R' d v∧w0.X d S'⟩
def s4(P:Program)(E:d6)(w0:i9):DW:=fun f ds S Q=>∀R H avs,u7 H→o5 E R S H→o7 E R ds avs→FnW P E (w0.at E R) f avs H (I1 E R Q)
def a4I(E:d6)(w0:i9)(d:D)(S:b4):Prop:=(∃t v,d= .ifc t v)∧w0.X d S
def b0R(o:Oper):Option Operand:=match o.guard with
 |none=>match o.op with
  | .panic x=>some x
  |_=>none
 |some _=>none
def b0u(P:Program)(G:DW)(X:D→b4→Prop)(ops:Array Oper):List Oper→List D→b4→(List D→b4→Prop)→Prop
 | [],T,S,Q=>a6Z T fun T=>Q T S
 |o::l,T,S,Q=>a6Z T fun T=>match a5t o with
  |some x=>a7K T x fun e=>b0u P G X ops l (b0j T o.dst e) S Q
  |none=>match l8 P o with
  |0|1=>a8 (c0m P ops T S o) fun v=>b0u P G X ops l (b0j T o.dst v) S Q
  |_=>match b0R o with
   |some x=>a7K T x fun e=>X e S
   |none=>b9k P G ops T S o fun v S'=>b0u P G X ops l (b0j T o.dst v) S' Q
def B1(x:D)(S S':b4):Prop:=match a7r x with
 |some k=>S' k=S k
 |none=>True
def b4u(x:D)(S S':b4):Prop:=match a7o x with
 |some k=>S' k=S k
 |none=>True
def a8F(P:Program)(T:List D)(o:Oper)(S S':b4):Prop:=match o.op with
 | .load _ a=>B1 (j7 T a) S S'
 | .convert _ _ x=>B1 (j7 T x) S S'
 | .lookup _ x _ _=>b4u (j7 T x) S S'
 | .call c=>if c3d P c then b4u (b1K T c) S S' else True
 |_=>True
def a8Y(P:Program)(o:Oper):Bool:=match o.op with
 | .load .. | .convert .. | .lookup .. =>true
 | .call c=>c3d P c
 |_=>false
def a8W(P:Program)(S':b4)(anc:Nat)(K:Prop):Nat→List (Oper×List D×b4)→Prop
 |_,[]=>K
 |j,d::ds=>if(l8 P d.1==1&&a8Y P d.1)&& !anc.testBit j then a8F P d.2.1 d.1 d.2.2 S'∧a8W P S' anc K (j+1) ds else a8W P S' anc K (j+1) ds
def a7V(P:Program)(G:DW)(X:D→b4→Prop)(ops:Array Oper):List j4→List (Oper×List D×b4)→List D→b4→(List D→b4→Prop)→Prop
 | [],_,T,S,Q=>a6Z T fun T=>Q T S
 |s::l,ds,T,S,Q=>a6Z T fun T=>match a5t s.o with
  |some x=>a7K T x fun e=>a7V P G X ops l (ds++[(s.o,T,S)]) (b0j T s.o.dst e) S Q
  |none=>match l8 P s.o with
  |0|1=>a8 (c0m P ops T S s.o) fun v=>a7V P G X ops l (ds++[(s.o,T,S)]) (b0j T s.o.dst v) S Q
  |_=>match b0R s.o with
   |some x=>a7K T x fun e=>X e S
   |none=>b9k P G ops T S s.o fun v S'=>a8W P S' s.anc (a7V P G X ops l (ds++[(s.o,T,S)]) (b0j T s.o.dst v) S' Q) 0 ds
section
variable{P:Program}{E:d6}{w0:i9}
theorem a2R:∀ {T:List D} {k:List D→Prop},a6Z T k=k T
 | [],k=>rfl
 |a::l,k=>by simp only[a6Z];rw[a2R]
theorem b6y:∀ {T:List D} {n:Nat} {k:D→Prop},b9C T n k=k (T.getD n b6)
 | [],n,k=>rfl
 |a::l,0,k=>rfl
 |a::l,n+1,k=>by simp only[b9C];rw[b6y];simp
theorem b2t{T:List D}{x:Operand}{k:D→Prop}:a7K T x k=k (j7 T x):=by
 cases x<;>first|rfl|exact b6y
theorem a9Z(T:List D)(dst:Option Tmp)(v:D):(b0j T dst v).length=T.length:=by
 cases dst with
 |none=>rfl
 |some d=>exact List.length_set
theorem b9H{R:Fz}{T:List D}{avs:List AV}(h:o7 E R T avs)(dst:Option Tmp){d:D}{v:AV}(hd:Rp E R d v):o7 E R (b0j T dst d) (W4 avs dst v):=by
 cases dst with
 |none=>exact h
 |some t=>exact h.set t hd
theorem a4X{R:Fz}{v:AV}:Rp E R .any v:=by simp only[Rp]
theorem c1Q{F:FW}(hF:c1C F){T:List AV}{H:AHeap}{o:Oper}{K K':AV→AHeap→Prop}(hk:∀v H',K v H'→K' v H')(h:opW P E F T H o K):opW P E F T H o K':=by
 have o1:∀ {α:Type} {r:Option α} {f g:α→Prop},(∀x,f x→g x)→a8 r f→a8 r g:=by
  intro α r f g hfg h
  cases r with
  |none=>exact h
  |some x=>exact hfg x h
 have o2:∀ {r:Option (AV×AHeap)},a0y r K→a0y r K':=by
  intro r h
  cases r with
  |none=>exact h
  |some x=>exact hk _ _ h
 have rf:∀ {r:Option P0},a6T F r K→a6T F r K':=by
  intro r h
  unfold a6T at*
  split
  ·exact hk _ _ h
  ·exact hF _ _ _ _ _ h hk
  ·exact h
 obtain⟨dst,op,type,pos,after,guard⟩:=o
 cases op<;>simp only[opW]at h ⊢ <;>try (first|exact o1 (fun v hv=>hk _ _ hv) h|exact o2 h)
 case box e x=>exact hk _ _ h
 case range t x=>exact a9N hk h
 case next it s=>exact b2p hk h
 case entry it=>exact a9U hk h
 case store t a x=>
  unfold b4M at*
  split at h
  ·split at h
   ·rename_i hs
    rw[if_pos hs]
    exact o1 (fun v hv=>hk _ _ hv) h
   ·exact h.elim
  ·exact h.elim
 case makeMap t r=>
  cases r with
  |none=>exact hk _ _ h
  |some x=>exact h
 case call c=>
  cases hc:c.callee with
  |value f=>
   simp only[hc]at h ⊢
   cases f with
   |func g=>
    simp only at h ⊢
    split at h
    ·rename_i hb;rw[if_pos hb];exact hF _ _ _ _ _ h hk
    ·exact h.elim
   |tmp t=>exact rf h
   |const v=>exact rf h
   |global g=>exact rf h
  |invoke r m=>
   simp only[hc]at h ⊢
   exact rf h
  |builtin b=>
   simp only[hc]at h ⊢
   generalize c.args.toList.map (c8 T)=as1 at h ⊢
   generalize c.argTypes.toList=ts at h ⊢
   cases b<;>(try simp only at h ⊢)<;>try (exact o1 (fun v hv=>hk _ _ hv) h)
   case append=>
    rcases as1 with _|⟨s,_|⟨x,_|⟨y,as1⟩⟩⟩<;>rcases ts with _|⟨sT,_|⟨xT,_|⟨u,ts⟩⟩⟩<;>first|exact o2 h|exact o1 (fun v hv=>hk _ _ hv) h
   case copy=>
    rcases as1 with _|⟨s,_|⟨x,_|⟨y,as1⟩⟩⟩<;>rcases ts with _|⟨sT,ts⟩<;>first|exact o2 h|exact o1 (fun v hv=>hk _ _ hv) h
theorem b2y.weak{w:World}{X X':AV→AHeap→Prop}(hX:∀v H,X v H→X' v H){ρ:p6}{H:AHeap}{Q:AV→AHeap→Prop}{e:Ending}{w':World}(h:b2y E ⟨w,X⟩ ρ H Q e w'):b2y E ⟨w,X'⟩ ρ H Q e w':=by
 cases e with
 |returned u=>exact h
 |panicked c=>
  obtain⟨u,ρ',v,H',h1,h2,h3⟩:=h
  exact⟨u,ρ',v,H',h1,hX _ _ h2,h3⟩
 |outgrown=>exact h
theorem FnW.weak{w:World}{X X':AV→AHeap→Prop}(hX:∀v H,X v H→X' v H){f:FuncId}{args:List AV}{H:AHeap}{Q:AV→AHeap→Prop}(h:FnW P E ⟨w,X⟩ f args H Q):FnW P E ⟨w,X'⟩ f args H Q:=
 fun w ρ vargs R hf hr=>Calls.mono (h w ρ vargs R hf hr) fun e w' he=>he.weak hX
theorem C0.weak{w:World}{X X':AV→AHeap→Prop}(hX:∀v H,X v H→X' v H){c:Code}{T:List AV}{H:AHeap}{Q:j6→List AV→AHeap→Prop}(h:C0 P E ⟨w,X⟩ c T H Q):C0 P E ⟨w,X'⟩ c T H Q:=
 fun w ρ a R hR hf hT hk hp=>h w ρ a R hR hf hT hk fun u v ρ' H' a' w' hx=>hp u v ρ' H' a' w' (hX _ _ hx)
theorem i9.at_le{R R':Fz}(h:R.le R'):∀v H,(w0.at E R').X v H→(w0.at E R).X v H:=fun v H ⟨F,R1,S,d,a,b⟩=>⟨F,R1,S,d,Fz.le_trans h a,b⟩
theorem FnW.at_le{R R':Fz}(h:R.le R'){f:FuncId}{args:List AV}{H:AHeap}{Q:AV→AHeap→Prop}(hf:FnW P E (w0.at E R') f args H Q):FnW P E (w0.at E R) f args H Q:=FnW.weak (i9.at_le h) hf
theorem C0.at_le{R R':Fz}(h:R.le R'){c:Code}{T:List AV}{H:AHeap}{Q:j6→List AV→AHeap→Prop}(hf:C0 P E (w0.at E R') c T H Q):C0 P E (w0.at E R) c T H Q:=C0.weak (i9.at_le h) hf
theorem goF{R0 R:Fz}(h:R0.le R){S:b4}{H:AHeap}(F:u7 H)(hC:o5 E R S H):GoF E (FnW P E (w0.at E R0)) (s4 P E w0) R S H:=fun f ds avs K ha hf=>FnW.at_le h (hf R H avs F hC ha)
theorem b1Z{w0:a2z}:c1C (FnW P E w0):=fun f args H Q Q' h hq=>h.mono hq
theorem a5r{R:Fz}{T:List D}{avs:List AV}(h:o7 E R T avs){ops:Array Oper}{o:Oper}{b:Bool}(hw:b0K ops T o=some b):M5 ops avs o=some b:=by
 unfold b0K at hw
 unfold M5
 cases hg:o.guard with
 |none=>rw[hg]at hw;exact hw
 |some jw=>
  obtain⟨j,want⟩:=jw
  simp only[hg]at hw ⊢
  cases hd:(ops[j]?).bind (·.dst) with
  |none=>simp only[hd]at hw ⊢;exact hw
  |some d=>
   simp only[hd]at hw ⊢
   cases hx:T[d]? with
   |none=>
    have:avs[d]? =none:=List.getElem?_eq_none (by rw[h.length];exact List.getElem?_eq_none_iff.1 hx)
    simp only[hx]at hw
    simp only[this]
    exact hw
   |some x=>
    simp only[hx]at hw
    obtain⟨v,h1,h2⟩:=a0T h hx
    simp only[h1]
    cases x<;>simp only[b7]at hw<;>try (cases hw;done)
    all_goals
     simp only[Rp]at h2
     first
      |(subst h2;exact hw)
      |(rcases h2 with ⟨_,rfl⟩|⟨o,j,cap,ex,z,rfl,_⟩<;>exact hw)
      |(obtain⟨o,j,cap,ex,z,all,rfl,_⟩:=h2;exact hw)
      |(obtain⟨o,j,all,rfl,_⟩:=h2;exact hw)
      |(obtain⟨a',b',rfl,_⟩:=h2;exact hw)
      |(obtain⟨v',rfl,_⟩:=h2;exact hw)
      |(obtain⟨_,rfl⟩:=(h2:_∧_);exact hw)
      |(obtain⟨_,j,cap,ex,all,rfl,_⟩:=(h2:_∧_);exact hw)
theorem b4l{T:List D}{o:Oper}{S S':b4}(h:a8F P T o S S'){k:Nat}(hk:a4N P T o=some k):S' k=S k:=by
 unfold a4N at hk
 unfold a8F at h
 split at hk
 ·rename_i e;simp only[e,B1,hk]at h;exact h
 ·rename_i e;simp only[e,B1,hk]at h;exact h
 ·rename_i e;simp only[e,b4u,hk]at h;exact h
 ·rename_i e
  simp only[e]at h
  split at hk
  ·rename_i hl;rw[if_pos hl]at h;simp only[b4u,hk]at h;exact h
  ·cases hk
 ·cases hk
theorem b7F{T:List D}{o:Oper}{S S':b4}(h:a8Y P o=false):a8F P T o S S':=by
 unfold a8F
 split
 ·rename_i e;simp[a8Y,e]at h
 ·rename_i e;simp[a8Y,e]at h
 ·rename_i e;simp[a8Y,e]at h
 ·rename_i e;simp only[a8Y,e]at h;rw[h,if_neg (by decide)];trivial
 ·trivial
theorem b8U{R:Fz}{S:b4}{H:AHeap}{T:List D}{avs:List AV}(hT:o7 E R T avs)(hC:o5 E R S H){ops:Array Oper}{o:Oper}{d:D}(h:c0m P ops T S o=some d):
  ∃v,Rp E R d v∧∀H,Agr R S (a4N P T o) H→b8x P E ops avs H o=some v:=by
 unfold c0m b8 at h
 split at h
 ·rename_i hw
  obtain⟨v,h1,h2⟩:=c3b hT hC h
  exact⟨v,h1,fun H hA=>by unfold b8x;rw[a5r hT hw];exact h2 H hA⟩
 ·rename_i hw
  cases h
  exact⟨o6,N4,fun H hA=>by unfold b8x;rw[a5r hT hw];rfl⟩
 ·cases h
theorem b7e{F:FW}{G:DW}{R:Fz}{S:b4}{H:AHeap}(hG:GoF E F G R S H)(hF:u7 H)(hC:o5 E R S H){T:List D}{avs:List AV}(hT:o7 E R T avs){ops:Array Oper}{o:Oper}{K:D→b4→Prop}(h:b9k P G ops T S o K):b1T P E F ops avs H o (I1 E R K):=by
 unfold b9k at h
 rw[c0u]at h
 unfold b1T
 split at h
 ·rename_i hw
  rw[a5r hT hw]
  exact c2R hG hF hC hT h
 ·rename_i hw
  rw[a5r hT hw]
  exact⟨hF,R,S,b6,Fz.le_refl R,hC,N4,h⟩
 ·exact h.elim
theorem b1P{F:FW}(hF:c1C F){ops:Array Oper}{T:List AV}{H:AHeap}{o:Oper}{K K':AV→AHeap→Prop}(h:b1T P E F ops T H o K)(hk:∀v H',K v H'→K' v H'):b1T P E F ops T H o K':=by
 unfold b1T a3J at*
 split<;>rename_i e<;>rw[e]at h
 ·exact c1Q hF hk h
 ·exact hk _ _ h
 ·exact h
def a1C(E:d6)(R:Fz)(n:Nat)(Q:List D→b4→Prop)(avs':List AV)(H':AHeap):Prop:=u7 H'∧∃R' S' T',R.le R'∧o5 E R' S' H'∧o7 E R' T' avs'∧T'.length=n∧Q T' S'
theorem a1C.le{R R1:Fz}(h:R.le R1){n:Nat}{Q:List D→b4→Prop}{avs':List AV}{H':AHeap}(hp:a1C E R1 n Q avs' H'):a1C E R n Q avs' H':=by
 obtain⟨F,R',S',T',a,b⟩:=hp
 exact⟨F,R',S',T',Fz.le_trans h a,b⟩
theorem b8K{R0 R:Fz}(hle:R0.le R){S:b4}{H:AHeap}{T:List D}{avs:List AV}{ops:Array Oper}(F:u7 H)(hC:o5 E R S H)(hT:o7 E R T avs){o:Oper}{x:Operand}(hx:b0R o=some x)(h:a4I E w0 (j7 T x) S){Q:AV→AHeap→Prop}:Y1 P E (w0.at E R0) ops avs H o Q:=by
 obtain⟨hp,h⟩:=h
 have hr:=g8 hT x
 obtain⟨dst,op,type,pos,after,guard⟩:=o
 unfold b0R at hx
 split at hx
 ·rename_i hg
  simp only at hg
  subst hg
  split at hx
  ·rename_i y hy
   simp only at hy
   subst hy
   cases hx
   unfold Y1 M5 a3J b3o
   simp only[M7]
   unfold c0n
   refine .inl ⟨?_,F,R,S,j7 T x,hle,hC,hr,h⟩
   obtain⟨t,v,e⟩:=hp
   rw[e]at hr
   simp only[Rp]at hr
   obtain⟨v',e',_⟩:=hr
   exact⟨t,v',e'⟩
  ·cases hx
 ·cases hx
theorem b4Q{R0:Fz}{ops:Array Oper}:∀ {l:List Oper} {T:List D} {avs:List AV} {S:b4} {H:AHeap} {R:Fz} {Q:List D→b4→Prop},R0.le R→u7 H→o5 E R S H→o7 E R T avs→b0u P (s4 P E w0) (a4I E w0) ops l T S Q→a8v P E (w0.at E R0) ops l avs H (a1C E R T.length Q)
 | [],T,avs,S,H,R,Q,h0,F,hC,hT,h=>by
  simp only[b0u,a2R]at h
  exact⟨F,R,S,T,Fz.le_refl R,hC,hT,rfl,h⟩
 |o::l,T,avs,S,H,R,Q,h0,F,hC,hT,h=>by
  simp only[b0u,a2R,b2t]at h
  have next:∀ {d:D} {v:AV} {R':Fz} {S':b4} {H':AHeap},R.le R'→u7 H'→o5 E R' S' H'→Rp E R' d v→b0u P (s4 P E w0) (a4I E w0) ops l (b0j T o.dst d) S' Q→a8v P E (w0.at E R0) ops l (W4 avs o.dst v) H' (a1C E R T.length Q):=by
   intro d v R' S' H' hle F' hC' hd h'
   have:=b4Q (Fz.le_trans h0 hle) F' hC' (b9H (o7.le hle _ _ hT) o.dst hd) h'
   rw[a9Z]at this
   exact a8R (fun _ _=>a1C.le hle) this
  have val:l8 P o≤1→(a8 (c0m P ops T S o) fun v=>b0u P (s4 P E w0) (a4I E w0) ops l (b0j T o.dst v) S Q)→a8v P E (w0.at E R0) ops (o::l) avs H (a1C E R T.length Q):=by
   intro hk h
   unfold a8 at h
   split at h
   ·rename_i d hd
    obtain⟨v,h1,h2⟩:=b8U hT hC hd
    rw[a8v,if_pos hk]
    exact⟨v,by rw[a7C hk];exact h2 H (hC.agr _),next (Fz.le_refl R) F hC h1 h⟩
   ·exact h.elim
  cases ha:a5t o with
  |some x=>
   simp only[ha]at h
   obtain⟨hk,hv⟩:=b2K (P:=P) (E:=E) ha
   rw[a8v,if_pos (by omega)]
   exact⟨_,by rw[a7C (by omega)];exact hv ops avs H,next (Fz.le_refl R) F hC (g8 hT _) h⟩
  |none=>
   simp only[ha]at h
   rcases hk:l8 P o with _|_|k
   ·simp only[hk]at h;exact val (by omega) h
   ·simp only[hk]at h;exact val (by omega) h
   ·simp only[hk]at h
    rw[a8v,if_neg (by omega)]
    split at h
    ·rename_i x hx;exact b8K h0 F hC hT hx h
    ·refine V2 (b9m (b1P b1Z (b7e (goF h0 F hC) F hC hT h) fun v H' hq=>hq)) ?_
     rintro v H' ⟨F',R',S',d,hle,hC',hd,h'⟩
     exact next hle F' hC' hd h'
def c3N(P:Program)(E:d6)(ops:Array Oper)(R:Fz)(x:Oper×List D×b4)(y:j4):Prop:=
 x.1=y.o∧(l8 P y.o=1→∃Rd:Fz,Rd.le R∧∀H',Agr Rd x.2.2 (a4N P x.2.1 x.1) H'→b8x P E ops y.T H' y.o=some y.v)
def DsC(P:Program)(E:d6)(ops:Array Oper)(R:Fz):List (Oper×List D×b4)→List j4→Prop
 | [],[]=>True
 |x::xs,y::ys=>c3N P E ops R x y∧DsC P E ops R xs ys
 |_,_=>False
theorem DsC.le{ops:Array Oper}{R R':Fz}(hle:R.le R'):∀ {xs:List (Oper×List D×b4)} {ys:List j4},DsC P E ops R xs ys→DsC P E ops R' xs ys
 | [],[],h=>h
 |x::xs,y::ys,h=>⟨⟨h.1.1,fun k=>let ⟨Rd,a,b⟩:=h.1.2 k;⟨Rd,Fz.le_trans a hle,b⟩⟩,DsC.le hle h.2⟩
 | [],_::_,h=>h.elim
 |_::_,[],h=>h.elim
theorem DsC.snoc{ops:Array Oper}{R:Fz}{x:Oper×List D×b4}{y:j4}(h1:c3N P E ops R x y):∀ {xs:List (Oper×List D×b4)} {ys:List j4},DsC P E ops R xs ys→DsC P E ops R (xs++[x]) (ys++[y])
 | [],[],h=>⟨h1,trivial⟩
 |x::xs,y::ys,h=>⟨h.1,DsC.snoc h1 h.2⟩
 | [],_::_,h=>h.elim
 |_::_,[],h=>h.elim
theorem b3Y{ops:Array Oper}{R R':Fz}(hle:R.le R'){S':b4}{H':AHeap}(hC:o5 E R' S' H'){anc:Nat}{K:Prop}:∀ {xs:List (Oper×List D×b4)} {ys:List j4} {j:Nat},DsC P E ops R xs ys→a8W P S' anc K j xs→
  K∧∀(i:Nat) (d:j4),ys[i]? =some d→l8 P d.o=1→anc.testBit (j+i)=false→a6C P E ops d.T H' d.o=some d.v
 | [],[],j,_,h=>⟨h,fun i d e=>by simp at e⟩
 |x::xs,y::ys,j,⟨⟨e1,e2⟩,hd⟩,h=>by
  have step:∀(hK:a8W P S' anc K (j+1) xs),(l8 P y.o=1→anc.testBit j=false→a8F P x.2.1 x.1 x.2.2 S')→K∧∀(i:Nat) (d:j4),(y::ys)[i]? =some d→l8 P d.o=1→anc.testBit (j+i)=false→a6C P E ops d.T H' d.o=some d.v:=fun hK hf=>by
   obtain⟨k1,k2⟩:=b3Y hle hC hd hK
   refine⟨k1,fun i d hi hk ha=> ?_⟩
   cases i with
   |zero=>
    simp at hi
    subst hi
    obtain⟨Rd,g1,g2⟩:=e2 hk
    have hft:=hf hk (by simpa using ha)
    rw[a7C (by omega)]
    exact g2 H' ⟨fun j cs e=>let ⟨w,pre,g⟩:=hC.frozen j cs (hle _ _ (g1 _ _ e));⟨w,pre,g⟩,fun j o' hj hjS hoc=>by
     rw[←b4l hft hj]at hjS
     obtain⟨_,⟨pre,g⟩,_⟩:=hC.cells hjS hoc
     exact⟨_,pre,g⟩,fun j o' rows hj hjS hm=>by
     rw[←b4l hft hj]at hjS
     obtain⟨_,es,cl,a,g,_⟩:=hC.mapAt hjS hm
     exact⟨es,cl,a,g⟩⟩
   |succ i=>exact k2 i d (by simpa using hi) hk (by rw[Nat.add_assoc,Nat.add_comm 1 i];exact ha)
  simp only[a8W]at h
  split at h
  ·exact step h.2 fun _ _=>h.1
  ·rename_i hc
   refine step h fun hk ha=>b7F ?_
   rw[e1]at hc ⊢
   simp only[hk,ha,Bool.not_false,Bool.and_true,beq_self_eq_true,Bool.true_and,Bool.not_eq_true]at hc
   exact hc
 | [],_::_,_,h,_=>h.elim
 |_::_,[],_,h,_=>h.elim
theorem b7H{R0:Fz}{ops:Array Oper}:∀ {l:List j4} {xs:List (Oper×List D×b4)} {ys:List j4} {T:List D} {avs:List AV} {S:b4} {H:AHeap} {R:Fz} {Q:List D→b4→Prop},R0.le R→u7 H→o5 E R S H→o7 E R T avs→DsC P E ops R xs ys→a7V P (s4 P E w0) (a4I E w0) ops l xs T S Q→a3z P E (w0.at E R0) ops l ys avs H (a1C E R T.length Q)
 | [],xs,ys,T,avs,S,H,R,Q,h0,F,hC,hT,hD,h=>by
  simp only[a7V,a2R]at h
  exact⟨F,R,S,T,Fz.le_refl R,hC,hT,rfl,h⟩
 |s::l,xs,ys,T,avs,S,H,R,Q,h0,F,hC,hT,hD,h=>by
  simp only[a7V,a2R,b2t]at h
  have next:∀ {d:D} {v:AV} {R':Fz} {S':b4} {H':AHeap},R.le R'→u7 H'→o5 E R' S' H'→Rp E R' d v→c3N P E ops R' (s.o,T,S) ⟨s.o,s.anc,avs,v,0,0,s.wr,[]⟩→a7V P (s4 P E w0) (a4I E w0) ops l (xs++[(s.o,T,S)]) (b0j T s.o.dst d) S' Q→a3z P E (w0.at E R0) ops l (ys++[⟨s.o,s.anc,avs,v,0,0,s.wr,[]⟩]) (W4 avs s.o.dst v) H' (a1C E R T.length Q):=by
   intro d v R' S' H' hle F' hC' hd he h'
   have:=b7H (Fz.le_trans h0 hle) F' hC' (b9H (o7.le hle _ _ hT) s.o.dst hd) ((hD.le hle).snoc he) h'
   rw[a9Z]at this
   exact a9i (fun _ _=>a1C.le hle) this
  have val:l8 P s.o≤1→(a8 (c0m P ops T S s.o) fun v=>a7V P (s4 P E w0) (a4I E w0) ops l (xs++[(s.o,T,S)]) (b0j T s.o.dst v) S Q)→a3z P E (w0.at E R0) ops (s::l) ys avs H (a1C E R T.length Q):=by
   intro hk h
   unfold a8 at h
   split at h
   ·rename_i d hd
    obtain⟨v,h1,h2⟩:=b8U hT hC hd
    rw[a3z,if_pos hk]
    exact⟨v,by rw[a7C hk];exact h2 H (hC.agr _),next (Fz.le_refl R) F hC h1 ⟨rfl,fun _=>⟨R,Fz.le_refl R,h2⟩⟩ h⟩
   ·exact h.elim
  cases ha:a5t s.o with
  |some x=>
   simp only[ha]at h
   obtain⟨hk,hv⟩:=b2K (P:=P) (E:=E) ha
   rw[a3z,if_pos (by omega)]
   exact⟨_,by rw[a7C (by omega)];exact hv ops avs H,next (Fz.le_refl R) F hC (g8 hT _) ⟨rfl,fun hk1=>by simp only at hk1;omega⟩ h⟩
  |none=>
   simp only[ha]at h
   rcases hk:l8 P s.o with _|_|k
   ·simp only[hk]at h;exact val (by omega) h
   ·simp only[hk]at h;exact val (by omega) h
   ·simp only[hk]at h
    rw[a3z,if_neg (by omega)]
    split at h
    ·rename_i x hx;exact b8K h0 F hC hT hx h
    ·refine V2 (b9m (b1P b1Z (b7e (goF h0 F hC) F hC hT h) fun v H' hq=>hq)) ?_
     rintro v H' ⟨F',R',S',d,hle,hC',hd,h'⟩
     obtain⟨k1,k2⟩:=b3Y hle hC' hD h'
     exact⟨fun i d hi hk1 ha=>k2 i d hi hk1 (by rw[Nat.zero_add];exact ha),next hle F' hC' hd ⟨rfl,fun hk1=>by simp only at hk1;omega⟩ k1⟩
end
end
section
section
variable(P:Program)(E:d6)(w0:i9)
def c1B(E:d6)(R:Fz)(n:Nat)(Q:j6→List D→b4→Prop)(ex:j6)(avs':List AV)(H':AHeap):Prop:=a1C E R n (Q ex) avs' H'
def d5(c:Code)(T:List D)(S:b4)(Q:j6→List D→b4→Prop):Prop:=
 ∀R H avs,u7 H→o5 E R S H→o7 E R T avs→C0 P E (w0.at E R) c avs H (c1B E R T.length Q)
end
def V4:List D→List Nat→List D→List D
 |T,i::L,v::vs=>V4 (T.set i v) L vs
 |T,_,_=>T
def f0(n:Nat)(L:List Nat)(vs:List D):List D:=V4 (List.replicate n .any) L vs
def a3L(T:List D):List Nat→List D
 | []=>[]
 |i::L=>T.getD i b6::a3L T L
def d9(c:D)(a b:Prop):Prop:=match c with
 | .bool true=>a
 | .bool false=>b
 |_=>False
def s7(id:Nat)(Q:j6→List D→b4→Prop):j6→List D→b4→Prop
 | .exit id',T,S=>if id'=id then Q .normal T S else Q (.exit id') T S
 |e,T,S=>Q e T S
def b8P{α:Type}(k:Nat):List (Nat×α)→Option α
 | []=>none
 |(i,L)::l=>if i=k then some L else b8P k l
def hdD:Code→Option Nat
 | .region id _ _=>some (2*id)
 | .seq a b=>match hdD a with
  |some k=>some k
  |none=>hdD b
 | .cond _ a b=>match hdD a with
  |some k=>some (2*k+1)
  |none=>match hdD b with
   |some k=>some (2*k+1)
   |none=>none
 | .block _ c| .loop c=>hdD c
 |_=>none
def c4Q(cuts:List (Nat×List Nat))(c:Code):Option (List Nat):=match hdD c with
 |some id=>b8P id cuts
 |none=>none
section
variable(P:Program)(E:d6)(w0:i9)(loops cuts:List (Nat×List Nat))(arrs:List (Nat×Arr))
def vcD:Code→List D→b4→(j6→List D→b4→Prop)→Prop
 | .skip,T,S,Q=>Q .normal T S
 | .label _,T,S,Q=>Q .normal T S
 | .ret,T,S,Q=>Q .ret T S
 | .exit id,T,S,Q=>Q (.exit id) T S
 | .region id ops draw,T,S,Q=>match draw with
  |false=>b0u P (s4 P E w0) (a4I E w0) ops ops.toList T S (Q .normal)
  |true=>match b8P id arrs with
   |some t=>if a3i ops&&b1M ops then a5g P ops (fun ops' sd=>a7V P (s4 P E w0) (a4I E w0) ops' sd [] T S (Q .normal)) t []else False
   |none=>match a5l P ops ops.toList []with
    |some sd=>a7V P (s4 P E w0) (a4I E w0) ops sd [] T S (Q .normal)
    |none=>False
 | .seq a b,T,S,Q=>match c4Q cuts b with
  |some L=>vcD a T S fun ex T' S'=>match ex with
   | .normal=>d5 P E w0 b (f0 T.length L (a3L T' L)) S' Q
   |e=>Q e T' S'
  |none=>vcD a T S fun ex T' S'=>match ex with
   | .normal=>vcD b T' S' Q
   |e=>Q e T' S'
 | .cond c a b,T,S,Q=>d9 (j7 T c) (vcD a T S Q) (vcD b T S Q)
 | .block id c,T,S,Q=>vcD c T S (s7 id Q)
 | .loop c,T,S,Q=>match c4Q loops c with
  |some L=>d5 P E w0 (.loop c) (f0 T.length L (a3L T L)) S Q
  |none=>d5 P E w0 (.loop c) T S Q
 |_,_,_,_=>False
end
section
variable(P:Program)(E:d6)(w0:i9)(loops cuts:List (Nat×List Nat))(arrs:List (Nat×Arr))
def X9(b:Code)(Q:j6→List D→b4→Prop)(ex:j6)(T:List D)(S:b4):Prop:=match ex with
 | .normal=>vcD P E w0 loops cuts arrs b T S Q
 |e=>Q e T S
def b8z(n:Nat)(L:List Nat)(b:Code)(Q:j6→List D→b4→Prop)(ex:j6)(T:List D)(S:b4):Prop:=match ex with
 | .normal=>d5 P E w0 b (f0 n L (a3L T L)) S Q
 |e=>Q e T S
end
def E4(N:List D→b4→Prop)(Q:j6→List D→b4→Prop)(ex:j6)(T:List D)(S:b4):Prop:=match ex with
 | .normal=>N T S
 |e=>Q e T S
def a5G(P:Program)(S:b4)(T:List D):List ResultVar→(List D→Prop)→Prop
 | [],K=>K []
 | .tmp t::l,K=>a5G P S T l fun vs=>K (T.getD t b6::vs)
 | .cell a t::l,K=>a8 (b8H P S t (T.getD a b6)) fun v=>a5G P S T l fun vs=>K (v::vs)
def c0S:List D→D
 | [v]=>v
 |vs=> .tup vs
def P2(P:Program)(fn:Func)(Q:D→b4→Prop):j6→List D→b4→Prop
 | .exit _,_,_=>False
 |_,T,S=>a5G P S T fn.results.toList fun vs=>Q (c0S vs) S
def b9(E:d6)(Q:D→b4→Prop)(d:D)(S:b4):Prop:=
 ∀R H v,o5 E R S H→Rp E R d v→∃R' S' d',R.le R'∧o5 E R' S' H∧Rp E R' d' v∧Q d' S'
section
variable{P:Program}{E:d6}{w0:i9}
theorem d5.mono{c:Code}{T:List D}{S:b4}{Q Q':j6→List D→b4→Prop}(h:d5 P E w0 c T S Q)(hq:∀ex T' S',T'.length=T.length→Q ex T' S'→Q' ex T' S'):d5 P E w0 c T S Q':=fun R H avs F hC hT=>
 (h R H avs F hC hT).mono fun ex T' H' ⟨F',R',S',T1,a,b,c,d,e⟩=>⟨F',R',S',T1,a,b,c,d,hq _ _ _ d e⟩
theorem s4.use{f:FuncId}{ds:List D}{S:b4}{Q Q':D→b4→Prop}(h:s4 P E w0 f ds S Q)(hq:∀d S',Q d S'→Q' d S'):s4 P E w0 f ds S Q':=fun R H avs hFi hC ha=>
 (h R H avs hFi hC ha).mono fun v H' ⟨F',R',S',d,a,b,c,e⟩=>⟨F',R',S',d,a,b,c,hq _ _ e⟩
theorem a6u:∀(T:List D) (L:List Nat) (vs:List D),(V4 T L vs).length=T.length
 |T,i::L,v::vs=>by rw[V4,a6u,List.length_set]
 |T,[],_=>by simp[V4]
 |T,_::_,[]=>by simp[V4]
theorem i6(n:Nat)(L:List Nat)(vs:List D):(f0 n L vs).length=n:=by rw[f0,a6u,List.length_replicate]
theorem b8N{R:Fz}:∀ {avs:List AV},o7 E R (List.replicate avs.length .any) avs
 | []=>u6
 |v::avs=>l7 a4X b8N
theorem c2E{R:Fz}{T:List D}{avs:List AV}(h:o7 E R T avs)(L:List Nat):o7 E R (f0 T.length L (a3L T L)) avs:=by
 have main:∀(L:List Nat) (T0:List D),T0.length=T.length→o7 E R T0 avs→o7 E R (V4 T0 L (a3L T L)) avs:=by
  intro L
  induction L with
  |nil=>intro T0 hl h0;simpa [V4,a3L]using h0
  |cons i L ih=>
   intro T0 hl h0
   simp only[a3L,V4]
   refine ih _ (by rw[List.length_set,hl]) ?_
   by_cases hi:i<T.length
   ·have hlen:=h.length
    have:=h0.set i (a4p h i)
    rw[List.getD_eq_getElem?_getD (l:=avs),List.getElem?_eq_getElem (by omega),Option.getD_some,List.set_getElem_self]at this
    exact this
   ·rw[List.set_eq_of_length_le (by omega)]
    exact h0
 refine main L _ (by rw[List.length_replicate]) ?_
 rw[←h.length]
 exact b8N
theorem t6{c:Code}{T:List D}{S:b4}{Q:j6→List D→b4→Prop}{n:Nat}(L:List Nat)(hn:T.length=n)(h:d5 P E w0 c (f0 n L (a3L T L)) S Q):d5 P E w0 c T S Q:=fun R H avs F hC hT=>by
 have:=h R H avs F hC (by rw[←hn];exact c2E hT L)
 rw[i6, ←hn]at this
 exact this
theorem s6{c:Code}{Q:j6→List D→b4→Prop}{I:Nat→List D→b4→Prop}{k:Nat}
  (step:∀n T S,T.length=k→I n T S→d5 P E w0 c T S fun ex T' S'=>match ex with| .normal=>∃m,m<n∧I m T' S'|e=>Q e T' S')
  {n:Nat} {T:List D} {S:b4} (hk:T.length=k) (h:I n T S):d5 P E w0 (.loop c) T S Q:=fun R H avs F hC hT=>by
 refine b8C (I:=fun n avs H=>a1C E R k (I n) avs H) (fun n avs H hI=> ?_) (n:=n) ⟨F,R,S,T,Fz.le_refl R,hC,hT,hk,h⟩
 obtain⟨F1,R1,S1,T1,a,b,c1,d,e⟩:=hI
 refine(C0.at_le a (step n T1 S1 d e R1 H avs F1 b c1)).mono fun ex T' H' hq=> ?_
 cases ex with
 |normal=>
  obtain⟨F2,R2,S2,T2,a2,b2,c2,d2,m,hm,e2⟩:=hq
  exact⟨m,hm,F2,R2,S2,T2,Fz.le_trans a a2,b2,c2,by rw[d2,d],e2⟩
 |exit id=>
  obtain⟨F2,R2,S2,T2,a2,b2,c2,d2,e2⟩:=hq
  exact⟨F2,R2,S2,T2,Fz.le_trans a a2,b2,c2,by rw[d2,d,hk],e2⟩
 |ret=>
  obtain⟨F2,R2,S2,T2,a2,b2,c2,d2,e2⟩:=hq
  exact⟨F2,R2,S2,T2,Fz.le_trans a a2,b2,c2,by rw[d2,d,hk],e2⟩
theorem c0v{id:Nat}{ops:Array Oper}{T:List D}{S:b4}{Q:j6→List D→b4→Prop}(h:b0u P (s4 P E w0) (a4I E w0) ops ops.toList T S (Q .normal)):d5 P E w0 (.region id ops false) T S Q:=fun R H avs F hC hT=>b4J (a8g (b4Q (Fz.le_refl R) F hC hT h))
theorem b8q(hm:P.follows .mixedOrders=true){id:Nat}{ops:Array Oper}{sd:List j4}(hB:a5l P ops ops.toList []=some sd){T:List D}{S:b4}{Q:j6→List D→b4→Prop}(h:a7V P (s4 P E w0) (a4I E w0) ops sd [] T S (Q .normal)):d5 P E w0 (.region id ops true) T S Q:=fun R H avs F hC hT=>b7K hm hB (b7H (xs:=[]) (ys:=[]) (Fz.le_refl R) F hC hT trivial h)
theorem b6v(hm:P.follows .mixedOrders=true){id:Nat}{ops:Array Oper}{t:Arr}{T:List D}{S:b4}{Q:j6→List D→b4→Prop}(h:if a3i ops&&b1M ops then a5g P ops (fun ops' sd=>a7V P (s4 P E w0) (a4I E w0) ops' sd [] T S (Q .normal)) t []else False):d5 P E w0 (.region id ops true) T S Q:=fun R H avs F hC hT=>by
 split at h
 ·rename_i hok
  simp only[Bool.and_eq_true]at hok
  exact b5Z hm hok.1 hok.2 (h.mono fun ops' sd ho=>b7H (xs:=[]) (ys:=[]) (Fz.le_refl R) F hC hT trivial ho)
 ·exact h.elim
variable{loops cuts:List (Nat×List Nat)}{arrs:List (Nat×Arr)}
theorem a4r(hm:P.follows .mixedOrders=true):∀(c:Code) (T:List D) (S:b4) (Q:j6→List D→b4→Prop),vcD P E w0 loops cuts arrs c T S Q→d5 P E w0 c T S Q
 | .skip,T,S,Q,h=>fun R H avs F hC hT=>b8w ⟨F,R,S,T,Fz.le_refl R,hC,hT,rfl,h⟩
 | .label _,T,S,Q,h=>fun R H avs F hC hT=>b7l ⟨F,R,S,T,Fz.le_refl R,hC,hT,rfl,h⟩
 | .ret,T,S,Q,h=>fun R H avs F hC hT=>a9c ⟨F,R,S,T,Fz.le_refl R,hC,hT,rfl,h⟩
 | .exit id,T,S,Q,h=>fun R H avs F hC hT=>b8s ⟨F,R,S,T,Fz.le_refl R,hC,hT,rfl,h⟩
 | .region _ ops false,T,S,Q,h=>c0v h
 | .region id ops true,T,S,Q,h=>by
  change (match b8P id arrs with
   |some t=>if a3i ops&&b1M ops then a5g P ops (fun ops' sd=>a7V P (s4 P E w0) (a4I E w0) ops' sd [] T S (Q .normal)) t []else False
   |none=>match a5l P ops ops.toList []with
    |some sd=>a7V P (s4 P E w0) (a4I E w0) ops sd [] T S (Q .normal)
    |none=>False)at h
  split at h
  ·exact b6v hm h
  ·split at h
   ·rename_i sd hB;exact b8q hm hB h
   ·exact h.elim
 | .seq a b,T,S,Q,h=>fun R H avs F hC hT=>by
  simp only[vcD]at h
  have fin:d5 P E w0 a T S (fun ex T' S'=>match ex with| .normal=>d5 P E w0 b T' S' Q|e=>Q e T' S')→C0 P E (w0.at E R) (.seq a b) avs H (c1B E R T.length Q):=by
   intro h
   refine b3L ((h R H avs F hC hT).mono fun ex T' H' hq=> ?_)
   cases ex with
   |normal=>
    obtain⟨F2,R2,S2,T2,a2,b2,c2,d2,e2⟩:=hq
    have:=e2 R2 H' T' F2 b2 c2
    rw[d2]at this
    exact(C0.at_le a2 this).mono fun ex T' H' hq=>a1C.le a2 hq
   |exit id=>exact hq
   |ret=>exact hq
  split at h
  ·rename_i L hL
   refine fin ((a4r hm a T S _ h).mono fun ex T' S' hl hq=> ?_)
   cases ex with
   |normal=>exact t6 L hl hq
   |exit id=>exact hq
   |ret=>exact hq
  ·refine fin ((a4r hm a T S _ h).mono fun ex T' S' hl hq=> ?_)
   cases ex with
   |normal=>exact a4r hm b T' S' Q hq
   |exit id=>exact hq
   |ret=>exact hq
 | .cond c a b,T,S,Q,h=>fun R H avs F hC hT=>by
  simp only[vcD]at h
  have hr:=g8 hT c
  unfold d9 at h
  split at h
  ·rename_i e
   rw[e]at hr
   simp only[Rp]at hr
   exact b1t (by rw[hr];exact a4r hm a T S Q h R H avs F hC hT)
  ·rename_i e
   rw[e]at hr
   simp only[Rp]at hr
   exact b1t (by rw[hr];exact a4r hm b T S Q h R H avs F hC hT)
  ·exact h.elim
 | .block id c,T,S,Q,h=>fun R H avs F hC hT=>by
  refine b6h ((a4r hm c T S _ h R H avs F hC hT).mono fun ex T' H' hq=> ?_)
  cases ex with
  |normal=>exact hq
  |ret=>exact hq
  |exit id'=>
   obtain⟨F2,R2,S2,T2,a2,b2,c2,d2,e2⟩:=hq
   simp only[s7]at e2
   simp only[b7X]
   split at e2
   ·rename_i e;rw[if_pos e];exact⟨F2,R2,S2,T2,a2,b2,c2,d2,e2⟩
   ·rename_i e;rw[if_neg e];exact⟨F2,R2,S2,T2,a2,b2,c2,d2,e2⟩
 | .loop c,T,S,Q,h=>by
  simp only[vcD]at h
  split at h
  ·rename_i L hL;exact t6 L rfl h
  ·exact h
 | .rangeFunc ..,T,S,Q,h=>h.elim
 | .scope ..,T,S,Q,h=>h.elim
 | .goto ..,T,S,Q,h=>h.elim
 | .refuse ..,T,S,Q,h=>h.elim
theorem a6G{R:Fz}{S:b4}{H:AHeap}{T:List D}{avs:List AV}(hC:o5 E R S H)(hT:o7 E R T avs):∀ {l:List ResultVar} {K:List D→Prop} {K':List AV→Prop},(∀ds vs,o7 E R ds vs→K ds→K' vs)→a5G P S T l K→a0o P E H avs l K'
 | [],K,K',hk,h=>hk [] [] u6 h
 | .tmp t::l,K,K',hk,h=>by
  have:=a6G (l:=l) (K':=fun vs=>K' (avs.getD t o6::vs)) hC hT (fun ds vs hr hK=>hk (T.getD t b6::ds) (avs.getD t o6::vs) (l7 (a4p hT t) hr) hK) h
  exact this
 | .cell a t::l,K,K',hk,h=>by
  simp only[a5G]at h
  unfold a8 at h
  split at h
  ·rename_i d hd
   have ha:=a4p hT a
   obtain⟨v,h1,h2⟩:=b9p hC ha hd
   have h2:=h2 H (hC.agr _)
   have:=a6G (l:=l) (K':=fun vs=>K' (v::vs)) hC hT (fun ds vs hr hK=>hk (d::ds) (v::vs) (l7 h1 hr) hK) h
   simp only[a0o]
   unfold b9u at h2
   split at h2
   ·rename_i o i e
    simp only[e,h2,a5A]
    exact this
   ·cases h2
  ·exact h.elim
theorem c2n{R:Fz}{ds:List D}{vs:List AV}(h:o7 E R ds vs):Rp E R (c0S ds) (b4f vs):=by
 rcases ds with _|⟨d,_|⟨d',ds⟩⟩
 ·simp only[o7]at h;subst h;exact N4
 ·simp only[o7]at h
  obtain⟨v,_,rfl,h1,rfl⟩:=h
  exact h1
 ·have h':=h
  simp only[o7]at h
  obtain⟨v,_,rfl,h1,v2,vs',rfl,h2,h3⟩:=h
  show Rp E R (.tup (d::d'::ds)) (.tup (v::v2::vs'))
  simp only[Rp]
  exact⟨_,rfl,h'⟩
theorem b6F{f:FuncId}{fn:Func}{c:Code}(hfn:P.funcs[f]? =some fn)(hb:fn.body=some c){ds:List D}{S:b4}{Q:D→b4→Prop}
  (h:d5 P E w0 c (ds++List.replicate (fn.ntmps - ds.length) b6) S (P2 P fn (b9 E Q))):s4 P E w0 f ds S Q:=fun R H avs F hC ha=>by
 have hrow:o7 E R (ds++List.replicate (fn.ntmps - ds.length) b6) (avs++List.replicate (fn.ntmps - avs.length) o6):=by
  refine ha.append ?_
  rw[ha.length]
  generalize fn.ntmps - ds.length=m
  induction m with
  |zero=>exact u6
  |succ m ih=>exact l7 N4 ih
 have h':C0 P E (w0.at E R) c (avs++List.replicate (fn.ntmps - avs.length) o6) H (c4O P E fn (I1 E R Q)):=by
  refine(h R H _ F hC hrow).mono fun ex T' H' hq=> ?_
  obtain⟨F2,R2,S2,T2,a2,b2,c2,d2,e2⟩:=hq
  have go:∀ {l:List ResultVar},a5G P S2 T2 l (fun vs=>b9 E Q (c0S vs) S2)→a0o P E H' T' l fun vs=>I1 E R Q (b4f vs) H':=fun h=>a6G b2 c2 (fun ds vs hr hK=>by
   obtain⟨R',S',d',k1,k2,k3,k4⟩:=hK R2 H' _ b2 (c2n hr)
   exact⟨F2,R',S',d',Fz.le_trans a2 k1,k2,k3,k4⟩) h
  cases ex with
  |normal=>exact go e2
  |ret=>exact go e2
  |exit id=>exact e2
 exact b6A hfn hb h'
theorem q8(loops cuts:List (Nat×List Nat))(arrs:List (Nat×Arr))(hm:P.follows .mixedOrders=true){f:FuncId}{fn:Func}{c:Code}(hfn:P.funcs[f]? =some fn)(hb:fn.body=some c){ds:List D}{S:b4}{Q:D→b4→Prop}{V:Prop}
  (e:vcD P E w0 loops cuts arrs c (ds++List.replicate (fn.ntmps - ds.length) b6) S (P2 P fn (b9 E Q))=V) (h:V):s4 P E w0 f ds S Q:=
 b6F hfn hb (a4r hm _ _ _ _ (e▸h))
theorem f9(loops cuts:List (Nat×List Nat))(arrs:List (Nat×Arr))(hm:P.follows .mixedOrders=true){c:Code}{T:List D}{S:b4}{Q:j6→List D→b4→Prop}{V:Prop}(e:vcD P E w0 loops cuts arrs c T S Q=V)(h:V):d5 P E w0 c T S Q:=
 a4r hm _ _ _ _ (e▸h)
theorem b9.here{Q:D→b4→Prop}{d:D}{S:b4}(h:Q d S):b9 E Q d S:=fun R H v hC hd=>⟨R,S,d,Fz.le_refl R,hC,hd,h⟩
theorem b9.less{Q:D→b4→Prop}{d:D}{S S':b4}(hs:S'.le S)(h:b9 E Q d S'):b9 E Q d S:=fun R H v hC hd=>h R H v (hC.less hs) hd
theorem b9.mono{Q Q':D→b4→Prop}{d:D}{S:b4}(h:b9 E Q d S)(hq:∀d S,Q d S→Q' d S):b9 E Q' d S:=fun R H v hC hd=>by
 obtain⟨R',S',d',a,b,c,e⟩:=h R H v hC hd
 exact⟨R',S',d',a,b,c,hq _ _ e⟩
theorem b9.freeze{Q:D→b4→Prop}{S:b4}{k:Nat}{o:s9}(hk:S k=some o){i len cap:Nat}{ex:Bool}{sz:Nat}(hsz:o.sz=sz)(hl:i+len≤o.rows.length)(hc:len≤cap)
  (h:b9 E Q (.lst ((o.rows.drop i).take len) sz) (S.erase k)):b9 E Q (.raw k i len cap ex sz) S:=fun R H v hC hd=>by
 have hzm:sz<E8:=by simp only[Rp]at hd;exact hd.1
 obtain⟨h1,h2⟩:=hC.freeze hk (.inl (by rw[hsz];exact hzm))
 obtain⟨R',S',d',a,b,c,e⟩:=h _ H v h1 (a5K hC hk hd hsz hl hc)
 exact⟨R',S',d',Fz.le_trans h2 a,b,c,e⟩
theorem b9.freezeT{Q:D→b4→Prop}{S:b4}{k:Nat}{o:s9}(hk:S k=some o){i len cap:Nat}{ex:Bool}{sz:Nat}(hsz:o.sz=sz)(hl:i+len≤o.rows.length)(hc:len≤cap){lp lq:List D}
  (h:b9 E Q (.tup (lp++ .lst ((o.rows.drop i).take len) sz::lq)) (S.erase k)):b9 E Q (.tup (lp++ .raw k i len cap ex sz::lq)) S:=fun R H v hC hd=>by
 simp only[Rp]at hd
 obtain⟨vs,rfl,hv⟩:=hd
 obtain⟨v1,v2,rfl,g1,g2⟩:=a0X hv
 simp only[o7]at g2
 obtain⟨w,ws,rfl,g3,g4⟩:=g2
 have hzm:sz<E8:=by simp only[Rp]at g3;exact g3.1
 obtain⟨h1,h2⟩:=hC.freeze hk (.inl (by rw[hsz];exact hzm))
 obtain⟨R',S',d',a,b,c,e⟩:=h _ H (.tup (v1++w::ws)) h1 (by
  simp only[Rp]
  exact⟨_,rfl,(o7.le h2 _ _ g1).append (l7 (a5K hC hk g3 hsz hl hc) (o7.le h2 _ _ g4))⟩)
 exact⟨R',S',d',Fz.le_trans h2 a,b,c,e⟩
theorem b9.nil{Q:D→b4→Prop}{S:b4}{sz:Nat}(h:b9 E Q (.lst [] sz) S):b9 E Q .nilSlc S:=fun R H v hC hd=>h R H v hC (by simp only[Rp]at hd ⊢;exact .inl ⟨trivial,hd⟩)
theorem b9.nilT{Q:D→b4→Prop}{S:b4}{sz:Nat}{lp lq:List D}(h:b9 E Q (.tup (lp++ .lst [] sz::lq)) S):b9 E Q (.tup (lp++ .nilSlc::lq)) S:=fun R H v hC hd=>h R H v hC (by
 simp only[Rp]at hd ⊢
 obtain⟨vs,rfl,hv⟩:=hd
 obtain⟨v1,v2,rfl,g1,g2⟩:=a0X hv
 simp only[o7]at g2
 obtain⟨w,ws,rfl,g3,g4⟩:=g2
 exact⟨_,rfl,g1.append (l7 (by simp only[Rp]at g3 ⊢;exact .inl ⟨trivial,g3⟩) g4)⟩)
def a0A(P:Program)(E:d6)(w0:i9)(f:FuncId)(ds:List D)(d:D):Prop:=∀S,s4 P E w0 f ds S fun d' S'=>d'=d∧S'=S
theorem a0A.use{f:FuncId}{ds:List D}{d:D}(h:a0A P E w0 f ds d){S:b4}{K:D→b4→Prop}(hk:K d S):s4 P E w0 f ds S K:=(h S).use fun d' S' ⟨a,b⟩=>by subst a b;exact hk
end
end
end Go.Am
end
section
open Go.Proofs Go Go.Am
namespace Go.Proofs.Ytdkidgkiplcggaa.d
section
theorem mixed:Try.prog.follows .mixedOrders=true:=by kernel_rfl
abbrev a1w:FuncId:=5
abbrev I0:FuncId:=11
abbrev W0:FuncId:=14
abbrev I7:FuncId:=18
abbrev I3:FuncId:=19
abbrev L2:FuncId:=23
abbrev a2l:FuncId:=24
abbrev Q9:FuncId:=25
abbrev I6:FuncId:=38
abbrev G4:FuncId:=39
abbrev L3:FuncId:=40
abbrev a5Q:FuncId:=41
abbrev a1R:FuncId:=42
abbrev a0W:FuncId:=44
abbrev G7:FuncId:=54
abbrev V1:FuncId:=57
abbrev a3U:FuncId:=60
abbrev r7:FuncId:=61
abbrev j5:FuncId:=62
abbrev z8:FuncId:=63
abbrev a4x:FuncId:=87
abbrev L0:FuncId:=88
abbrev X4:FuncId:=89
abbrev a5a:FuncId:=90
abbrev a4Y:FuncId:=113
abbrev a5n:FuncId:=114
abbrev V5:FuncId:=132
abbrev O8:FuncId:=141
end
section
def b4I:List (Nat×List Nat):=[]
def b5d:List (Nat×List Nat):=[]
def b5n:List (Nat×Arr):=[]
def a9O(E:d6)(w0:i9)(Q:D→b4→Prop)(a0:D)(S:b4):Prop:=
 a8 (d4 .eql a0 (.int .u8 1)) fun v0=>
 d9 v0
 (Q (.int .i64 8) S)
 (a8 (d4 .eql a0 (.int .u8 2)) fun v1=>
 d9 v1
 (Q (.int .i64 32) S)
 (a8 (d4 .eql a0 (.int .u8 3)) fun v2=>
 d9 v2
 (Q (.int .i64 64) S)
 (Q (.int .i64 0) S)))
theorem b0V{E:d6}{w0:i9}{Q:D→b4→Prop}{a0:D}{S:b4}(h:a9O E w0 (b9 E Q) a0 S):s4 Try.prog E w0 a4Y [a0] S Q:=
 q8 b4I b5d b5n (fn:=Try.f113) (c:=Try.f113.body.getD .skip) mixed Try.func113 (by kernel_rfl) (by kernel_rfl) h
def b5j:List (Nat×List Nat):=[]
def b4Y:List (Nat×List Nat):=[]
def b5b:List (Nat×Arr):=[]
def a9H(E:d6)(w0:i9)(Q:D→b4→Prop)(a0 a1:D)(S:b4):Prop:=
 a8 (d4 .eql a0 (.int .u8 1)) fun v0=>
 d9 v0
 (a8 (U0 .i8 a1) fun v1=>
 a8 (U0 .i64 v1) fun v2=>
 Q v2 S)
 (a8 (d4 .eql a0 (.int .u8 2)) fun v3=>
 d9 v3
 (a8 (U0 .i32 a1) fun v4=>
 a8 (U0 .i64 v4) fun v5=>
 Q v5 S)
 (a8 (d4 .eql a0 (.int .u8 3)) fun v6=>
 d9 v6
 (Q a1 S)
 (Q (.int .i64 0) S)))
theorem b2m{E:d6}{w0:i9}{Q:D→b4→Prop}{a0 a1:D}{S:b4}(h:a9H E w0 (b9 E Q) a0 a1 S):s4 Try.prog E w0 a5n [a0,a1] S Q:=
 q8 b5j b4Y b5b (fn:=Try.f114) (c:=Try.f114.body.getD .skip) mixed Try.func114 (by kernel_rfl) (by kernel_rfl) h
def b5R:List (Nat×List Nat):=[]
def b5w:List (Nat×List Nat):=[]
def b5Q:List (Nat×Arr):=[]
def a9B(E:d6)(w0:i9)(Q:D→b4→Prop)(a0 a1:D)(S:b4):Prop:=
 s4 Try.prog E w0 a4Y [a0] S fun v0 S1=>
 a8 (d4 .gtr v0 (.int .i64 0)) fun v2=>
 a8 (b8 (b7 v2 true) (some a0)) fun v3=>
 a8 (b8 (b7 v2 true) (some a1)) fun v4=>
 a0a (b7 v2 true) (fun K=>s4 Try.prog E w0 a5n [v3,v4] S1 K) S1 fun v5 S6=>
 a8 (b8 (b7 v2 true) (some a1)) fun v7=>
 a8 (b8 (b7 v2 true) (d4 .eql v5 v7)) fun v8=>
 a8 (B6 v2 v8 (.bool false)) fun v9=>
 Q v9 S6
theorem b2o{E:d6}{w0:i9}{Q:D→b4→Prop}{a0 a1:D}{S:b4}(h:a9B E w0 (b9 E Q) a0 a1 S):s4 Try.prog E w0 a5a [a0,a1] S Q:=
 q8 b5R b5w b5Q (fn:=Try.f90) (c:=Try.f90.body.getD .skip) mixed Try.func90 (by kernel_rfl) (by kernel_rfl) h
def a3R:List (Nat×List Nat):=[(20,[0,1,2,9,29,30])]
def a3F:List (Nat×List Nat):=[]
def a3C:List (Nat×Arr):=[]
noncomputable def a2H:Code:=(i5 [1,1,1,0,1,0,0] (Try.f87.body.getD .skip))
def a2v(E:d6)(w0:i9)(Q:D→b4→Prop):j6→List D→b4→Prop:=
 (s7 1 (X9 Try.prog E w0 a3R a3F a3C (i5 [1,1,1,1] (Try.f87.body.getD .skip)) (P2 Try.prog Try.f87 Q)))
def a2D(E:d6)(w0:i9)(N0:D→D→D→D→D→D→b4→Prop)(Q:D→b4→Prop)(x0 x1 x2 x9 x29 x30:D)(S:b4):Prop:=
 a8 (d4 .lss x30 x29) fun v3=>
 d9 v3
 (a8 (d4 .add x1 x30) fun v4=>
 a8 (m9 1 x0 v4) fun v5=>
 a8 (c9 S v5) fun v6=>
 a8 (U0 .u64 v6) fun v7=>
 a8 (d4 .mul (.int .i64 8) x30) fun v8=>
 a8 (d4 .shl v7 v8) fun v9=>
 a8 (d4 .or x9 v9) fun v10=>
 a8 (d4 .add x30 (.int .i64 1)) fun v11=>
 N0 x0 x1 x2 v10 x29 v11 S)
 (a8 (d4 .add x1 x2) fun v12=>
 Q (.tup [x9,v12,(.int .i64 0)]) S)
theorem a9q{E:d6}{w0:i9}{N0:D→D→D→D→D→D→b4→Prop}{Q:D→b4→Prop}{x0 x1 x2 x9 x29 x30:D}{S:b4}(h:a2D E w0 N0 Q x0 x1 x2 x9 x29 x30 S):
  d5 Try.prog E w0 a2H (f0 50 [0,1,2,9,29,30] [x0,x1,x2,x9,x29,x30]) S (E4 (fun T S=>N0 (T.getD 0 b6) (T.getD 1 b6) (T.getD 2 b6) (T.getD 9 b6) (T.getD 29 b6) (T.getD 30 b6) S) (a2v E w0 Q)):=f9 a3R a3F a3C mixed (by kernel_rfl) h
theorem a9u{E:d6}{w0:i9}{Q:D→b4→Prop}(I:Nat→D→D→D→D→D→D→b4→Prop)
  (step:∀n x0 x1 x2 x9 x29 x30 S,I n x0 x1 x2 x9 x29 x30 S→a2D E w0 (fun x0 x1 x2 x9 x29 x30 S=>∃m,m<n∧I m x0 x1 x2 x9 x29 x30 S) Q x0 x1 x2 x9 x29 x30 S)
  {n:Nat} {x0 x1 x2 x9 x29 x30:D} {S:b4} (h:I n x0 x1 x2 x9 x29 x30 S):d5 Try.prog E w0 (.loop a2H) (f0 50 [0,1,2,9,29,30] [x0,x1,x2,x9,x29,x30]) S (a2v E w0 Q):=
 s6 (k:=50) (n:=n) (I:=fun n T S=>I n (T.getD 0 b6) (T.getD 1 b6) (T.getD 2 b6) (T.getD 9 b6) (T.getD 29 b6) (T.getD 30 b6) S) (fun n T S hl hI=>t6 [0,1,2,9,29,30] hl (d5.mono (a9q (step n _ _ _ _ _ _ S hI)) fun ex T' S' _ hq=>by cases ex<;>exact hq)) (i6 ..) (Eq.mp (by kernel_rfl) h)
def U1(E:d6)(w0:i9)(Q:D→b4→Prop)(x0 x1 x2 x11:D)(S:b4):Prop:=
 d9 x11
 (Q (.tup [(.int .u64 0),(.int .i64 0),(.int .i64 2)]) S)
 (a8 (j9 x0) fun v0=>
 a8 (d4 .sub v0 x1) fun v1=>
 a8 (d4 .gtr x2 v1) fun v2=>
 d9 v2
 (Q (.tup [(.int .u64 0),(.int .i64 0),(.int .i64 10)]) S)
 (d5 Try.prog E w0 (.loop a2H) (f0 50 [0,1,2,9,29,30] [x0,x1,x2,(.int .u64 0),x2,(.int .i64 0)]) S (a2v E w0 Q)))
def a9D(E:d6)(w0:i9)(Q:D→b4→Prop)(a0 a1 a2:D)(S:b4):Prop:=
 a8 (d4 .lss a2 (.int .i64 1)) fun v13=>
 d9 v13
 (U1 E w0 Q a0 a1 a2 v13 S)
 (a8 (d4 .gtr a2 (.int .i64 8)) fun v14=>
 d9 v14
 (U1 E w0 Q a0 a1 a2 v14 S)
 (a8 (d4 .lss a1 (.int .i64 0)) fun v15=>
 d9 v15
 (U1 E w0 Q a0 a1 a2 v15 S)
 (a8 (j9 a0) fun v16=>
 a8 (d4 .gtr a1 v16) fun v17=>
 U1 E w0 Q a0 a1 a2 v17 S)))
theorem b1R{E:d6}{w0:i9}{Q:D→b4→Prop}{a0 a1 a2:D}{S:b4}(h:a9D E w0 (b9 E Q) a0 a1 a2 S):s4 Try.prog E w0 a4x [a0,a1,a2] S Q:=
 q8 a3R a3F a3C (fn:=Try.f87) (c:=Try.f87.body.getD .skip) mixed Try.func87 (by kernel_rfl) (by kernel_rfl) h
def b1B:List (Nat×List Nat):=[]
def b2z:List (Nat×List Nat):=[]
def b2B:List (Nat×Arr):=[]
def a6s(E:d6)(w0:i9)(Q:D→b4→Prop)(a0 a1:D)(S:b4):Prop:=
 a8 (r6 a0) fun cs=>o9 S cs fun v0 S1=>
 a8 (r6 a1) fun cs=>o9 S1 cs fun v2 S3=>
 a8 (some (.fn (.func L0) [] [v0,v2])) fun v4=>
 Q v4 S3
theorem a9k{E:d6}{w0:i9}{Q:D→b4→Prop}{a0 a1:D}{S:b4}(h:a6s E w0 (b9 E Q) a0 a1 S):s4 Try.prog E w0 j5 [a0,a1] S Q:=
 q8 b1B b2z b2B (fn:=Try.f62) (c:=Try.f62.body.getD .skip) mixed Try.func62 (by kernel_rfl) (by kernel_rfl) h
def b6x:List (Nat×List Nat):=[]
def b6T:List (Nat×List Nat):=[]
def b5Y:List (Nat×Arr):=[]
def b0Y(E:d6)(w0:i9)(Q:D→b4→Prop)(a0:D)(S:b4):Prop:=
 a8 (r6 a0) fun cs=>o9 S cs fun v0 S1=>
 a8 (some (.fn (.func X4) [] [v0])) fun v2=>
 Q v2 S1
theorem b3l{E:d6}{w0:i9}{Q:D→b4→Prop}{a0:D}{S:b4}(h:b0Y E w0 (b9 E Q) a0 S):s4 Try.prog E w0 z8 [a0] S Q:=
 q8 b6x b6T b5Y (fn:=Try.f63) (c:=Try.f63.body.getD .skip) mixed Try.func63 (by kernel_rfl) (by kernel_rfl) h
def a9a:List (Nat×List Nat):=[]
def a8I:List (Nat×List Nat):=[]
def a8w:List (Nat×Arr):=[]
def a4i(E:d6)(w0:i9)(Q:D→b4→Prop)(a0 c0 c1:D)(S:b4):Prop:=
 a8 (c9 S c0) fun v0=>
 a8 (d4 .leq v0 a0) fun v1=>
 a8 (b8 (b7 v1 true) (some a0)) fun v2=>
 a8 (b8 (b7 v1 true) (c9 S c1)) fun v3=>
 a8 (b8 (b7 v1 true) (d4 .leq v2 v3)) fun v4=>
 a8 (B6 v1 v4 (.bool false)) fun v5=>
 Q v5 S
theorem a6V{E:d6}{w0:i9}{Q:D→b4→Prop}{a0 c0 c1:D}{S:b4}(h:a4i E w0 (b9 E Q) a0 c0 c1 S):s4 Try.prog E w0 L0 [a0,c0,c1] S Q:=
 q8 a9a a8I a8w (fn:=Try.f88) (c:=Try.f88.body.getD .skip) mixed Try.func88 (by kernel_rfl) (by kernel_rfl) h
def b3q:List (Nat×List Nat):=[]
def b2X:List (Nat×List Nat):=[]
def b3g:List (Nat×Arr):=[]
def a7J(E:d6)(w0:i9)(Q:D→b4→Prop)(a0 c0:D)(S:b4):Prop:=
 a8 (c9 S c0) fun v0=>
 s4 Try.prog E w0 a5a [v0,a0] S fun v1 S2=>
 Q v1 S2
theorem b0G{E:d6}{w0:i9}{Q:D→b4→Prop}{a0 c0:D}{S:b4}(h:a7J E w0 (b9 E Q) a0 c0 S):s4 Try.prog E w0 X4 [a0,c0] S Q:=
 q8 b3q b2X b3g (fn:=Try.f89) (c:=Try.f89.body.getD .skip) mixed Try.func89 (by kernel_rfl) (by kernel_rfl) h
end
end Go.Proofs.Ytdkidgkiplcggaa.d
end
