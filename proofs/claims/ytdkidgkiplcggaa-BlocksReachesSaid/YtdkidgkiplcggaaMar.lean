/-
  BlocksReachesSaid: part Mar of its proof.
-/
import Derived.Test.YtdkidgkiplcggaaMaq
import Derived.Test.YtdkidgkiplcggaaRows
import Derived.KernelRfl
set_option linter.unusedVariables false
set_option linter.unusedSimpArgs false
set_option maxRecDepth 100000
section
namespace Go.Am
section
def b2t(T:List D)(dst:Option Tmp)(v:D):List D:=match dst with
 |some d=>T.set d v
 |none=>T
def a8m:List D→(List D→Prop)→Prop
 | [],k=>k []
 |a::l,k=>a8m l fun l'=>k (a::l')
def c1C:List D→Nat→(D→Prop)→Prop
 | [],_,k=>k a8
 |a::l,n,k=>match n with
  |0=>k a
  |n+1=>c1C l n k
def a9H(T:List D)(x:Operand)(k:D→Prop):Prop:=match x with
 | .tmp t=>c1C T t k
 |x=>k (m7 T x)
def b7(g:D)(want:Bool):Option Bool:=match g with
 | .bool b=>some (b==want)
 | .any=>none
 |_=>some false
def b2M(ops:Array Oper)(T:List D)(o:Oper):Option Bool:=
 match o.guard with
 |none=>some true
 |some (j,want)=>match (ops[j]?).bind (·.dst) with
  |none=>some false
  |some d=>match T[d]? with
   |some x=>b7 x want
   |none=>some false
def d9(g:Option Bool)(r:Option D):Option D:=match g with
 |some true=>r
 |some false=>some a8
 |none=>none
def Z6(r:Option Bool)(s:(D→b4→Prop)→Prop)(S:b4):(D→b4→Prop)→Prop:=match r with
 |some true=>s
 |some false=>fun Q=>Q a8 S
 |none=>fun _=>False
theorem c2m{r:Option Bool}{s:(D→b4→Prop)→Prop}{S:b4}{Q:D→b4→Prop}:Z6 r s S Q=match r with
 |some true=>s Q
 |some false=>Q a8 S
 |none=>False:=by
 cases r with
 |none=>rfl
 |some b=>cases b<;>rfl
def c2A(P:Program)(ops:Array Oper)(T:List D)(S:b4)(o:Oper):Option D:=d9 (b2M ops T o) (c5S P T S o)
def c0T(P:Program)(G:DW)(ops:Array Oper)(T:List D)(S:b4)(o:Oper)(K:D→b4→Prop):Prop:=Z6 (b2M ops T o) (c6t P G T S o) S K
structure i5 where
 w:World
 X:D→b4→Prop
instance:Coe i5 World:=⟨i5.w⟩
def c6R(w:World):i5:=⟨w,fun _ _=>False⟩
def i5.at(E:d6)(w0:i5)(R:Fz):a3Q:=⟨w0.w,fun v H'=>y9 H'∧∃R' S' d,R.le R'∧o9 E R' S' H'∧Rp E R' d v∧w0.X d S'⟩
def r8(P:Program)(E:d6)(w0:i5):DW:=fun f ds S Q=>∀R H avs,y9 H→o9 E R S H→p5 E R ds avs→FnW P E (w0.at E R) f avs H (I7 E R Q)
def a6p(E:d6)(w0:i5)(d:D)(S:b4):Prop:=(∃t v,d= .ifc t v)∧w0.X d S
def b2N(o:Oper):Option Operand:=match o.guard with
 |none=>match o.op with
  | .panic x=>some x
  |_=>none
 |some _=>none
def b2n(P:Program)(G:DW)(X:D→b4→Prop)(ops:Array Oper):List Oper→List D→b4→(List D→b4→Prop)→Prop
 | [],T,S,Q=>a8m T fun T=>Q T S
 |o::l,T,S,Q=>a8m T fun T=>match a6Y o with
  |some x=>a9H T x fun e=>b2n P G X ops l (b2t T o.dst e) S Q
  |none=>match n9 P o with
  |0|1=>b5 (c2A P ops T S o) fun v=>b2n P G X ops l (b2t T o.dst v) S Q
  |_=>match b2N o with
   |some x=>a9H T x fun e=>X e S
   |none=>c0T P G ops T S o fun v S'=>b2n P G X ops l (b2t T o.dst v) S' Q
def B3(x:D)(S S':b4):Prop:=match a9e x with
 |some k=>S' k=S k
 |none=>True
def b7r(x:D)(S S':b4):Prop:=match b0a x with
 |some k=>S' k=S k
 |none=>True
def b0q(P:Program)(T:List D)(o:Oper)(S S':b4):Prop:=match o.op with
 | .load _ a=>B3 (m7 T a) S S'
 | .convert _ _ x=>B3 (m7 T x) S S'
 | .lookup _ x _ _=>b7r (m7 T x) S S'
 | .call c=>if c4N P c then b7r (b4J T c) S S' else True
 |_=>True
def b0w(P:Program)(o:Oper):Bool:=match o.op with
 | .load .. | .convert .. | .lookup .. =>true
 | .call c=>c4N P c
 |_=>false
def b1s(P:Program)(S':b4)(anc:Nat)(K:Prop):Nat→List (Oper×List D×b4)→Prop
 |_,[]=>K
 |j,d::ds=>if(n9 P d.1==1&&b0w P d.1)&& !anc.testBit j then b0q P d.2.1 d.1 d.2.2 S'∧b1s P S' anc K (j+1) ds else b1s P S' anc K (j+1) ds
def a9Q(P:Program)(G:DW)(X:D→b4→Prop)(ops:Array Oper):List l7→List (Oper×List D×b4)→List D→b4→(List D→b4→Prop)→Prop
 | [],_,T,S,Q=>a8m T fun T=>Q T S
 |s::l,ds,T,S,Q=>a8m T fun T=>match a6Y s.o with
  |some x=>a9H T x fun e=>a9Q P G X ops l (ds++[(s.o,T,S)]) (b2t T s.o.dst e) S Q
  |none=>match n9 P s.o with
  |0|1=>b5 (c2A P ops T S s.o) fun v=>a9Q P G X ops l (ds++[(s.o,T,S)]) (b2t T s.o.dst v) S Q
  |_=>match b2N s.o with
   |some x=>a9H T x fun e=>X e S
   |none=>c0T P G ops T S s.o fun v S'=>b1s P S' s.anc (a9Q P G X ops l (ds++[(s.o,T,S)]) (b2t T s.o.dst v) S' Q) 0 ds
section
variable{P:Program}{E:d6}{w0:i5}
theorem a4b:∀ {T:List D} {k:List D→Prop},a8m T k=k T
 | [],k=>rfl
 |a::l,k=>by simp only[a8m];rw[a4b]
theorem b8q:∀ {T:List D} {n:Nat} {k:D→Prop},c1C T n k=k (T.getD n a8)
 | [],n,k=>rfl
 |a::l,0,k=>rfl
 |a::l,n+1,k=>by simp only[c1C];rw[b8q];simp
theorem b3e{T:List D}{x:Operand}{k:D→Prop}:a9H T x k=k (m7 T x):=by
 cases x<;>first|rfl|exact b8q
theorem b2d(T:List D)(dst:Option Tmp)(v:D):(b2t T dst v).length=T.length:=by
 cases dst with
 |none=>rfl
 |some d=>exact List.length_set
theorem c1g{R:Fz}{T:List D}{avs:List AV}(h:p5 E R T avs)(dst:Option Tmp){d:D}{v:AV}(hd:Rp E R d v):p5 E R (b2t T dst d) (Z2 avs dst v):=by
 cases dst with
 |none=>exact h
 |some t=>exact h.set t hd
theorem a6x{R:Fz}{v:AV}:Rp E R .any v:=by simp only[Rp]
theorem c2X{F:FW}(hF:c3E F){T:List AV}{H:AHeap}{o:Oper}{K K':AV→AHeap→Prop}(hk:∀v H',K v H'→K' v H')(h:opW P E F T H o K):opW P E F T H o K':=by
 have o1:∀ {α:Type} {r:Option α} {f g:α→Prop},(∀x,f x→g x)→b5 r f→b5 r g:=by
  intro α r f g hfg h
  cases r with
  |none=>exact h
  |some x=>exact hfg x h
 have o2:∀ {r:Option (AV×AHeap)},a1h r K→a1h r K':=by
  intro r h
  cases r with
  |none=>exact h
  |some x=>exact hk _ _ h
 have rf:∀ {r:Option P8},a7Z F r K→a7Z F r K':=by
  intro r h
  unfold a7Z at*
  split
  ·exact hk _ _ h
  ·exact hF _ _ _ _ _ h hk
  ·exact h
 obtain⟨dst,op,type,pos,after,guard⟩:=o
 cases op<;>simp only[opW]at h ⊢ <;>try (first|exact o1 (fun v hv=>hk _ _ hv) h|exact o2 h)
 case box e x=>exact hk _ _ h
 case range t x=>exact b1I hk h
 case next it s=>exact b4f hk h
 case entry it=>exact b1M hk h
 case store t a x=>
  unfold b6s at*
  split at h
  ·split at h
   ·rename_i hs
    rw[if_pos hs]
    exact o1 (fun v hv=>hk _ _ hv) h
   ·exact h.elim
  ·exact h.elim
 case makeMap t r=>
  cases r with
  |none=>exact hk _ _ h
  |some x=>exact h
 case call c=>
  cases hc:c.callee with
  |value f=>
   simp only[hc]at h ⊢
   cases f with
   |func g=>
    simp only at h ⊢
    split at h
    ·rename_i hb;rw[if_pos hb];exact hF _ _ _ _ _ h hk
    ·exact h.elim
   |tmp t=>exact rf h
   |const v=>exact rf h
   |global g=>exact rf h
  |invoke r m=>
   simp only[hc]at h ⊢
   exact rf h
  |builtin b=>
   simp only[hc]at h ⊢
   generalize c.args.toList.map (c8 T)=as1 at h ⊢
   generalize c.argTypes.toList=ts at h ⊢
   cases b<;>(try simp only at h ⊢)<;>try (exact o1 (fun v hv=>hk _ _ hv) h)
   case append=>
    rcases as1 with _|⟨s,_|⟨x,_|⟨y,as1⟩⟩⟩<;>rcases ts with _|⟨sT,_|⟨xT,_|⟨u,ts⟩⟩⟩<;>first|exact o2 h|exact o1 (fun v hv=>hk _ _ hv) h
   case copy=>
    rcases as1 with _|⟨s,_|⟨x,_|⟨y,as1⟩⟩⟩<;>rcases ts with _|⟨sT,ts⟩<;>first|exact o2 h|exact o1 (fun v hv=>hk _ _ hv) h
theorem b2T.weak{w:World}{X X':AV→AHeap→Prop}(hX:∀v H,X v H→X' v H){ρ:q9}{H:AHeap}{Q:AV→AHeap→Prop}{e:Ending}{w':World}(h:b2T E ⟨w,X⟩ ρ H Q e w'):b2T E ⟨w,X'⟩ ρ H Q e w':=by
 cases e with
 |returned u=>exact h
 |panicked c=>
  obtain⟨u,ρ',v,H',h1,h2,h3⟩:=h
  exact⟨u,ρ',v,H',h1,hX _ _ h2,h3⟩
 |outgrown=>exact h
theorem FnW.weak{w:World}{X X':AV→AHeap→Prop}(hX:∀v H,X v H→X' v H){f:FuncId}{args:List AV}{H:AHeap}{Q:AV→AHeap→Prop}(h:FnW P E ⟨w,X⟩ f args H Q):FnW P E ⟨w,X'⟩ f args H Q:=
 fun w ρ vargs R hf hr=>Calls.mono (h w ρ vargs R hf hr) fun e w' he=>he.weak hX
theorem C7.weak{w:World}{X X':AV→AHeap→Prop}(hX:∀v H,X v H→X' v H){c:Code}{T:List AV}{H:AHeap}{Q:j2→List AV→AHeap→Prop}(h:C7 P E ⟨w,X⟩ c T H Q):C7 P E ⟨w,X'⟩ c T H Q:=
 fun w ρ a R hR hf hT hk hp=>h w ρ a R hR hf hT hk fun u v ρ' H' a' w' hx=>hp u v ρ' H' a' w' (hX _ _ hx)
theorem i5.at_le{R R':Fz}(h:R.le R'):∀v H,(w0.at E R').X v H→(w0.at E R).X v H:=fun v H ⟨F,R1,S,d,a,b⟩=>⟨F,R1,S,d,Fz.le_trans h a,b⟩
theorem FnW.at_le{R R':Fz}(h:R.le R'){f:FuncId}{args:List AV}{H:AHeap}{Q:AV→AHeap→Prop}(hf:FnW P E (w0.at E R') f args H Q):FnW P E (w0.at E R) f args H Q:=FnW.weak (i5.at_le h) hf
theorem C7.at_le{R R':Fz}(h:R.le R'){c:Code}{T:List AV}{H:AHeap}{Q:j2→List AV→AHeap→Prop}(hf:C7 P E (w0.at E R') c T H Q):C7 P E (w0.at E R) c T H Q:=C7.weak (i5.at_le h) hf
theorem goF{R0 R:Fz}(h:R0.le R){S:b4}{H:AHeap}(F:y9 H)(hC:o9 E R S H):GoF E (FnW P E (w0.at E R0)) (r8 P E w0) R S H:=fun f ds avs K ha hf=>FnW.at_le h (hf R H avs F hC ha)
theorem b4n{w0:a3Q}:c3E (FnW P E w0):=fun f args H Q Q' h hq=>h.mono hq
theorem a6G{R:Fz}{T:List D}{avs:List AV}(h:p5 E R T avs){ops:Array Oper}{o:Oper}{b:Bool}(hw:b2M ops T o=some b):O1 ops avs o=some b:=by
 unfold b2M at hw
 unfold O1
 cases hg:o.guard with
 |none=>rw[hg]at hw;exact hw
 |some jw=>
  obtain⟨j,want⟩:=jw
  simp only[hg]at hw ⊢
  cases hd:(ops[j]?).bind (·.dst) with
  |none=>simp only[hd]at hw ⊢;exact hw
  |some d=>
   simp only[hd]at hw ⊢
   cases hx:T[d]? with
   |none=>
    have:avs[d]? =none:=List.getElem?_eq_none (by rw[h.length];exact List.getElem?_eq_none_iff.1 hx)
    simp only[hx]at hw
    simp only[this]
    exact hw
   |some x=>
    simp only[hx]at hw
    obtain⟨v,h1,h2⟩:=a1Q h hx
    simp only[h1]
    cases x<;>simp only[b7]at hw<;>try (cases hw;done)
    all_goals
     simp only[Rp]at h2
     first
      |(subst h2;exact hw)
      |(rcases h2 with ⟨_,rfl⟩|⟨o,j,cap,ex,z,rfl,_⟩<;>exact hw)
      |(obtain⟨o,j,cap,ex,z,all,rfl,_⟩:=h2;exact hw)
      |(obtain⟨o,j,all,rfl,_⟩:=h2;exact hw)
      |(obtain⟨a',b',rfl,_⟩:=h2;exact hw)
      |(obtain⟨v',rfl,_⟩:=h2;exact hw)
      |(obtain⟨_,rfl⟩:=(h2:_∧_);exact hw)
      |(obtain⟨_,j,cap,ex,all,rfl,_⟩:=(h2:_∧_);exact hw)
theorem b5M{T:List D}{o:Oper}{S S':b4}(h:b0q P T o S S'){k:Nat}(hk:a5K P T o=some k):S' k=S k:=by
 unfold a5K at hk
 unfold b0q at h
 split at hk
 ·rename_i e;simp only[e,B3,hk]at h;exact h
 ·rename_i e;simp only[e,B3,hk]at h;exact h
 ·rename_i e;simp only[e,b7r,hk]at h;exact h
 ·rename_i e
  simp only[e]at h
  split at hk
  ·rename_i hl;rw[if_pos hl]at h;simp only[b7r,hk]at h;exact h
  ·cases hk
 ·cases hk
theorem b9K{T:List D}{o:Oper}{S S':b4}(h:b0w P o=false):b0q P T o S S':=by
 unfold b0q
 split
 ·rename_i e;simp[b0w,e]at h
 ·rename_i e;simp[b0w,e]at h
 ·rename_i e;simp[b0w,e]at h
 ·rename_i e;simp only[b0w,e]at h;rw[h,if_neg (by decide)];trivial
 ·trivial
theorem c0S{R:Fz}{S:b4}{H:AHeap}{T:List D}{avs:List AV}(hT:p5 E R T avs)(hC:o9 E R S H){ops:Array Oper}{o:Oper}{d:D}(h:c2A P ops T S o=some d):
  ∃v,Rp E R d v∧∀H,Agr R S (a5K P T o) H→b9Q P E ops avs H o=some v:=by
 unfold c2A d9 at h
 split at h
 ·rename_i hw
  obtain⟨v,h1,h2⟩:=c4G hT hC h
  exact⟨v,h1,fun H hA=>by unfold b9Q;rw[a6G hT hw];exact h2 H hA⟩
 ·rename_i hw
  cases h
  exact⟨p4,P4,fun H hA=>by unfold b9Q;rw[a6G hT hw];rfl⟩
 ·cases h
theorem b9z{F:FW}{G:DW}{R:Fz}{S:b4}{H:AHeap}(hG:GoF E F G R S H)(hF:y9 H)(hC:o9 E R S H){T:List D}{avs:List AV}(hT:p5 E R T avs){ops:Array Oper}{o:Oper}{K:D→b4→Prop}(h:c0T P G ops T S o K):b4c P E F ops avs H o (I7 E R K):=by
 unfold c0T at h
 rw[c2m]at h
 unfold b4c
 split at h
 ·rename_i hw
  rw[a6G hT hw]
  exact c4U hG hF hC hT h
 ·rename_i hw
  rw[a6G hT hw]
  exact⟨hF,R,S,a8,Fz.le_refl R,hC,P4,h⟩
 ·exact h.elim
theorem b3w{F:FW}(hF:c3E F){ops:Array Oper}{T:List AV}{H:AHeap}{o:Oper}{K K':AV→AHeap→Prop}(h:b4c P E F ops T H o K)(hk:∀v H',K v H'→K' v H'):b4c P E F ops T H o K':=by
 unfold b4c a4Y at*
 split<;>rename_i e<;>rw[e]at h
 ·exact c2X hF hk h
 ·exact hk _ _ h
 ·exact h
def a2K(E:d6)(R:Fz)(n:Nat)(Q:List D→b4→Prop)(avs':List AV)(H':AHeap):Prop:=y9 H'∧∃R' S' T',R.le R'∧o9 E R' S' H'∧p5 E R' T' avs'∧T'.length=n∧Q T' S'
theorem a2K.le{R R1:Fz}(h:R.le R1){n:Nat}{Q:List D→b4→Prop}{avs':List AV}{H':AHeap}(hp:a2K E R1 n Q avs' H'):a2K E R n Q avs' H':=by
 obtain⟨F,R',S',T',a,b⟩:=hp
 exact⟨F,R',S',T',Fz.le_trans h a,b⟩
theorem c0O{R0 R:Fz}(hle:R0.le R){S:b4}{H:AHeap}{T:List D}{avs:List AV}{ops:Array Oper}(F:y9 H)(hC:o9 E R S H)(hT:p5 E R T avs){o:Oper}{x:Operand}(hx:b2N o=some x)(h:a6p E w0 (m7 T x) S){Q:AV→AHeap→Prop}:a0w P E (w0.at E R0) ops avs H o Q:=by
 obtain⟨hp,h⟩:=h
 have hr:=j1 hT x
 obtain⟨dst,op,type,pos,after,guard⟩:=o
 unfold b2N at hx
 split at hx
 ·rename_i hg
  simp only at hg
  subst hg
  split at hx
  ·rename_i y hy
   simp only at hy
   subst hy
   cases hx
   unfold a0w O1 a4Y b5j
   simp only[O4]
   unfold c2i
   refine .inl ⟨?_,F,R,S,m7 T x,hle,hC,hr,h⟩
   obtain⟨t,v,e⟩:=hp
   rw[e]at hr
   simp only[Rp]at hr
   obtain⟨v',e',_⟩:=hr
   exact⟨t,v',e'⟩
  ·cases hx
 ·cases hx
theorem b7u{R0:Fz}{ops:Array Oper}:∀ {l:List Oper} {T:List D} {avs:List AV} {S:b4} {H:AHeap} {R:Fz} {Q:List D→b4→Prop},R0.le R→y9 H→o9 E R S H→p5 E R T avs→b2n P (r8 P E w0) (a6p E w0) ops l T S Q→b0I P E (w0.at E R0) ops l avs H (a2K E R T.length Q)
 | [],T,avs,S,H,R,Q,h0,F,hC,hT,h=>by
  simp only[b2n,a4b]at h
  exact⟨F,R,S,T,Fz.le_refl R,hC,hT,rfl,h⟩
 |o::l,T,avs,S,H,R,Q,h0,F,hC,hT,h=>by
  simp only[b2n,a4b,b3e]at h
  have next:∀ {d:D} {v:AV} {R':Fz} {S':b4} {H':AHeap},R.le R'→y9 H'→o9 E R' S' H'→Rp E R' d v→b2n P (r8 P E w0) (a6p E w0) ops l (b2t T o.dst d) S' Q→b0I P E (w0.at E R0) ops l (Z2 avs o.dst v) H' (a2K E R T.length Q):=by
   intro d v R' S' H' hle F' hC' hd h'
   have:=b7u (Fz.le_trans h0 hle) F' hC' (c1g (p5.le hle _ _ hT) o.dst hd) h'
   rw[b2d]at this
   exact b1j (fun _ _=>a2K.le hle) this
  have val:n9 P o≤1→(b5 (c2A P ops T S o) fun v=>b2n P (r8 P E w0) (a6p E w0) ops l (b2t T o.dst v) S Q)→b0I P E (w0.at E R0) ops (o::l) avs H (a2K E R T.length Q):=by
   intro hk h
   unfold b5 at h
   split at h
   ·rename_i d hd
    obtain⟨v,h1,h2⟩:=c0S hT hC hd
    rw[b0I,if_pos hk]
    exact⟨v,by rw[a9a hk];exact h2 H (hC.agr _),next (Fz.le_refl R) F hC h1 h⟩
   ·exact h.elim
  cases ha:a6Y o with
  |some x=>
   simp only[ha]at h
   obtain⟨hk,hv⟩:=b2V (P:=P) (E:=E) ha
   rw[b0I,if_pos (by omega)]
   exact⟨_,by rw[a9a (by omega)];exact hv ops avs H,next (Fz.le_refl R) F hC (j1 hT _) h⟩
  |none=>
   simp only[ha]at h
   rcases hk:n9 P o with _|_|k
   ·simp only[hk]at h;exact val (by omega) h
   ·simp only[hk]at h;exact val (by omega) h
   ·simp only[hk]at h
    rw[b0I,if_neg (by omega)]
    split at h
    ·rename_i x hx;exact c0O h0 F hC hT hx h
    ·refine Y1 (c1h (b3w b4n (b9z (goF h0 F hC) F hC hT h) fun v H' hq=>hq)) ?_
     rintro v H' ⟨F',R',S',d,hle,hC',hd,h'⟩
     exact next hle F' hC' hd h'
def c6q(P:Program)(E:d6)(ops:Array Oper)(R:Fz)(x:Oper×List D×b4)(y:l7):Prop:=
 x.1=y.o∧(n9 P y.o=1→∃Rd:Fz,Rd.le R∧∀H',Agr Rd x.2.2 (a5K P x.2.1 x.1) H'→b9Q P E ops y.T H' y.o=some y.v)
def DsC(P:Program)(E:d6)(ops:Array Oper)(R:Fz):List (Oper×List D×b4)→List l7→Prop
 | [],[]=>True
 |x::xs,y::ys=>c6q P E ops R x y∧DsC P E ops R xs ys
 |_,_=>False
theorem DsC.le{ops:Array Oper}{R R':Fz}(hle:R.le R'):∀ {xs:List (Oper×List D×b4)} {ys:List l7},DsC P E ops R xs ys→DsC P E ops R' xs ys
 | [],[],h=>h
 |x::xs,y::ys,h=>⟨⟨h.1.1,fun k=>let ⟨Rd,a,b⟩:=h.1.2 k;⟨Rd,Fz.le_trans a hle,b⟩⟩,DsC.le hle h.2⟩
 | [],_::_,h=>h.elim
 |_::_,[],h=>h.elim
theorem DsC.snoc{ops:Array Oper}{R:Fz}{x:Oper×List D×b4}{y:l7}(h1:c6q P E ops R x y):∀ {xs:List (Oper×List D×b4)} {ys:List l7},DsC P E ops R xs ys→DsC P E ops R (xs++[x]) (ys++[y])
 | [],[],h=>⟨h1,trivial⟩
 |x::xs,y::ys,h=>⟨h.1,DsC.snoc h1 h.2⟩
 | [],_::_,h=>h.elim
 |_::_,[],h=>h.elim
theorem b6o{ops:Array Oper}{R R':Fz}(hle:R.le R'){S':b4}{H':AHeap}(hC:o9 E R' S' H'){anc:Nat}{K:Prop}:∀ {xs:List (Oper×List D×b4)} {ys:List l7} {j:Nat},DsC P E ops R xs ys→b1s P S' anc K j xs→
  K∧∀(i:Nat) (d:l7),ys[i]? =some d→n9 P d.o=1→anc.testBit (j+i)=false→a8p P E ops d.T H' d.o=some d.v
 | [],[],j,_,h=>⟨h,fun i d e=>by simp at e⟩
 |x::xs,y::ys,j,⟨⟨e1,e2⟩,hd⟩,h=>by
  have step:∀(hK:b1s P S' anc K (j+1) xs),(n9 P y.o=1→anc.testBit j=false→b0q P x.2.1 x.1 x.2.2 S')→K∧∀(i:Nat) (d:l7),(y::ys)[i]? =some d→n9 P d.o=1→anc.testBit (j+i)=false→a8p P E ops d.T H' d.o=some d.v:=fun hK hf=>by
   obtain⟨k1,k2⟩:=b6o hle hC hd hK
   refine⟨k1,fun i d hi hk ha=> ?_⟩
   cases i with
   |zero=>
    simp at hi
    subst hi
    obtain⟨Rd,g1,g2⟩:=e2 hk
    have hft:=hf hk (by simpa using ha)
    rw[a9a (by omega)]
    exact g2 H' ⟨fun j cs e=>let ⟨w,pre,g⟩:=hC.frozen j cs (hle _ _ (g1 _ _ e));⟨w,pre,g⟩,fun j o' hj hjS hoc=>by
     rw[←b5M hft hj]at hjS
     obtain⟨_,⟨pre,g⟩,_⟩:=hC.cells hjS hoc
     exact⟨_,pre,g⟩,fun j o' rows hj hjS hm=>by
     rw[←b5M hft hj]at hjS
     obtain⟨_,es,cl,a,g,_⟩:=hC.mapAt hjS hm
     exact⟨es,cl,a,g⟩⟩
   |succ i=>exact k2 i d (by simpa using hi) hk (by rw[Nat.add_assoc,Nat.add_comm 1 i];exact ha)
  simp only[b1s]at h
  split at h
  ·exact step h.2 fun _ _=>h.1
  ·rename_i hc
   refine step h fun hk ha=>b9K ?_
   rw[e1]at hc ⊢
   simp only[hk,ha,Bool.not_false,Bool.and_true,beq_self_eq_true,Bool.true_and,Bool.not_eq_true]at hc
   exact hc
 | [],_::_,_,h,_=>h.elim
 |_::_,[],_,h,_=>h.elim
theorem c0g{R0:Fz}{ops:Array Oper}:∀ {l:List l7} {xs:List (Oper×List D×b4)} {ys:List l7} {T:List D} {avs:List AV} {S:b4} {H:AHeap} {R:Fz} {Q:List D→b4→Prop},R0.le R→y9 H→o9 E R S H→p5 E R T avs→DsC P E ops R xs ys→a9Q P (r8 P E w0) (a6p E w0) ops l xs T S Q→a5b P E (w0.at E R0) ops l ys avs H (a2K E R T.length Q)
 | [],xs,ys,T,avs,S,H,R,Q,h0,F,hC,hT,hD,h=>by
  simp only[a9Q,a4b]at h
  exact⟨F,R,S,T,Fz.le_refl R,hC,hT,rfl,h⟩
 |s::l,xs,ys,T,avs,S,H,R,Q,h0,F,hC,hT,hD,h=>by
  simp only[a9Q,a4b,b3e]at h
  have next:∀ {d:D} {v:AV} {R':Fz} {S':b4} {H':AHeap},R.le R'→y9 H'→o9 E R' S' H'→Rp E R' d v→c6q P E ops R' (s.o,T,S) ⟨s.o,s.anc,avs,v,0,0,s.wr,[]⟩→a9Q P (r8 P E w0) (a6p E w0) ops l (xs++[(s.o,T,S)]) (b2t T s.o.dst d) S' Q→a5b P E (w0.at E R0) ops l (ys++[⟨s.o,s.anc,avs,v,0,0,s.wr,[]⟩]) (Z2 avs s.o.dst v) H' (a2K E R T.length Q):=by
   intro d v R' S' H' hle F' hC' hd he h'
   have:=c0g (Fz.le_trans h0 hle) F' hC' (c1g (p5.le hle _ _ hT) s.o.dst hd) ((hD.le hle).snoc he) h'
   rw[b2d]at this
   exact b1f (fun _ _=>a2K.le hle) this
  have val:n9 P s.o≤1→(b5 (c2A P ops T S s.o) fun v=>a9Q P (r8 P E w0) (a6p E w0) ops l (xs++[(s.o,T,S)]) (b2t T s.o.dst v) S Q)→a5b P E (w0.at E R0) ops (s::l) ys avs H (a2K E R T.length Q):=by
   intro hk h
   unfold b5 at h
   split at h
   ·rename_i d hd
    obtain⟨v,h1,h2⟩:=c0S hT hC hd
    rw[a5b,if_pos hk]
    exact⟨v,by rw[a9a hk];exact h2 H (hC.agr _),next (Fz.le_refl R) F hC h1 ⟨rfl,fun _=>⟨R,Fz.le_refl R,h2⟩⟩ h⟩
   ·exact h.elim
  cases ha:a6Y s.o with
  |some x=>
   simp only[ha]at h
   obtain⟨hk,hv⟩:=b2V (P:=P) (E:=E) ha
   rw[a5b,if_pos (by omega)]
   exact⟨_,by rw[a9a (by omega)];exact hv ops avs H,next (Fz.le_refl R) F hC (j1 hT _) ⟨rfl,fun hk1=>by simp only at hk1;omega⟩ h⟩
  |none=>
   simp only[ha]at h
   rcases hk:n9 P s.o with _|_|k
   ·simp only[hk]at h;exact val (by omega) h
   ·simp only[hk]at h;exact val (by omega) h
   ·simp only[hk]at h
    rw[a5b,if_neg (by omega)]
    split at h
    ·rename_i x hx;exact c0O h0 F hC hT hx h
    ·refine Y1 (c1h (b3w b4n (b9z (goF h0 F hC) F hC hT h) fun v H' hq=>hq)) ?_
     rintro v H' ⟨F',R',S',d,hle,hC',hd,h'⟩
     obtain⟨k1,k2⟩:=b6o hle hC' hD h'
     exact⟨fun i d hi hk1 ha=>k2 i d hi hk1 (by rw[Nat.zero_add];exact ha),next hle F' hC' hd ⟨rfl,fun hk1=>by simp only at hk1;omega⟩ k1⟩
end
end
section
section
variable(P:Program)(E:d6)(w0:i5)
def c3Z(E:d6)(R:Fz)(n:Nat)(Q:j2→List D→b4→Prop)(ex:j2)(avs':List AV)(H':AHeap):Prop:=a2K E R n (Q ex) avs' H'
def b8(c:Code)(T:List D)(S:b4)(Q:j2→List D→b4→Prop):Prop:=
 ∀R H avs,y9 H→o9 E R S H→p5 E R T avs→C7 P E (w0.at E R) c avs H (c3Z E R T.length Q)
end
def M9:List D→List Nat→List D→List D
 |T,i::L,v::vs=>M9 (T.set i v) L vs
 |T,_,_=>T
def d8(n:Nat)(L:List Nat)(vs:List D):List D:=M9 (List.replicate n .any) L vs
def a4D(T:List D):List Nat→List D
 | []=>[]
 |i::L=>T.getD i a8::a4D T L
def g8(c:D)(a b:Prop):Prop:=match c with
 | .bool true=>a
 | .bool false=>b
 |_=>False
def i4(id:Nat)(Q:j2→List D→b4→Prop):j2→List D→b4→Prop
 | .exit id',T,S=>if id'=id then Q .normal T S else Q (.exit id') T S
 |e,T,S=>Q e T S
def c1k{α:Type}(k:Nat):List (Nat×α)→Option α
 | []=>none
 |(i,L)::l=>if i=k then some L else c1k k l
def hdD:Code→Option Nat
 | .region id _ _=>some (2*id)
 | .seq a b=>match hdD a with
  |some k=>some k
  |none=>hdD b
 | .cond _ a b=>match hdD a with
  |some k=>some (2*k+1)
  |none=>match hdD b with
   |some k=>some (2*k+1)
   |none=>none
 | .block _ c| .loop c=>hdD c
 |_=>none
def c6Q(cuts:List (Nat×List Nat))(c:Code):Option (List Nat):=match hdD c with
 |some id=>c1k id cuts
 |none=>none
section
variable(P:Program)(E:d6)(w0:i5)(loops cuts:List (Nat×List Nat))(arrs:List (Nat×Arr))
def vcD:Code→List D→b4→(j2→List D→b4→Prop)→Prop
 | .skip,T,S,Q=>Q .normal T S
 | .label _,T,S,Q=>Q .normal T S
 | .ret,T,S,Q=>Q .ret T S
 | .exit id,T,S,Q=>Q (.exit id) T S
 | .region id ops draw,T,S,Q=>match draw with
  |false=>b2n P (r8 P E w0) (a6p E w0) ops ops.toList T S (Q .normal)
  |true=>match c1k id arrs with
   |some t=>if a4t ops&&b3G ops then a6l P ops (fun ops' sd=>a9Q P (r8 P E w0) (a6p E w0) ops' sd [] T S (Q .normal)) t []else False
   |none=>match a5Q P ops ops.toList []with
    |some sd=>a9Q P (r8 P E w0) (a6p E w0) ops sd [] T S (Q .normal)
    |none=>False
 | .seq a b,T,S,Q=>match c6Q cuts b with
  |some L=>vcD a T S fun ex T' S'=>match ex with
   | .normal=>b8 P E w0 b (d8 T.length L (a4D T' L)) S' Q
   |e=>Q e T' S'
  |none=>vcD a T S fun ex T' S'=>match ex with
   | .normal=>vcD b T' S' Q
   |e=>Q e T' S'
 | .cond c a b,T,S,Q=>g8 (m7 T c) (vcD a T S Q) (vcD b T S Q)
 | .block id c,T,S,Q=>vcD c T S (i4 id Q)
 | .loop c,T,S,Q=>match c6Q loops c with
  |some L=>b8 P E w0 (.loop c) (d8 T.length L (a4D T L)) S Q
  |none=>b8 P E w0 (.loop c) T S Q
 |_,_,_,_=>False
end
section
variable(P:Program)(E:d6)(w0:i5)(loops cuts:List (Nat×List Nat))(arrs:List (Nat×Arr))
def J0(b:Code)(Q:j2→List D→b4→Prop)(ex:j2)(T:List D)(S:b4):Prop:=match ex with
 | .normal=>vcD P E w0 loops cuts arrs b T S Q
 |e=>Q e T S
def a7h(n:Nat)(L:List Nat)(b:Code)(Q:j2→List D→b4→Prop)(ex:j2)(T:List D)(S:b4):Prop:=match ex with
 | .normal=>b8 P E w0 b (d8 n L (a4D T L)) S Q
 |e=>Q e T S
end
def m9(N:List D→b4→Prop)(Q:j2→List D→b4→Prop)(ex:j2)(T:List D)(S:b4):Prop:=match ex with
 | .normal=>N T S
 |e=>Q e T S
def a6J(P:Program)(S:b4)(T:List D):List ResultVar→(List D→Prop)→Prop
 | [],K=>K []
 | .tmp t::l,K=>a6J P S T l fun vs=>K (T.getD t a8::vs)
 | .cell a t::l,K=>b5 (c0M P S t (T.getD a a8)) fun v=>a6J P S T l fun vs=>K (v::vs)
def c3z:List D→D
 | [v]=>v
 |vs=> .tup vs
def E3(P:Program)(fn:Func)(Q:D→b4→Prop):j2→List D→b4→Prop
 | .exit _,_,_=>False
 |_,T,S=>a6J P S T fn.results.toList fun vs=>Q (c3z vs) S
def b9(E:d6)(Q:D→b4→Prop)(d:D)(S:b4):Prop:=
 ∀R H v,o9 E R S H→Rp E R d v→∃R' S' d',R.le R'∧o9 E R' S' H∧Rp E R' d' v∧Q d' S'
section
variable{P:Program}{E:d6}{w0:i5}
theorem b8.mono{c:Code}{T:List D}{S:b4}{Q Q':j2→List D→b4→Prop}(h:b8 P E w0 c T S Q)(hq:∀ex T' S',T'.length=T.length→Q ex T' S'→Q' ex T' S'):b8 P E w0 c T S Q':=fun R H avs F hC hT=>
 (h R H avs F hC hT).mono fun ex T' H' ⟨F',R',S',T1,a,b,c,d,e⟩=>⟨F',R',S',T1,a,b,c,d,hq _ _ _ d e⟩
theorem r8.use{f:FuncId}{ds:List D}{S:b4}{Q Q':D→b4→Prop}(h:r8 P E w0 f ds S Q)(hq:∀d S',Q d S'→Q' d S'):r8 P E w0 f ds S Q':=fun R H avs hFi hC ha=>
 (h R H avs hFi hC ha).mono fun v H' ⟨F',R',S',d,a,b,c,e⟩=>⟨F',R',S',d,a,b,c,hq _ _ e⟩
theorem a7O:∀(T:List D) (L:List Nat) (vs:List D),(M9 T L vs).length=T.length
 |T,i::L,v::vs=>by rw[M9,a7O,List.length_set]
 |T,[],_=>by simp[M9]
 |T,_::_,[]=>by simp[M9]
theorem f9(n:Nat)(L:List Nat)(vs:List D):(d8 n L vs).length=n:=by rw[d8,a7O,List.length_replicate]
theorem c1z{R:Fz}:∀ {avs:List AV},p5 E R (List.replicate avs.length .any) avs
 | []=>y8
 |v::avs=>o4 a6x c1z
theorem c4D{R:Fz}{T:List D}{avs:List AV}(h:p5 E R T avs)(L:List Nat):p5 E R (d8 T.length L (a4D T L)) avs:=by
 have main:∀(L:List Nat) (T0:List D),T0.length=T.length→p5 E R T0 avs→p5 E R (M9 T0 L (a4D T L)) avs:=by
  intro L
  induction L with
  |nil=>intro T0 hl h0;simpa [M9,a4D]using h0
  |cons i L ih=>
   intro T0 hl h0
   simp only[a4D,M9]
   refine ih _ (by rw[List.length_set,hl]) ?_
   by_cases hi:i<T.length
   ·have hlen:=h.length
    have:=h0.set i (a6s h i)
    rw[List.getD_eq_getElem?_getD (l:=avs),List.getElem?_eq_getElem (by omega),Option.getD_some,List.set_getElem_self]at this
    exact this
   ·rw[List.set_eq_of_length_le (by omega)]
    exact h0
 refine main L _ (by rw[List.length_replicate]) ?_
 rw[←h.length]
 exact c1z
theorem l9{c:Code}{T:List D}{S:b4}{Q:j2→List D→b4→Prop}{n:Nat}(L:List Nat)(hn:T.length=n)(h:b8 P E w0 c (d8 n L (a4D T L)) S Q):b8 P E w0 c T S Q:=fun R H avs F hC hT=>by
 have:=h R H avs F hC (by rw[←hn];exact c4D hT L)
 rw[f9, ←hn]at this
 exact this
theorem j7{c:Code}{Q:j2→List D→b4→Prop}{I:Nat→List D→b4→Prop}{k:Nat}
  (step:∀n T S,T.length=k→I n T S→b8 P E w0 c T S fun ex T' S'=>match ex with| .normal=>∃m,m<n∧I m T' S'|e=>Q e T' S')
  {n:Nat} {T:List D} {S:b4} (hk:T.length=k) (h:I n T S):b8 P E w0 (.loop c) T S Q:=fun R H avs F hC hT=>by
 refine b9J (I:=fun n avs H=>a2K E R k (I n) avs H) (fun n avs H hI=> ?_) (n:=n) ⟨F,R,S,T,Fz.le_refl R,hC,hT,hk,h⟩
 obtain⟨F1,R1,S1,T1,a,b,c1,d,e⟩:=hI
 refine(C7.at_le a (step n T1 S1 d e R1 H avs F1 b c1)).mono fun ex T' H' hq=> ?_
 cases ex with
 |normal=>
  obtain⟨F2,R2,S2,T2,a2,b2,c2,d2,m,hm,e2⟩:=hq
  exact⟨m,hm,F2,R2,S2,T2,Fz.le_trans a a2,b2,c2,by rw[d2,d],e2⟩
 |exit id=>
  obtain⟨F2,R2,S2,T2,a2,b2,c2,d2,e2⟩:=hq
  exact⟨F2,R2,S2,T2,Fz.le_trans a a2,b2,c2,by rw[d2,d,hk],e2⟩
 |ret=>
  obtain⟨F2,R2,S2,T2,a2,b2,c2,d2,e2⟩:=hq
  exact⟨F2,R2,S2,T2,Fz.le_trans a a2,b2,c2,by rw[d2,d,hk],e2⟩
theorem c1I{id:Nat}{ops:Array Oper}{T:List D}{S:b4}{Q:j2→List D→b4→Prop}(h:b2n P (r8 P E w0) (a6p E w0) ops ops.toList T S (Q .normal)):b8 P E w0 (.region id ops false) T S Q:=fun R H avs F hC hT=>b7a (a9c (b7u (Fz.le_refl R) F hC hT h))
theorem c0o(hm:P.follows .mixedOrders=true){id:Nat}{ops:Array Oper}{sd:List l7}(hB:a5Q P ops ops.toList []=some sd){T:List D}{S:b4}{Q:j2→List D→b4→Prop}(h:a9Q P (r8 P E w0) (a6p E w0) ops sd [] T S (Q .normal)):b8 P E w0 (.region id ops true) T S Q:=fun R H avs F hC hT=>c0A hm hB (c0g (xs:=[]) (ys:=[]) (Fz.le_refl R) F hC hT trivial h)
theorem b8E(hm:P.follows .mixedOrders=true){id:Nat}{ops:Array Oper}{t:Arr}{T:List D}{S:b4}{Q:j2→List D→b4→Prop}(h:if a4t ops&&b3G ops then a6l P ops (fun ops' sd=>a9Q P (r8 P E w0) (a6p E w0) ops' sd [] T S (Q .normal)) t []else False):b8 P E w0 (.region id ops true) T S Q:=fun R H avs F hC hT=>by
 split at h
 ·rename_i hok
  simp only[Bool.and_eq_true]at hok
  exact b8O hm hok.1 hok.2 (h.mono fun ops' sd ho=>c0g (xs:=[]) (ys:=[]) (Fz.le_refl R) F hC hT trivial ho)
 ·exact h.elim
variable{loops cuts:List (Nat×List Nat)}{arrs:List (Nat×Arr)}
theorem a6e(hm:P.follows .mixedOrders=true):∀(c:Code) (T:List D) (S:b4) (Q:j2→List D→b4→Prop),vcD P E w0 loops cuts arrs c T S Q→b8 P E w0 c T S Q
 | .skip,T,S,Q,h=>fun R H avs F hC hT=>b9W ⟨F,R,S,T,Fz.le_refl R,hC,hT,rfl,h⟩
 | .label _,T,S,Q,h=>fun R H avs F hC hT=>b8N ⟨F,R,S,T,Fz.le_refl R,hC,hT,rfl,h⟩
 | .ret,T,S,Q,h=>fun R H avs F hC hT=>b0C ⟨F,R,S,T,Fz.le_refl R,hC,hT,rfl,h⟩
 | .exit id,T,S,Q,h=>fun R H avs F hC hT=>b9G ⟨F,R,S,T,Fz.le_refl R,hC,hT,rfl,h⟩
 | .region _ ops false,T,S,Q,h=>c1I h
 | .region id ops true,T,S,Q,h=>by
  change (match c1k id arrs with
   |some t=>if a4t ops&&b3G ops then a6l P ops (fun ops' sd=>a9Q P (r8 P E w0) (a6p E w0) ops' sd [] T S (Q .normal)) t []else False
   |none=>match a5Q P ops ops.toList []with
    |some sd=>a9Q P (r8 P E w0) (a6p E w0) ops sd [] T S (Q .normal)
    |none=>False)at h
  split at h
  ·exact b8E hm h
  ·split at h
   ·rename_i sd hB;exact c0o hm hB h
   ·exact h.elim
 | .seq a b,T,S,Q,h=>fun R H avs F hC hT=>by
  simp only[vcD]at h
  have fin:b8 P E w0 a T S (fun ex T' S'=>match ex with| .normal=>b8 P E w0 b T' S' Q|e=>Q e T' S')→C7 P E (w0.at E R) (.seq a b) avs H (c3Z E R T.length Q):=by
   intro h
   refine b5Z ((h R H avs F hC hT).mono fun ex T' H' hq=> ?_)
   cases ex with
   |normal=>
    obtain⟨F2,R2,S2,T2,a2,b2,c2,d2,e2⟩:=hq
    have:=e2 R2 H' T' F2 b2 c2
    rw[d2]at this
    exact(C7.at_le a2 this).mono fun ex T' H' hq=>a2K.le a2 hq
   |exit id=>exact hq
   |ret=>exact hq
  split at h
  ·rename_i L hL
   refine fin ((a6e hm a T S _ h).mono fun ex T' S' hl hq=> ?_)
   cases ex with
   |normal=>exact l9 L hl hq
   |exit id=>exact hq
   |ret=>exact hq
  ·refine fin ((a6e hm a T S _ h).mono fun ex T' S' hl hq=> ?_)
   cases ex with
   |normal=>exact a6e hm b T' S' Q hq
   |exit id=>exact hq
   |ret=>exact hq
 | .cond c a b,T,S,Q,h=>fun R H avs F hC hT=>by
  simp only[vcD]at h
  have hr:=j1 hT c
  unfold g8 at h
  split at h
  ·rename_i e
   rw[e]at hr
   simp only[Rp]at hr
   exact b3f (by rw[hr];exact a6e hm a T S Q h R H avs F hC hT)
  ·rename_i e
   rw[e]at hr
   simp only[Rp]at hr
   exact b3f (by rw[hr];exact a6e hm b T S Q h R H avs F hC hT)
  ·exact h.elim
 | .block id c,T,S,Q,h=>fun R H avs F hC hT=>by
  refine b8C ((a6e hm c T S _ h R H avs F hC hT).mono fun ex T' H' hq=> ?_)
  cases ex with
  |normal=>exact hq
  |ret=>exact hq
  |exit id'=>
   obtain⟨F2,R2,S2,T2,a2,b2,c2,d2,e2⟩:=hq
   simp only[i4]at e2
   simp only[c0b]
   split at e2
   ·rename_i e;rw[if_pos e];exact⟨F2,R2,S2,T2,a2,b2,c2,d2,e2⟩
   ·rename_i e;rw[if_neg e];exact⟨F2,R2,S2,T2,a2,b2,c2,d2,e2⟩
 | .loop c,T,S,Q,h=>by
  simp only[vcD]at h
  split at h
  ·rename_i L hL;exact l9 L rfl h
  ·exact h
 | .rangeFunc ..,T,S,Q,h=>h.elim
 | .scope ..,T,S,Q,h=>h.elim
 | .goto ..,T,S,Q,h=>h.elim
 | .refuse ..,T,S,Q,h=>h.elim
theorem a8u{R:Fz}{S:b4}{H:AHeap}{T:List D}{avs:List AV}(hC:o9 E R S H)(hT:p5 E R T avs):∀ {l:List ResultVar} {K:List D→Prop} {K':List AV→Prop},(∀ds vs,p5 E R ds vs→K ds→K' vs)→a6J P S T l K→a0W P E H avs l K'
 | [],K,K',hk,h=>hk [] [] y8 h
 | .tmp t::l,K,K',hk,h=>by
  have:=a8u (l:=l) (K':=fun vs=>K' (avs.getD t p4::vs)) hC hT (fun ds vs hr hK=>hk (T.getD t a8::ds) (avs.getD t p4::vs) (o4 (a6s hT t) hr) hK) h
  exact this
 | .cell a t::l,K,K',hk,h=>by
  simp only[a6J]at h
  unfold b5 at h
  split at h
  ·rename_i d hd
   have ha:=a6s hT a
   obtain⟨v,h1,h2⟩:=c1D hC ha hd
   have h2:=h2 H (hC.agr _)
   have:=a8u (l:=l) (K':=fun vs=>K' (v::vs)) hC hT (fun ds vs hr hK=>hk (d::ds) (v::vs) (o4 h1 hr) hK) h
   simp only[a0W]
   unfold c1o at h2
   split at h2
   ·rename_i o i e
    simp only[e,h2,a6H]
    exact this
   ·cases h2
  ·exact h.elim
theorem c4z{R:Fz}{ds:List D}{vs:List AV}(h:p5 E R ds vs):Rp E R (c3z ds) (b5K vs):=by
 rcases ds with _|⟨d,_|⟨d',ds⟩⟩
 ·simp only[p5]at h;subst h;exact P4
 ·simp only[p5]at h
  obtain⟨v,_,rfl,h1,rfl⟩:=h
  exact h1
 ·have h':=h
  simp only[p5]at h
  obtain⟨v,_,rfl,h1,v2,vs',rfl,h2,h3⟩:=h
  show Rp E R (.tup (d::d'::ds)) (.tup (v::v2::vs'))
  simp only[Rp]
  exact⟨_,rfl,h'⟩
theorem b7P{f:FuncId}{fn:Func}{c:Code}(hfn:P.funcs[f]? =some fn)(hb:fn.body=some c){ds:List D}{S:b4}{Q:D→b4→Prop}
  (h:b8 P E w0 c (ds++List.replicate (fn.ntmps - ds.length) a8) S (E3 P fn (b9 E Q))):r8 P E w0 f ds S Q:=fun R H avs F hC ha=>by
 have hrow:p5 E R (ds++List.replicate (fn.ntmps - ds.length) a8) (avs++List.replicate (fn.ntmps - avs.length) p4):=by
  refine ha.append ?_
  rw[ha.length]
  generalize fn.ntmps - ds.length=m
  induction m with
  |zero=>exact y8
  |succ m ih=>exact o4 P4 ih
 have h':C7 P E (w0.at E R) c (avs++List.replicate (fn.ntmps - avs.length) p4) H (c7i P E fn (I7 E R Q)):=by
  refine(h R H _ F hC hrow).mono fun ex T' H' hq=> ?_
  obtain⟨F2,R2,S2,T2,a2,b2,c2,d2,e2⟩:=hq
  have go:∀ {l:List ResultVar},a6J P S2 T2 l (fun vs=>b9 E Q (c3z vs) S2)→a0W P E H' T' l fun vs=>I7 E R Q (b5K vs) H':=fun h=>a8u b2 c2 (fun ds vs hr hK=>by
   obtain⟨R',S',d',k1,k2,k3,k4⟩:=hK R2 H' _ b2 (c4z hr)
   exact⟨F2,R',S',d',Fz.le_trans a2 k1,k2,k3,k4⟩) h
  cases ex with
  |normal=>exact go e2
  |ret=>exact go e2
  |exit id=>exact e2
 exact b8i hfn hb h'
theorem o6(loops cuts:List (Nat×List Nat))(arrs:List (Nat×Arr))(hm:P.follows .mixedOrders=true){f:FuncId}{fn:Func}{c:Code}(hfn:P.funcs[f]? =some fn)(hb:fn.body=some c){ds:List D}{S:b4}{Q:D→b4→Prop}{V:Prop}
  (e:vcD P E w0 loops cuts arrs c (ds++List.replicate (fn.ntmps - ds.length) a8) S (E3 P fn (b9 E Q))=V) (h:V):r8 P E w0 f ds S Q:=
 b7P hfn hb (a6e hm _ _ _ _ (e▸h))
theorem d5(loops cuts:List (Nat×List Nat))(arrs:List (Nat×Arr))(hm:P.follows .mixedOrders=true){c:Code}{T:List D}{S:b4}{Q:j2→List D→b4→Prop}{V:Prop}(e:vcD P E w0 loops cuts arrs c T S Q=V)(h:V):b8 P E w0 c T S Q:=
 a6e hm _ _ _ _ (e▸h)
theorem b9.here{Q:D→b4→Prop}{d:D}{S:b4}(h:Q d S):b9 E Q d S:=fun R H v hC hd=>⟨R,S,d,Fz.le_refl R,hC,hd,h⟩
theorem b9.less{Q:D→b4→Prop}{d:D}{S S':b4}(hs:S'.le S)(h:b9 E Q d S'):b9 E Q d S:=fun R H v hC hd=>h R H v (hC.less hs) hd
theorem b9.mono{Q Q':D→b4→Prop}{d:D}{S:b4}(h:b9 E Q d S)(hq:∀d S,Q d S→Q' d S):b9 E Q' d S:=fun R H v hC hd=>by
 obtain⟨R',S',d',a,b,c,e⟩:=h R H v hC hd
 exact⟨R',S',d',a,b,c,hq _ _ e⟩
theorem b9.freeze{Q:D→b4→Prop}{S:b4}{k:Nat}{o:u7}(hk:S k=some o){i len cap:Nat}{ex:Bool}{sz:Nat}(hsz:o.sz=sz)(hl:i+len≤o.rows.length)(hc:len≤cap)
  (h:b9 E Q (.lst ((o.rows.drop i).take len) sz) (S.erase k)):b9 E Q (.raw k i len cap ex sz) S:=fun R H v hC hd=>by
 have hzm:sz<E9:=by simp only[Rp]at hd;exact hd.1
 obtain⟨h1,h2⟩:=hC.freeze hk (.inl (by rw[hsz];exact hzm))
 obtain⟨R',S',d',a,b,c,e⟩:=h _ H v h1 (a6U hC hk hd hsz hl hc)
 exact⟨R',S',d',Fz.le_trans h2 a,b,c,e⟩
theorem b9.freezeT{Q:D→b4→Prop}{S:b4}{k:Nat}{o:u7}(hk:S k=some o){i len cap:Nat}{ex:Bool}{sz:Nat}(hsz:o.sz=sz)(hl:i+len≤o.rows.length)(hc:len≤cap){lp lq:List D}
  (h:b9 E Q (.tup (lp++ .lst ((o.rows.drop i).take len) sz::lq)) (S.erase k)):b9 E Q (.tup (lp++ .raw k i len cap ex sz::lq)) S:=fun R H v hC hd=>by
 simp only[Rp]at hd
 obtain⟨vs,rfl,hv⟩:=hd
 obtain⟨v1,v2,rfl,g1,g2⟩:=a1W hv
 simp only[p5]at g2
 obtain⟨w,ws,rfl,g3,g4⟩:=g2
 have hzm:sz<E9:=by simp only[Rp]at g3;exact g3.1
 obtain⟨h1,h2⟩:=hC.freeze hk (.inl (by rw[hsz];exact hzm))
 obtain⟨R',S',d',a,b,c,e⟩:=h _ H (.tup (v1++w::ws)) h1 (by
  simp only[Rp]
  exact⟨_,rfl,(p5.le h2 _ _ g1).append (o4 (a6U hC hk g3 hsz hl hc) (p5.le h2 _ _ g4))⟩)
 exact⟨R',S',d',Fz.le_trans h2 a,b,c,e⟩
theorem b9.nil{Q:D→b4→Prop}{S:b4}{sz:Nat}(h:b9 E Q (.lst [] sz) S):b9 E Q .nilSlc S:=fun R H v hC hd=>h R H v hC (by simp only[Rp]at hd ⊢;exact .inl ⟨trivial,hd⟩)
theorem b9.nilT{Q:D→b4→Prop}{S:b4}{sz:Nat}{lp lq:List D}(h:b9 E Q (.tup (lp++ .lst [] sz::lq)) S):b9 E Q (.tup (lp++ .nilSlc::lq)) S:=fun R H v hC hd=>h R H v hC (by
 simp only[Rp]at hd ⊢
 obtain⟨vs,rfl,hv⟩:=hd
 obtain⟨v1,v2,rfl,g1,g2⟩:=a1W hv
 simp only[p5]at g2
 obtain⟨w,ws,rfl,g3,g4⟩:=g2
 exact⟨_,rfl,g1.append (o4 (by simp only[Rp]at g3 ⊢;exact .inl ⟨trivial,g3⟩) g4)⟩)
def a1o(P:Program)(E:d6)(w0:i5)(f:FuncId)(ds:List D)(d:D):Prop:=∀S,r8 P E w0 f ds S fun d' S'=>d'=d∧S'=S
theorem a1o.use{f:FuncId}{ds:List D}{d:D}(h:a1o P E w0 f ds d){S:b4}{K:D→b4→Prop}(hk:K d S):r8 P E w0 f ds S K:=(h S).use fun d' S' ⟨a,b⟩=>by subst a b;exact hk
end
end
end Go.Am
end
section
open Go.Proofs Go Go.Am
namespace Go.Proofs.Ytdkidgkiplcggaa.d
section
theorem mixed:Try.prog.follows .mixedOrders=true:=by kernel_rfl
abbrev a0r:FuncId:=4
abbrev M2:FuncId:=11
abbrev a3v:FuncId:=14
abbrev a1R:FuncId:=15
abbrev a0i:FuncId:=17
abbrev C0:FuncId:=18
abbrev A1:FuncId:=19
abbrev X0:FuncId:=20
abbrev a0b:FuncId:=21
abbrev a1s:FuncId:=22
abbrev a6N:FuncId:=23
abbrev a3d:FuncId:=36
abbrev J3:FuncId:=38
abbrev I0:FuncId:=39
abbrev M6:FuncId:=40
abbrev a7l:FuncId:=41
abbrev a2X:FuncId:=42
abbrev a4T:FuncId:=43
abbrev a1M:FuncId:=44
abbrev H3:FuncId:=54
abbrev Y0:FuncId:=57
abbrev a4K:FuncId:=60
abbrev t6:FuncId:=61
abbrev l8:FuncId:=62
abbrev A0:FuncId:=63
abbrev a5P:FuncId:=87
abbrev L3:FuncId:=88
abbrev a0a:FuncId:=89
abbrev a5C:FuncId:=90
abbrev a6v:FuncId:=113
abbrev a5T:FuncId:=114
abbrev Y7:FuncId:=132
abbrev O7:FuncId:=141
end
section
def b7e:List (Nat×List Nat):=[]
def b7w:List (Nat×List Nat):=[]
def b6w:List (Nat×Arr):=[]
def b1V(E:d6)(w0:i5)(Q:D→b4→Prop)(a0:D)(S:b4):Prop:=
 b5 (d4 .eql a0 (.int .u8 1)) fun v0=>
 g8 v0
 (Q (.int .i64 8) S)
 (b5 (d4 .eql a0 (.int .u8 2)) fun v1=>
 g8 v1
 (Q (.int .i64 32) S)
 (b5 (d4 .eql a0 (.int .u8 3)) fun v2=>
 g8 v2
 (Q (.int .i64 64) S)
 (Q (.int .i64 0) S)))
theorem b3v{E:d6}{w0:i5}{Q:D→b4→Prop}{a0:D}{S:b4}(h:b1V E w0 (b9 E Q) a0 S):r8 Try.prog E w0 a6v [a0] S Q:=
 o6 b7e b7w b6w (fn:=Try.f113) (c:=Try.f113.body.getD .skip) mixed Try.func113 (by kernel_rfl) (by kernel_rfl) h
def b6T:List (Nat×List Nat):=[]
def b7E:List (Nat×List Nat):=[]
def b6r:List (Nat×Arr):=[]
def b1X(E:d6)(w0:i5)(Q:D→b4→Prop)(a0 a1:D)(S:b4):Prop:=
 b5 (d4 .eql a0 (.int .u8 1)) fun v0=>
 g8 v0
 (b5 (V3 .i8 a1) fun v1=>
 b5 (V3 .i64 v1) fun v2=>
 Q v2 S)
 (b5 (d4 .eql a0 (.int .u8 2)) fun v3=>
 g8 v3
 (b5 (V3 .i32 a1) fun v4=>
 b5 (V3 .i64 v4) fun v5=>
 Q v5 S)
 (b5 (d4 .eql a0 (.int .u8 3)) fun v6=>
 g8 v6
 (Q a1 S)
 (Q (.int .i64 0) S)))
theorem b4u{E:d6}{w0:i5}{Q:D→b4→Prop}{a0 a1:D}{S:b4}(h:b1X E w0 (b9 E Q) a0 a1 S):r8 Try.prog E w0 a5T [a0,a1] S Q:=
 o6 b6T b7E b6r (fn:=Try.f114) (c:=Try.f114.body.getD .skip) mixed Try.func114 (by kernel_rfl) (by kernel_rfl) h
def b7j:List (Nat×List Nat):=[]
def b6Q:List (Nat×List Nat):=[]
def b6x:List (Nat×Arr):=[]
def b1T(E:d6)(w0:i5)(Q:D→b4→Prop)(a0 a1:D)(S:b4):Prop:=
 r8 Try.prog E w0 a6v [a0] S fun v0 S1=>
 b5 (d4 .gtr v0 (.int .i64 0)) fun v2=>
 b5 (d9 (b7 v2 true) (some a0)) fun v3=>
 b5 (d9 (b7 v2 true) (some a1)) fun v4=>
 Z6 (b7 v2 true) (fun K=>r8 Try.prog E w0 a5T [v3,v4] S1 K) S1 fun v5 S6=>
 b5 (d9 (b7 v2 true) (some a1)) fun v7=>
 b5 (d9 (b7 v2 true) (d4 .eql v5 v7)) fun v8=>
 b5 (H5 v2 v8 (.bool false)) fun v9=>
 Q v9 S6
theorem b3r{E:d6}{w0:i5}{Q:D→b4→Prop}{a0 a1:D}{S:b4}(h:b1T E w0 (b9 E Q) a0 a1 S):r8 Try.prog E w0 a5C [a0,a1] S Q:=
 o6 b7j b6Q b6x (fn:=Try.f90) (c:=Try.f90.body.getD .skip) mixed Try.func90 (by kernel_rfl) (by kernel_rfl) h
def a5c:List (Nat×List Nat):=[(20,[0,1,2,9,29,30])]
def a4X:List (Nat×List Nat):=[]
def a4B:List (Nat×Arr):=[]
noncomputable def a3K:Code:=(f0 [1,1,1,0,1,0,0] (Try.f87.body.getD .skip))
def a3y(E:d6)(w0:i5)(Q:D→b4→Prop):j2→List D→b4→Prop:=
 (i4 1 (J0 Try.prog E w0 a5c a4X a4B (f0 [1,1,1,1] (Try.f87.body.getD .skip)) (E3 Try.prog Try.f87 Q)))
def a3T(E:d6)(w0:i5)(N0:D→D→D→D→D→D→b4→Prop)(Q:D→b4→Prop)(x0 x1 x2 x9 x29 x30:D)(S:b4):Prop:=
 b5 (d4 .lss x30 x29) fun v3=>
 g8 v3
 (b5 (d4 .add x1 x30) fun v4=>
 b5 (j5 1 x0 v4) fun v5=>
 b5 (c9 S v5) fun v6=>
 b5 (V3 .u64 v6) fun v7=>
 b5 (d4 .mul (.int .i64 8) x30) fun v8=>
 b5 (d4 .shl v7 v8) fun v9=>
 b5 (d4 .or x9 v9) fun v10=>
 b5 (d4 .add x30 (.int .i64 1)) fun v11=>
 N0 x0 x1 x2 v10 x29 v11 S)
 (b5 (d4 .add x1 x2) fun v12=>
 Q (.tup [x9,v12,(.int .i64 0)]) S)
theorem b0W{E:d6}{w0:i5}{N0:D→D→D→D→D→D→b4→Prop}{Q:D→b4→Prop}{x0 x1 x2 x9 x29 x30:D}{S:b4}(h:a3T E w0 N0 Q x0 x1 x2 x9 x29 x30 S):
  b8 Try.prog E w0 a3K (d8 50 [0,1,2,9,29,30] [x0,x1,x2,x9,x29,x30]) S (m9 (fun T S=>N0 (T.getD 0 a8) (T.getD 1 a8) (T.getD 2 a8) (T.getD 9 a8) (T.getD 29 a8) (T.getD 30 a8) S) (a3y E w0 Q)):=d5 a5c a4X a4B mixed (by kernel_rfl) h
theorem b0S{E:d6}{w0:i5}{Q:D→b4→Prop}(I:Nat→D→D→D→D→D→D→b4→Prop)
  (step:∀n x0 x1 x2 x9 x29 x30 S,I n x0 x1 x2 x9 x29 x30 S→a3T E w0 (fun x0 x1 x2 x9 x29 x30 S=>∃m,m<n∧I m x0 x1 x2 x9 x29 x30 S) Q x0 x1 x2 x9 x29 x30 S)
  {n:Nat} {x0 x1 x2 x9 x29 x30:D} {S:b4} (h:I n x0 x1 x2 x9 x29 x30 S):b8 Try.prog E w0 (.loop a3K) (d8 50 [0,1,2,9,29,30] [x0,x1,x2,x9,x29,x30]) S (a3y E w0 Q):=
 j7 (k:=50) (n:=n) (I:=fun n T S=>I n (T.getD 0 a8) (T.getD 1 a8) (T.getD 2 a8) (T.getD 9 a8) (T.getD 29 a8) (T.getD 30 a8) S) (fun n T S hl hI=>l9 [0,1,2,9,29,30] hl (b8.mono (b0W (step n _ _ _ _ _ _ S hI)) fun ex T' S' _ hq=>by cases ex<;>exact hq)) (f9 ..) (Eq.mp (by kernel_rfl) h)
def V5(E:d6)(w0:i5)(Q:D→b4→Prop)(x0 x1 x2 x11:D)(S:b4):Prop:=
 g8 x11
 (Q (.tup [(.int .u64 0),(.int .i64 0),(.int .i64 2)]) S)
 (b5 (m6 x0) fun v0=>
 b5 (d4 .sub v0 x1) fun v1=>
 b5 (d4 .gtr x2 v1) fun v2=>
 g8 v2
 (Q (.tup [(.int .u64 0),(.int .i64 0),(.int .i64 10)]) S)
 (b8 Try.prog E w0 (.loop a3K) (d8 50 [0,1,2,9,29,30] [x0,x1,x2,(.int .u64 0),x2,(.int .i64 0)]) S (a3y E w0 Q)))
def b1C(E:d6)(w0:i5)(Q:D→b4→Prop)(a0 a1 a2:D)(S:b4):Prop:=
 b5 (d4 .lss a2 (.int .i64 1)) fun v13=>
 g8 v13
 (V5 E w0 Q a0 a1 a2 v13 S)
 (b5 (d4 .gtr a2 (.int .i64 8)) fun v14=>
 g8 v14
 (V5 E w0 Q a0 a1 a2 v14 S)
 (b5 (d4 .lss a1 (.int .i64 0)) fun v15=>
 g8 v15
 (V5 E w0 Q a0 a1 a2 v15 S)
 (b5 (m6 a0) fun v16=>
 b5 (d4 .gtr a1 v16) fun v17=>
 V5 E w0 Q a0 a1 a2 v17 S)))
theorem b4L{E:d6}{w0:i5}{Q:D→b4→Prop}{a0 a1 a2:D}{S:b4}(h:b1C E w0 (b9 E Q) a0 a1 a2 S):r8 Try.prog E w0 a5P [a0,a1,a2] S Q:=
 o6 a5c a4X a4B (fn:=Try.f87) (c:=Try.f87.body.getD .skip) mixed Try.func87 (by kernel_rfl) (by kernel_rfl) h
def b4w:List (Nat×List Nat):=[]
def b3z:List (Nat×List Nat):=[]
def b4g:List (Nat×Arr):=[]
def a7J(E:d6)(w0:i5)(Q:D→b4→Prop)(a0 a1:D)(S:b4):Prop:=
 b5 (s6 a0) fun cs=>q7 S cs fun v0 S1=>
 b5 (s6 a1) fun cs=>q7 S1 cs fun v2 S3=>
 b5 (some (.fn (.func L3) [] [v0,v2])) fun v4=>
 Q v4 S3
theorem b0s{E:d6}{w0:i5}{Q:D→b4→Prop}{a0 a1:D}{S:b4}(h:a7J E w0 (b9 E Q) a0 a1 S):r8 Try.prog E w0 l8 [a0,a1] S Q:=
 o6 b4w b3z b4g (fn:=Try.f62) (c:=Try.f62.body.getD .skip) mixed Try.func62 (by kernel_rfl) (by kernel_rfl) h
def b8f:List (Nat×List Nat):=[]
def b8u:List (Nat×List Nat):=[]
def b8V:List (Nat×Arr):=[]
def b4q(E:d6)(w0:i5)(Q:D→b4→Prop)(a0:D)(S:b4):Prop:=
 b5 (s6 a0) fun cs=>q7 S cs fun v0 S1=>
 b5 (some (.fn (.func a0a) [] [v0])) fun v2=>
 Q v2 S1
theorem b5l{E:d6}{w0:i5}{Q:D→b4→Prop}{a0:D}{S:b4}(h:b4q E w0 (b9 E Q) a0 S):r8 Try.prog E w0 A0 [a0] S Q:=
 o6 b8f b8u b8V (fn:=Try.f63) (c:=Try.f63.body.getD .skip) mixed Try.func63 (by kernel_rfl) (by kernel_rfl) h
def b0B:List (Nat×List Nat):=[]
def b1e:List (Nat×List Nat):=[]
def b0x:List (Nat×Arr):=[]
def a5n(E:d6)(w0:i5)(Q:D→b4→Prop)(a0 c0 c1:D)(S:b4):Prop:=
 b5 (c9 S c0) fun v0=>
 b5 (d4 .leq v0 a0) fun v1=>
 b5 (d9 (b7 v1 true) (some a0)) fun v2=>
 b5 (d9 (b7 v1 true) (c9 S c1)) fun v3=>
 b5 (d9 (b7 v1 true) (d4 .leq v2 v3)) fun v4=>
 b5 (H5 v1 v4 (.bool false)) fun v5=>
 Q v5 S
theorem a8q{E:d6}{w0:i5}{Q:D→b4→Prop}{a0 c0 c1:D}{S:b4}(h:a5n E w0 (b9 E Q) a0 c0 c1 S):r8 Try.prog E w0 L3 [a0,c0,c1] S Q:=
 o6 b0B b1e b0x (fn:=Try.f88) (c:=Try.f88.body.getD .skip) mixed Try.func88 (by kernel_rfl) (by kernel_rfl) h
def b5p:List (Nat×List Nat):=[]
def b5c:List (Nat×List Nat):=[]
def b5n:List (Nat×Arr):=[]
def a9W(E:d6)(w0:i5)(Q:D→b4→Prop)(a0 c0:D)(S:b4):Prop:=
 b5 (c9 S c0) fun v0=>
 r8 Try.prog E w0 a5C [v0,a0] S fun v1 S2=>
 Q v1 S2
theorem b2x{E:d6}{w0:i5}{Q:D→b4→Prop}{a0 c0:D}{S:b4}(h:a9W E w0 (b9 E Q) a0 c0 S):r8 Try.prog E w0 a0a [a0,c0] S Q:=
 o6 b5p b5c b5n (fn:=Try.f89) (c:=Try.f89.body.getD .skip) mixed Try.func89 (by kernel_rfl) (by kernel_rfl) h
end
end Go.Proofs.Ytdkidgkiplcggaa.d
end
