/-
  ImageBackSaid: part Kaq of its proof.
-/
import Derived.Test.YtchnpgddpaonhaaKap
import Derived.Test.YtchnpgddpaonhaaRows
import Derived.KernelRfl
set_option linter.unusedVariables false
set_option linter.unusedSimpArgs false
set_option maxRecDepth 100000
section
namespace Go.Am
section
def b9s(T:List D)(dst:Option Tmp)(v:D):List D:=match dst with
 |some d=>T.set d v
 |none=>T
def b4U:List D→(List D→Prop)→Prop
 | [],k=>k []
 |a::l,k=>b4U l fun l'=>k (a::l')
def c9I:List D→Nat→(D→Prop)→Prop
 | [],_,k=>k b8
 |a::l,n,k=>match n with
  |0=>k a
  |n+1=>c9I l n k
def b6l(T:List D)(x:Operand)(k:D→Prop):Prop:=match x with
 | .tmp t=>c9I T t k
 |x=>k (B5 T x)
def d6(g:D)(want:Bool):Option Bool:=match g with
 | .bool b=>some (b==want)
 | .any=>none
 |_=>some false
def c0o(ops:Array Oper)(T:List D)(o:Oper):Option Bool:=
 match o.guard with
 |none=>some true
 |some (j,want)=>match (ops[j]?).bind (·.dst) with
  |none=>some false
  |some d=>match T[d]? with
   |some x=>d6 x want
   |none=>some false
def f0(g:Option Bool)(r:Option D):Option D:=match g with
 |some true=>r
 |some false=>some b8
 |none=>none
def a0N(r:Option Bool)(s:(D→b7→Prop)→Prop)(S:b7)(Q:D→b7→Prop):Prop:=match r with
 |some true=>s Q
 |some false=>Q b8 S
 |none=>False
def d1g(P:Program)(ops:Array Oper)(T:List D)(S:b7)(o:Oper):Option D:=f0 (c0o ops T o) (d4q P T S o)
def c9R(P:Program)(G:DW)(ops:Array Oper)(T:List D)(S:b7)(o:Oper)(K:D→b7→Prop):Prop:=a0N (c0o ops T o) (d4L P G T S o) S K
structure o0 where
 w:World
 X:D→b7→Prop
instance:Coe o0 World:=⟨o0.w⟩
def b2t(w:World):o0:=⟨w,fun _ _=>False⟩
def o0.at(E:m7)(w0:o0)(R:Fz):a6a:=⟨w0.w,fun v H'=>M2 H'∧∃R' S' d,R.le R'∧D6 E R' S' H'∧Rp E R' d v∧w0.X d S'⟩
def o5(P:Program)(E:m7)(w0:o0):DW:=fun f ds S Q=>∀R H avs,M2 H→D6 E R S H→A9 E R ds avs→FnW P E (w0.at E R) f avs H (Q6 E R Q)
def a1h(E:m7)(w0:o0)(d:D)(S:b7):Prop:=(∃t v,d= .ifc t v)∧w0.X d S
def c0i(o:Oper):Option Operand:=match o.guard with
 |none=>match o.op with
  | .panic x=>some x
  |_=>none
 |some _=>none
def b9K(P:Program)(G:DW)(X:D→b7→Prop)(ops:Array Oper):List Oper→List D→b7→(List D→b7→Prop)→Prop
 | [],T,S,Q=>b4U T fun T=>Q T S
 |o::l,T,S,Q=>b4U T fun T=>match b3g o with
  |some x=>b6l T x fun e=>b9K P G X ops l (b9s T o.dst e) S Q
  |none=>match y9 P o with
  |0|1=>a9 (d1g P ops T S o) fun v=>b9K P G X ops l (b9s T o.dst v) S Q
  |_=>match c0i o with
   |some x=>b6l T x fun e=>X e S
   |none=>c9R P G ops T S o fun v S'=>b9K P G X ops l (b9s T o.dst v) S' Q
def t6(x:D)(S S':b7):Prop:=match b6D x with
 |some k=>S' k=S k
 |none=>True
def b7Q(T:List D)(o:Oper)(S S':b7):Prop:=match o.op with
 | .load _ a=>t6 (B5 T a) S S'
 | .convert _ _ x=>t6 (B5 T x) S S'
 |_=>True
def c8S(o:Oper):Bool:=match o.op with
 | .load .. | .convert .. =>true
 |_=>false
def b8e(P:Program)(S':b7)(anc:Nat)(K:Prop):Nat→List (Oper×List D×b7)→Prop
 |_,[]=>K
 |j,d::ds=>if(y9 P d.1==1&&c8S d.1)&& !anc.testBit j then b7Q d.2.1 d.1 d.2.2 S'∧b8e P S' anc K (j+1) ds else b8e P S' anc K (j+1) ds
def b6U(P:Program)(G:DW)(X:D→b7→Prop)(ops:Array Oper):List u9→List (Oper×List D×b7)→List D→b7→(List D→b7→Prop)→Prop
 | [],_,T,S,Q=>b4U T fun T=>Q T S
 |s::l,ds,T,S,Q=>b4U T fun T=>match b3g s.o with
  |some x=>b6l T x fun e=>b6U P G X ops l (ds++[(s.o,T,S)]) (b9s T s.o.dst e) S Q
  |none=>match y9 P s.o with
  |0|1=>a9 (d1g P ops T S s.o) fun v=>b6U P G X ops l (ds++[(s.o,T,S)]) (b9s T s.o.dst v) S Q
  |_=>match c0i s.o with
   |some x=>b6l T x fun e=>X e S
   |none=>c9R P G ops T S s.o fun v S'=>b8e P S' s.anc (b6U P G X ops l (ds++[(s.o,T,S)]) (b9s T s.o.dst v) S' Q) 0 ds
section
variable{P:Program}{E:m7}{w0:o0}
theorem a8H:∀ {T:List D} {k:List D→Prop},b4U T k=k T
 | [],k=>rfl
 |a::l,k=>by simp only[b4U];rw[a8H]
theorem c6o:∀ {T:List D} {n:Nat} {k:D→Prop},c9I T n k=k (T.getD n b8)
 | [],n,k=>rfl
 |a::l,0,k=>rfl
 |a::l,n+1,k=>by simp only[c9I];rw[c6o];simp
theorem c2s{T:List D}{x:Operand}{k:D→Prop}:b6l T x k=k (B5 T x):=by
 cases x<;>first|rfl|exact c6o
theorem b8B(T:List D)(dst:Option Tmp)(v:D):(b9s T dst v).length=T.length:=by
 cases dst with
 |none=>rfl
 |some d=>exact List.length_set
theorem c9V{R:Fz}{T:List D}{avs:List AV}(h:A9 E R T avs)(dst:Option Tmp){d:D}{v:AV}(hd:Rp E R d v):A9 E R (b9s T dst d) (a3a avs dst v):=by
 cases dst with
 |none=>exact h
 |some t=>exact h.set t hd
theorem b5j{R:Fz}{v:AV}:Rp E R .any v:=by simp only[Rp]
theorem d2f{F:FW}(hF:d1y F){T:List AV}{H:AHeap}{o:Oper}{K K':AV→AHeap→Prop}(hk:∀v H',K v H'→K' v H')(h:opW P E F T H o K):opW P E F T H o K':=by
 have o1:∀ {α:Type} {r:Option α} {f g:α→Prop},(∀x,f x→g x)→a9 r f→a9 r g:=by
  intro α r f g hfg h
  cases r with
  |none=>exact h
  |some x=>exact hfg x h
 have o2:∀ {r:Option (AV×AHeap)},a5i r K→a5i r K':=by
  intro r h
  cases r with
  |none=>exact h
  |some x=>exact hk _ _ h
 have rf:∀ {r:Option a1t},b5o F r K→b5o F r K':=by
  intro r h
  unfold b5o at*
  split
  ·exact hk _ _ h
  ·exact hF _ _ _ _ _ h hk
  ·exact h
 obtain⟨dst,op,type,pos,after,guard⟩:=o
 cases op<;>simp only[opW]at h ⊢ <;>try (first|exact o1 (fun v hv=>hk _ _ hv) h|exact o2 h)
 case box e x=>exact hk _ _ h
 case store t a x=>
  unfold c4S at*
  split at h
  ·split at h
   ·rename_i hs
    rw[if_pos hs]
    exact o1 (fun v hv=>hk _ _ hv) h
   ·exact h.elim
  ·exact h.elim
 case makeMap t r=>
  cases r with
  |none=>exact hk _ _ h
  |some x=>exact h
 case call c=>
  cases hc:c.callee with
  |value f=>
   simp only[hc]at h ⊢
   cases f with
   |func g=>
    simp only at h ⊢
    split at h
    ·rename_i hb;rw[if_pos hb];exact hF _ _ _ _ _ h hk
    ·exact h.elim
   |tmp t=>exact rf h
   |const v=>exact rf h
   |global g=>exact rf h
  |invoke r m=>
   simp only[hc]at h ⊢
   exact rf h
  |builtin b=>
   simp only[hc]at h ⊢
   generalize c.args.toList.map (o4 T)=as1 at h ⊢
   generalize c.argTypes.toList=ts at h ⊢
   cases b<;>(try simp only at h ⊢)<;>try (exact o1 (fun v hv=>hk _ _ hv) h)
   case append=>
    rcases as1 with _|⟨s,_|⟨x,_|⟨y,as1⟩⟩⟩<;>rcases ts with _|⟨sT,_|⟨xT,_|⟨u,ts⟩⟩⟩<;>first|exact o2 h|exact o1 (fun v hv=>hk _ _ hv) h
   case copy=>
    rcases as1 with _|⟨s,_|⟨x,_|⟨y,as1⟩⟩⟩<;>rcases ts with _|⟨sT,ts⟩<;>first|exact o2 h|exact o1 (fun v hv=>hk _ _ hv) h
theorem b5i.weak{w:World}{X X':AV→AHeap→Prop}(hX:∀v H,X v H→X' v H){ρ:B6}{H:AHeap}{Q:AV→AHeap→Prop}{e:Ending}{w':World}(h:b5i E ⟨w,X⟩ ρ H Q e w'):b5i E ⟨w,X'⟩ ρ H Q e w':=by
 cases e with
 |returned u=>exact h
 |panicked c=>
  obtain⟨u,ρ',v,H',h1,h2,h3⟩:=h
  exact⟨u,ρ',v,H',h1,hX _ _ h2,h3⟩
 |outgrown=>exact h
theorem FnW.weak{w:World}{X X':AV→AHeap→Prop}(hX:∀v H,X v H→X' v H){f:FuncId}{args:List AV}{H:AHeap}{Q:AV→AHeap→Prop}(h:FnW P E ⟨w,X⟩ f args H Q):FnW P E ⟨w,X'⟩ f args H Q:=
 fun w ρ vargs R hf hr=>Calls.mono (h w ρ vargs R hf hr) fun e w' he=>he.weak hX
theorem H9.weak{w:World}{X X':AV→AHeap→Prop}(hX:∀v H,X v H→X' v H){c:Code}{T:List AV}{H:AHeap}{Q:r6→List AV→AHeap→Prop}(h:H9 P E ⟨w,X⟩ c T H Q):H9 P E ⟨w,X'⟩ c T H Q:=
 fun w ρ a R hR hf hT hk hp=>h w ρ a R hR hf hT hk fun u v ρ' H' a' w' hx=>hp u v ρ' H' a' w' (hX _ _ hx)
theorem o0.at_le{R R':Fz}(h:R.le R'):∀v H,(w0.at E R').X v H→(w0.at E R).X v H:=fun v H ⟨F,R1,S,d,a,b⟩=>⟨F,R1,S,d,Fz.le_trans h a,b⟩
theorem FnW.at_le{R R':Fz}(h:R.le R'){f:FuncId}{args:List AV}{H:AHeap}{Q:AV→AHeap→Prop}(hf:FnW P E (w0.at E R') f args H Q):FnW P E (w0.at E R) f args H Q:=FnW.weak (o0.at_le h) hf
theorem H9.at_le{R R':Fz}(h:R.le R'){c:Code}{T:List AV}{H:AHeap}{Q:r6→List AV→AHeap→Prop}(hf:H9 P E (w0.at E R') c T H Q):H9 P E (w0.at E R) c T H Q:=H9.weak (o0.at_le h) hf
theorem goF{R0 R:Fz}(h:R0.le R){S:b7}{H:AHeap}(F:M2 H)(hC:D6 E R S H):GoF E (FnW P E (w0.at E R0)) (o5 P E w0) R S H:=fun f ds avs K ha hf=>FnW.at_le h (hf R H avs F hC ha)
theorem c1p{w0:a6a}:d1y (FnW P E w0):=fun f args H Q Q' h hq=>h.mono hq
theorem b3r{R:Fz}{T:List D}{avs:List AV}(h:A9 E R T avs){ops:Array Oper}{o:Oper}{b:Bool}(hw:c0o ops T o=some b):a0S ops avs o=some b:=by
 unfold c0o at hw
 unfold a0S
 cases hg:o.guard with
 |none=>rw[hg]at hw;exact hw
 |some jw=>
  obtain⟨j,want⟩:=jw
  simp only[hg]at hw ⊢
  cases hd:(ops[j]?).bind (·.dst) with
  |none=>simp only[hd]at hw ⊢;exact hw
  |some d=>
   simp only[hd]at hw ⊢
   cases hx:T[d]? with
   |none=>
    have:avs[d]? =none:=List.getElem?_eq_none (by rw[h.length];exact List.getElem?_eq_none_iff.1 hx)
    simp only[hx]at hw
    simp only[this]
    exact hw
   |some x=>
    simp only[hx]at hw
    obtain⟨v,h1,h2⟩:=a5F h hx
    simp only[h1]
    cases x<;>simp only[d6]at hw<;>try (cases hw;done)
    all_goals
     simp only[Rp]at h2
     first
      |(subst h2;exact hw)
      |(rcases h2 with ⟨_,rfl⟩|⟨o,j,cap,ex,z,rfl,_⟩<;>exact hw)
      |(obtain⟨o,j,cap,ex,z,all,rfl,_⟩:=h2;exact hw)
      |(obtain⟨o,j,all,rfl,_⟩:=h2;exact hw)
      |(obtain⟨a',b',rfl,_⟩:=h2;exact hw)
      |(obtain⟨v',rfl,_⟩:=h2;exact hw)
theorem d0m{T:List D}{o:Oper}{S S':b7}(h:b7Q T o S S'){k:Nat}(hk:b7S T o=some k):S' k=S k:=by
 unfold b7S at hk
 unfold b7Q at h
 split at hk
 ·rename_i e;simp only[e,t6,hk]at h;exact h
 ·rename_i e;simp only[e,t6,hk]at h;exact h
 ·cases hk
theorem c8q{T:List D}{o:Oper}{S S':b7}(h:c8S o=false):b7Q T o S S':=by
 unfold c8S at h
 unfold b7Q
 split at h<;>first|(cases h;done)|trivial
theorem c9G{R:Fz}{S:b7}{H:AHeap}{T:List D}{avs:List AV}(hT:A9 E R T avs)(hC:D6 E R S H){ops:Array Oper}{o:Oper}{d:D}(h:d1g P ops T S o=some d):
  ∃v,Rp E R d v∧∀H,Agr R S (b7S T o) H→c8X P E ops avs H o=some v:=by
 unfold d1g f0 at h
 split at h
 ·rename_i hw
  obtain⟨v,h1,h2⟩:=d3K hT hC h
  exact⟨v,h1,fun H hA=>by unfold c8X;rw[b3r hT hw];exact h2 H hA⟩
 ·rename_i hw
  cases h
  exact⟨A2,a3w,fun H hA=>by unfold c8X;rw[b3r hT hw];rfl⟩
 ·cases h
theorem c7k{F:FW}{G:DW}{R:Fz}{S:b7}{H:AHeap}(hG:GoF E F G R S H)(hF:M2 H)(hC:D6 E R S H){T:List D}{avs:List AV}(hT:A9 E R T avs){ops:Array Oper}{o:Oper}{K:D→b7→Prop}(h:c9R P G ops T S o K):c2o P E F ops avs H o (Q6 E R K):=by
 unfold c9R a0N at h
 unfold c2o
 split at h
 ·rename_i hw
  rw[b3r hT hw]
  exact d3g hG hF hC hT h
 ·rename_i hw
  rw[b3r hT hw]
  exact⟨hF,R,S,b8,Fz.le_refl R,hC,a3w,h⟩
 ·exact h.elim
theorem c1q{F:FW}(hF:d1y F){ops:Array Oper}{T:List AV}{H:AHeap}{o:Oper}{K K':AV→AHeap→Prop}(h:c2o P E F ops T H o K)(hk:∀v H',K v H'→K' v H'):c2o P E F ops T H o K':=by
 unfold c2o a7S at*
 split<;>rename_i e<;>rw[e]at h
 ·exact d2f hF hk h
 ·exact hk _ _ h
 ·exact h
def a7G(E:m7)(R:Fz)(n:Nat)(Q:List D→b7→Prop)(avs':List AV)(H':AHeap):Prop:=M2 H'∧∃R' S' T',R.le R'∧D6 E R' S' H'∧A9 E R' T' avs'∧T'.length=n∧Q T' S'
theorem a7G.le{R R1:Fz}(h:R.le R1){n:Nat}{Q:List D→b7→Prop}{avs':List AV}{H':AHeap}(hp:a7G E R1 n Q avs' H'):a7G E R n Q avs' H':=by
 obtain⟨F,R',S',T',a,b⟩:=hp
 exact⟨F,R',S',T',Fz.le_trans h a,b⟩
theorem c9A{R0 R:Fz}(hle:R0.le R){S:b7}{H:AHeap}{T:List D}{avs:List AV}{ops:Array Oper}(F:M2 H)(hC:D6 E R S H)(hT:A9 E R T avs){o:Oper}{x:Operand}(hx:c0i o=some x)(h:a1h E w0 (B5 T x) S){Q:AV→AHeap→Prop}:a3u P E (w0.at E R0) ops avs H o Q:=by
 obtain⟨hp,h⟩:=h
 have hr:=A4 hT x
 obtain⟨dst,op,type,pos,after,guard⟩:=o
 unfold c0i at hx
 split at hx
 ·rename_i hg
  simp only at hg
  subst hg
  split at hx
  ·rename_i y hy
   simp only at hy
   subst hy
   cases hx
   unfold a3u a0S a7S c3p
   simp only[opA]
   unfold c8r
   refine⟨?_,F,R,S,B5 T x,hle,hC,hr,h⟩
   obtain⟨t,v,e⟩:=hp
   rw[e]at hr
   simp only[Rp]at hr
   obtain⟨v',e',_⟩:=hr
   exact⟨t,v',e'⟩
  ·cases hx
 ·cases hx
theorem c7J{R0:Fz}{ops:Array Oper}:∀ {l:List Oper} {T:List D} {avs:List AV} {S:b7} {H:AHeap} {R:Fz} {Q:List D→b7→Prop},R0.le R→M2 H→D6 E R S H→A9 E R T avs→b9K P (o5 P E w0) (a1h E w0) ops l T S Q→b7P P E (w0.at E R0) ops l avs H (a7G E R T.length Q)
 | [],T,avs,S,H,R,Q,h0,F,hC,hT,h=>by
  simp only[b9K,a8H]at h
  exact⟨F,R,S,T,Fz.le_refl R,hC,hT,rfl,h⟩
 |o::l,T,avs,S,H,R,Q,h0,F,hC,hT,h=>by
  simp only[b9K,a8H,c2s]at h
  have next:∀ {d:D} {v:AV} {R':Fz} {S':b7} {H':AHeap},R.le R'→M2 H'→D6 E R' S' H'→Rp E R' d v→b9K P (o5 P E w0) (a1h E w0) ops l (b9s T o.dst d) S' Q→b7P P E (w0.at E R0) ops l (a3a avs o.dst v) H' (a7G E R T.length Q):=by
   intro d v R' S' H' hle F' hC' hd h'
   have:=c7J (Fz.le_trans h0 hle) F' hC' (c9V (A9.le hle _ _ hT) o.dst hd) h'
   rw[b8B]at this
   exact b3v (fun _ _=>a7G.le hle) this
  have val:y9 P o≤1→(a9 (d1g P ops T S o) fun v=>b9K P (o5 P E w0) (a1h E w0) ops l (b9s T o.dst v) S Q)→b7P P E (w0.at E R0) ops (o::l) avs H (a7G E R T.length Q):=by
   intro hk h
   unfold a9 at h
   split at h
   ·rename_i d hd
    obtain⟨v,h1,h2⟩:=c9G hT hC hd
    rw[b7P,if_pos hk]
    exact⟨v,by rw[b6w hk];exact h2 H (hC.agr _),next (Fz.le_refl R) F hC h1 h⟩
   ·exact h.elim
  cases ha:b3g o with
  |some x=>
   simp only[ha]at h
   obtain⟨hk,hv⟩:=c0w (P:=P) (E:=E) ha
   rw[b7P,if_pos (by omega)]
   exact⟨_,by rw[b6w (by omega)];exact hv ops avs H,next (Fz.le_refl R) F hC (A4 hT _) h⟩
  |none=>
   simp only[ha]at h
   rcases hk:y9 P o with _|_|k
   ·simp only[hk]at h;exact val (by omega) h
   ·simp only[hk]at h;exact val (by omega) h
   ·simp only[hk]at h
    rw[b7P,if_neg (by omega)]
    split at h
    ·rename_i x hx;exact c9A h0 F hC hT hx h
    ·refine a4i (c9d (c1q c1p (c7k (goF h0 F hC) F hC hT h) fun v H' hq=>hq)) ?_
     rintro v H' ⟨F',R',S',d,hle,hC',hd,h'⟩
     exact next hle F' hC' hd h'
def d4R(P:Program)(E:m7)(ops:Array Oper)(R:Fz)(x:Oper×List D×b7)(y:u9):Prop:=
 x.1=y.o∧(y9 P y.o=1→∃Rd:Fz,Rd.le R∧∀H',Agr Rd x.2.2 (b7S x.2.1 x.1) H'→c8X P E ops y.T H' y.o=some y.v)
def DsC(P:Program)(E:m7)(ops:Array Oper)(R:Fz):List (Oper×List D×b7)→List u9→Prop
 | [],[]=>True
 |x::xs,y::ys=>d4R P E ops R x y∧DsC P E ops R xs ys
 |_,_=>False
theorem DsC.le{ops:Array Oper}{R R':Fz}(hle:R.le R'):∀ {xs:List (Oper×List D×b7)} {ys:List u9},DsC P E ops R xs ys→DsC P E ops R' xs ys
 | [],[],h=>h
 |x::xs,y::ys,h=>⟨⟨h.1.1,fun k=>let ⟨Rd,a,b⟩:=h.1.2 k;⟨Rd,Fz.le_trans a hle,b⟩⟩,DsC.le hle h.2⟩
 | [],_::_,h=>h.elim
 |_::_,[],h=>h.elim
theorem DsC.snoc{ops:Array Oper}{R:Fz}{x:Oper×List D×b7}{y:u9}(h1:d4R P E ops R x y):∀ {xs:List (Oper×List D×b7)} {ys:List u9},DsC P E ops R xs ys→DsC P E ops R (xs++[x]) (ys++[y])
 | [],[],h=>⟨h1,trivial⟩
 |x::xs,y::ys,h=>⟨h.1,DsC.snoc h1 h.2⟩
 | [],_::_,h=>h.elim
 |_::_,[],h=>h.elim
theorem c3y{ops:Array Oper}{R R':Fz}(hle:R.le R'){S':b7}{H':AHeap}(hC:D6 E R' S' H'){anc:Nat}{K:Prop}:∀ {xs:List (Oper×List D×b7)} {ys:List u9} {j:Nat},DsC P E ops R xs ys→b8e P S' anc K j xs→
  K∧∀(i:Nat) (d:u9),ys[i]? =some d→y9 P d.o=1→anc.testBit (j+i)=false→b4v P E ops d.T H' d.o=some d.v
 | [],[],j,_,h=>⟨h,fun i d e=>by simp at e⟩
 |x::xs,y::ys,j,⟨⟨e1,e2⟩,hd⟩,h=>by
  have step:∀(hK:b8e P S' anc K (j+1) xs),(y9 P y.o=1→anc.testBit j=false→b7Q x.2.1 x.1 x.2.2 S')→K∧∀(i:Nat) (d:u9),(y::ys)[i]? =some d→y9 P d.o=1→anc.testBit (j+i)=false→b4v P E ops d.T H' d.o=some d.v:=fun hK hf=>by
   obtain⟨k1,k2⟩:=c3y hle hC hd hK
   refine⟨k1,fun i d hi hk ha=> ?_⟩
   cases i with
   |zero=>
    simp at hi
    subst hi
    obtain⟨Rd,g1,g2⟩:=e2 hk
    have hft:=hf hk (by simpa using ha)
    rw[b6w (by omega)]
    exact g2 H' ⟨fun j cs e=>let ⟨pre,g⟩:=hC.frozen j cs (hle _ _ (g1 _ _ e));⟨_,pre,g⟩,fun j o' hj hjS=>by
     rw[←d0m hft hj]at hjS
     obtain⟨_,⟨pre,g⟩,_⟩:=hC.own j o' hjS
     exact⟨_,pre,g⟩⟩
   |succ i=>exact k2 i d (by simpa using hi) hk (by rw[Nat.add_assoc,Nat.add_comm 1 i];exact ha)
  simp only[b8e]at h
  split at h
  ·exact step h.2 fun _ _=>h.1
  ·rename_i hc
   refine step h fun hk ha=>c8q ?_
   rw[e1]at hc ⊢
   simp only[hk,ha,Bool.not_false,Bool.and_true,beq_self_eq_true,Bool.true_and,Bool.not_eq_true]at hc
   exact hc
 | [],_::_,_,h,_=>h.elim
 |_::_,[],_,h,_=>h.elim
theorem c9b{R0:Fz}{ops:Array Oper}:∀ {l:List u9} {xs:List (Oper×List D×b7)} {ys:List u9} {T:List D} {avs:List AV} {S:b7} {H:AHeap} {R:Fz} {Q:List D→b7→Prop},R0.le R→M2 H→D6 E R S H→A9 E R T avs→DsC P E ops R xs ys→b6U P (o5 P E w0) (a1h E w0) ops l xs T S Q→b0w P E (w0.at E R0) ops l ys avs H (a7G E R T.length Q)
 | [],xs,ys,T,avs,S,H,R,Q,h0,F,hC,hT,hD,h=>by
  simp only[b6U,a8H]at h
  exact⟨F,R,S,T,Fz.le_refl R,hC,hT,rfl,h⟩
 |s::l,xs,ys,T,avs,S,H,R,Q,h0,F,hC,hT,hD,h=>by
  simp only[b6U,a8H,c2s]at h
  have next:∀ {d:D} {v:AV} {R':Fz} {S':b7} {H':AHeap},R.le R'→M2 H'→D6 E R' S' H'→Rp E R' d v→d4R P E ops R' (s.o,T,S) ⟨s.o,s.anc,avs,v,0,0,s.wr,[]⟩→b6U P (o5 P E w0) (a1h E w0) ops l (xs++[(s.o,T,S)]) (b9s T s.o.dst d) S' Q→b0w P E (w0.at E R0) ops l (ys++[⟨s.o,s.anc,avs,v,0,0,s.wr,[]⟩]) (a3a avs s.o.dst v) H' (a7G E R T.length Q):=by
   intro d v R' S' H' hle F' hC' hd he h'
   have:=c9b (Fz.le_trans h0 hle) F' hC' (c9V (A9.le hle _ _ hT) s.o.dst hd) ((hD.le hle).snoc he) h'
   rw[b8B]at this
   exact b8k (fun _ _=>a7G.le hle) this
  have val:y9 P s.o≤1→(a9 (d1g P ops T S s.o) fun v=>b6U P (o5 P E w0) (a1h E w0) ops l (xs++[(s.o,T,S)]) (b9s T s.o.dst v) S Q)→b0w P E (w0.at E R0) ops (s::l) ys avs H (a7G E R T.length Q):=by
   intro hk h
   unfold a9 at h
   split at h
   ·rename_i d hd
    obtain⟨v,h1,h2⟩:=c9G hT hC hd
    rw[b0w,if_pos hk]
    exact⟨v,by rw[b6w hk];exact h2 H (hC.agr _),next (Fz.le_refl R) F hC h1 ⟨rfl,fun _=>⟨R,Fz.le_refl R,h2⟩⟩ h⟩
   ·exact h.elim
  cases ha:b3g s.o with
  |some x=>
   simp only[ha]at h
   obtain⟨hk,hv⟩:=c0w (P:=P) (E:=E) ha
   rw[b0w,if_pos (by omega)]
   exact⟨_,by rw[b6w (by omega)];exact hv ops avs H,next (Fz.le_refl R) F hC (A4 hT _) ⟨rfl,fun hk1=>by simp only at hk1;omega⟩ h⟩
  |none=>
   simp only[ha]at h
   rcases hk:y9 P s.o with _|_|k
   ·simp only[hk]at h;exact val (by omega) h
   ·simp only[hk]at h;exact val (by omega) h
   ·simp only[hk]at h
    rw[b0w,if_neg (by omega)]
    split at h
    ·rename_i x hx;exact c9A h0 F hC hT hx h
    ·refine a4i (c9d (c1q c1p (c7k (goF h0 F hC) F hC hT h) fun v H' hq=>hq)) ?_
     rintro v H' ⟨F',R',S',d,hle,hC',hd,h'⟩
     obtain⟨k1,k2⟩:=c3y hle hC' hD h'
     exact⟨fun i d hi hk1 ha=>k2 i d hi hk1 (by rw[Nat.zero_add];exact ha),next hle F' hC' hd ⟨rfl,fun hk1=>by simp only at hk1;omega⟩ k1⟩
end
end
section
section
variable(P:Program)(E:m7)(w0:o0)
def d1w(E:m7)(R:Fz)(n:Nat)(Q:r6→List D→b7→Prop)(ex:r6)(avs':List AV)(H':AHeap):Prop:=a7G E R n (Q ex) avs' H'
def j9(c:Code)(T:List D)(S:b7)(Q:r6→List D→b7→Prop):Prop:=
 ∀R H avs,M2 H→D6 E R S H→A9 E R T avs→H9 P E (w0.at E R) c avs H (d1w E R T.length Q)
end
def a9u:List D→List Nat→List D→List D
 |T,i::L,v::vs=>a9u (T.set i v) L vs
 |T,_,_=>T
def n9(n:Nat)(L:List Nat)(vs:List D):List D:=a9u (List.replicate n .any) L vs
def a3d(T:List D):List Nat→List D
 | []=>[]
 |i::L=>T.getD i b8::a3d T L
def j8(c:D)(a b:Prop):Prop:=match c with
 | .bool true=>a
 | .bool false=>b
 |_=>False
def s8(id:Nat)(Q:r6→List D→b7→Prop):r6→List D→b7→Prop
 | .exit id',T,S=>if id'=id then Q .normal T S else Q (.exit id') T S
 |e,T,S=>Q e T S
def c9P{α:Type}(k:Nat):List (Nat×α)→Option α
 | []=>none
 |(i,L)::l=>if i=k then some L else c9P k l
def hdD:Code→Option Nat
 | .region id _ _=>some (2*id)
 | .seq a b=>match hdD a with
  |some k=>some k
  |none=>hdD b
 | .cond _ a b=>match hdD a with
  |some k=>some (2*k+1)
  |none=>match hdD b with
   |some k=>some (2*k+1)
   |none=>none
 | .block _ c| .loop c=>hdD c
 |_=>none
def d5L(cuts:List (Nat×List Nat))(c:Code):Option (List Nat):=match hdD c with
 |some id=>c9P id cuts
 |none=>none
section
variable(P:Program)(E:m7)(w0:o0)(loops cuts:List (Nat×List Nat))(arrs:List (Nat×X5))
def vcD:Code→List D→b7→(r6→List D→b7→Prop)→Prop
 | .skip,T,S,Q=>Q .normal T S
 | .label _,T,S,Q=>Q .normal T S
 | .ret,T,S,Q=>Q .ret T S
 | .exit id,T,S,Q=>Q (.exit id) T S
 | .region id ops draw,T,S,Q=>match draw with
  |false=>b9K P (o5 P E w0) (a1h E w0) ops ops.toList T S (Q .normal)
  |true=>match c9P id arrs with
   |some t=>if a8J ops&&c0S ops then b2b P ops (fun ops' sd=>b6U P (o5 P E w0) (a1h E w0) ops' sd [] T S (Q .normal)) t []else False
   |none=>match b1U P ops ops.toList []with
    |some sd=>b6U P (o5 P E w0) (a1h E w0) ops sd [] T S (Q .normal)
    |none=>False
 | .seq a b,T,S,Q=>match d5L cuts b with
  |some L=>vcD a T S fun ex T' S'=>match ex with
   | .normal=>j9 P E w0 b (n9 T.length L (a3d T' L)) S' Q
   |e=>Q e T' S'
  |none=>vcD a T S fun ex T' S'=>match ex with
   | .normal=>vcD b T' S' Q
   |e=>Q e T' S'
 | .cond c a b,T,S,Q=>j8 (B5 T c) (vcD a T S Q) (vcD b T S Q)
 | .block id c,T,S,Q=>vcD c T S (s8 id Q)
 | .loop c,T,S,Q=>match d5L loops c with
  |some L=>j9 P E w0 (.loop c) (n9 T.length L (a3d T L)) S Q
  |none=>j9 P E w0 (.loop c) T S Q
 |_,_,_,_=>False
end
section
variable(P:Program)(E:m7)(w0:o0)(loops cuts:List (Nat×List Nat))(arrs:List (Nat×X5))
def G7(b:Code)(Q:r6→List D→b7→Prop)(ex:r6)(T:List D)(S:b7):Prop:=match ex with
 | .normal=>vcD P E w0 loops cuts arrs b T S Q
 |e=>Q e T S
def d5B(n:Nat)(L:List Nat)(b:Code)(Q:r6→List D→b7→Prop)(ex:r6)(T:List D)(S:b7):Prop:=match ex with
 | .normal=>j9 P E w0 b (n9 n L (a3d T L)) S Q
 |e=>Q e T S
end
def A8(N:List D→b7→Prop)(Q:r6→List D→b7→Prop)(ex:r6)(T:List D)(S:b7):Prop:=match ex with
 | .normal=>N T S
 |e=>Q e T S
def a4q(P:Program)(S:b7)(T:List D):List ResultVar→(List D→Prop)→Prop
 | [],K=>K []
 | .tmp t::l,K=>a4q P S T l fun vs=>K (T.getD t b8::vs)
 | .cell a t::l,K=>a9 (d0c P S t (T.getD a b8)) fun v=>a4q P S T l fun vs=>K (v::vs)
def c1y:List D→D
 | [v]=>v
 |vs=> .tup vs
def G8(P:Program)(fn:Func)(Q:D→b7→Prop):r6→List D→b7→Prop
 | .exit _,_,_=>False
 |_,T,S=>a4q P S T fn.results.toList fun vs=>Q (c1y vs) S
def d9(E:m7)(Q:D→b7→Prop)(d:D)(S:b7):Prop:=
 ∀R H v,D6 E R S H→Rp E R d v→∃R' S' d',R.le R'∧D6 E R' S' H∧Rp E R' d' v∧Q d' S'
section
variable{P:Program}{E:m7}{w0:o0}
theorem j9.mono{c:Code}{T:List D}{S:b7}{Q Q':r6→List D→b7→Prop}(h:j9 P E w0 c T S Q)(hq:∀ex T' S',T'.length=T.length→Q ex T' S'→Q' ex T' S'):j9 P E w0 c T S Q':=fun R H avs F hC hT=>
 (h R H avs F hC hT).mono fun ex T' H' ⟨F',R',S',T1,a,b,c,d,e⟩=>⟨F',R',S',T1,a,b,c,d,hq _ _ _ d e⟩
theorem o5.use{f:FuncId}{ds:List D}{S:b7}{Q Q':D→b7→Prop}(h:o5 P E w0 f ds S Q)(hq:∀d S',Q d S'→Q' d S'):o5 P E w0 f ds S Q':=fun R H avs hFi hC ha=>
 (h R H avs hFi hC ha).mono fun v H' ⟨F',R',S',d,a,b,c,e⟩=>⟨F',R',S',d,a,b,c,hq _ _ e⟩
theorem b4r:∀(T:List D) (L:List Nat) (vs:List D),(a9u T L vs).length=T.length
 |T,i::L,v::vs=>by rw[a9u,b4r,List.length_set]
 |T,[],_=>by simp[a9u]
 |T,_::_,[]=>by simp[a9u]
theorem o3(n:Nat)(L:List Nat)(vs:List D):(n9 n L vs).length=n:=by rw[n9,b4r,List.length_replicate]
theorem c9j{R:Fz}:∀ {avs:List AV},A9 E R (List.replicate avs.length .any) avs
 | []=>G5
 |v::avs=>B7 b5j c9j
theorem c5P{R:Fz}{T:List D}{avs:List AV}(h:A9 E R T avs)(L:List Nat):A9 E R (n9 T.length L (a3d T L)) avs:=by
 have main:∀(L:List Nat) (T0:List D),T0.length=T.length→A9 E R T0 avs→A9 E R (a9u T0 L (a3d T L)) avs:=by
  intro L
  induction L with
  |nil=>intro T0 hl h0;simpa [a9u,a3d]using h0
  |cons i L ih=>
   intro T0 hl h0
   simp only[a3d,a9u]
   refine ih _ (by rw[List.length_set,hl]) ?_
   by_cases hi:i<T.length
   ·have hlen:=h.length
    have:=h0.set i (b5A h i)
    rw[List.getD_eq_getElem?_getD (l:=avs),List.getElem?_eq_getElem (by omega),Option.getD_some,List.set_getElem_self]at this
    exact this
   ·rw[List.set_eq_of_length_le (by omega)]
    exact h0
 refine main L _ (by rw[List.length_replicate]) ?_
 rw[←h.length]
 exact c9j
theorem r9{c:Code}{T:List D}{S:b7}{Q:r6→List D→b7→Prop}{n:Nat}(L:List Nat)(hn:T.length=n)(h:j9 P E w0 c (n9 n L (a3d T L)) S Q):j9 P E w0 c T S Q:=fun R H avs F hC hT=>by
 have:=h R H avs F hC (by rw[←hn];exact c5P hT L)
 rw[o3, ←hn]at this
 exact this
theorem r0{c:Code}{Q:r6→List D→b7→Prop}{I:Nat→List D→b7→Prop}{k:Nat}
  (step:∀n T S,T.length=k→I n T S→j9 P E w0 c T S fun ex T' S'=>match ex with| .normal=>∃m,m<n∧I m T' S'|e=>Q e T' S')
  {n:Nat} {T:List D} {S:b7} (hk:T.length=k) (h:I n T S):j9 P E w0 (.loop c) T S Q:=fun R H avs F hC hT=>by
 refine c7V (I:=fun n avs H=>a7G E R k (I n) avs H) (fun n avs H hI=> ?_) (n:=n) ⟨F,R,S,T,Fz.le_refl R,hC,hT,hk,h⟩
 obtain⟨F1,R1,S1,T1,a,b,c1,d,e⟩:=hI
 refine(H9.at_le a (step n T1 S1 d e R1 H avs F1 b c1)).mono fun ex T' H' hq=> ?_
 cases ex with
 |normal=>
  obtain⟨F2,R2,S2,T2,a2,b2,c2,d2,m,hm,e2⟩:=hq
  exact⟨m,hm,F2,R2,S2,T2,Fz.le_trans a a2,b2,c2,by rw[d2,d],e2⟩
 |exit id=>
  obtain⟨F2,R2,S2,T2,a2,b2,c2,d2,e2⟩:=hq
  exact⟨F2,R2,S2,T2,Fz.le_trans a a2,b2,c2,by rw[d2,d,hk],e2⟩
 |ret=>
  obtain⟨F2,R2,S2,T2,a2,b2,c2,d2,e2⟩:=hq
  exact⟨F2,R2,S2,T2,Fz.le_trans a a2,b2,c2,by rw[d2,d,hk],e2⟩
theorem d0C{id:Nat}{ops:Array Oper}{T:List D}{S:b7}{Q:r6→List D→b7→Prop}(h:b9K P (o5 P E w0) (a1h E w0) ops ops.toList T S (Q .normal)):j9 P E w0 (.region id ops false) T S Q:=fun R H avs F hC hT=>c4n (c0n (c7J (Fz.le_refl R) F hC hT h))
theorem c8l(hm:P.follows .mixedOrders=true){id:Nat}{ops:Array Oper}{sd:List u9}(hB:b1U P ops ops.toList []=some sd){T:List D}{S:b7}{Q:r6→List D→b7→Prop}(h:b6U P (o5 P E w0) (a1h E w0) ops sd [] T S (Q .normal)):j9 P E w0 (.region id ops true) T S Q:=fun R H avs F hC hT=>c7O hm hB (c9b (xs:=[]) (ys:=[]) (Fz.le_refl R) F hC hT trivial h)
theorem c7a(hm:P.follows .mixedOrders=true){id:Nat}{ops:Array Oper}{t:X5}{T:List D}{S:b7}{Q:r6→List D→b7→Prop}(h:if a8J ops&&c0S ops then b2b P ops (fun ops' sd=>b6U P (o5 P E w0) (a1h E w0) ops' sd [] T S (Q .normal)) t []else False):j9 P E w0 (.region id ops true) T S Q:=fun R H avs F hC hT=>by
 split at h
 ·rename_i hok
  simp only[Bool.and_eq_true]at hok
  exact c6L hm hok.1 hok.2 (h.mono fun ops' sd ho=>c9b (xs:=[]) (ys:=[]) (Fz.le_refl R) F hC hT trivial ho)
 ·exact h.elim
variable{loops cuts:List (Nat×List Nat)}{arrs:List (Nat×X5)}
theorem b2J(hm:P.follows .mixedOrders=true):∀(c:Code) (T:List D) (S:b7) (Q:r6→List D→b7→Prop),vcD P E w0 loops cuts arrs c T S Q→j9 P E w0 c T S Q
 | .skip,T,S,Q,h=>fun R H avs F hC hT=>c7T ⟨F,R,S,T,Fz.le_refl R,hC,hT,rfl,h⟩
 | .label _,T,S,Q,h=>fun R H avs F hC hT=>c6E ⟨F,R,S,T,Fz.le_refl R,hC,hT,rfl,h⟩
 | .ret,T,S,Q,h=>fun R H avs F hC hT=>d0X ⟨F,R,S,T,Fz.le_refl R,hC,hT,rfl,h⟩
 | .exit id,T,S,Q,h=>fun R H avs F hC hT=>c7M ⟨F,R,S,T,Fz.le_refl R,hC,hT,rfl,h⟩
 | .region _ ops false,T,S,Q,h=>d0C h
 | .region id ops true,T,S,Q,h=>by
  change (match c9P id arrs with
   |some t=>if a8J ops&&c0S ops then b2b P ops (fun ops' sd=>b6U P (o5 P E w0) (a1h E w0) ops' sd [] T S (Q .normal)) t []else False
   |none=>match b1U P ops ops.toList []with
    |some sd=>b6U P (o5 P E w0) (a1h E w0) ops sd [] T S (Q .normal)
    |none=>False)at h
  split at h
  ·exact c7a hm h
  ·split at h
   ·rename_i sd hB;exact c8l hm hB h
   ·exact h.elim
 | .seq a b,T,S,Q,h=>fun R H avs F hC hT=>by
  simp only[vcD]at h
  have fin:j9 P E w0 a T S (fun ex T' S'=>match ex with| .normal=>j9 P E w0 b T' S' Q|e=>Q e T' S')→H9 P E (w0.at E R) (.seq a b) avs H (d1w E R T.length Q):=by
   intro h
   refine d0Z ((h R H avs F hC hT).mono fun ex T' H' hq=> ?_)
   cases ex with
   |normal=>
    obtain⟨F2,R2,S2,T2,a2,b2,c2,d2,e2⟩:=hq
    have:=e2 R2 H' T' F2 b2 c2
    rw[d2]at this
    exact(H9.at_le a2 this).mono fun ex T' H' hq=>a7G.le a2 hq
   |exit id=>exact hq
   |ret=>exact hq
  split at h
  ·rename_i L hL
   refine fin ((b2J hm a T S _ h).mono fun ex T' S' hl hq=> ?_)
   cases ex with
   |normal=>exact r9 L hl hq
   |exit id=>exact hq
   |ret=>exact hq
  ·refine fin ((b2J hm a T S _ h).mono fun ex T' S' hl hq=> ?_)
   cases ex with
   |normal=>exact b2J hm b T' S' Q hq
   |exit id=>exact hq
   |ret=>exact hq
 | .cond c a b,T,S,Q,h=>fun R H avs F hC hT=>by
  simp only[vcD]at h
  have hr:=A4 hT c
  unfold j8 at h
  split at h
  ·rename_i e
   rw[e]at hr
   simp only[Rp]at hr
   exact c1i (by rw[hr];exact b2J hm a T S Q h R H avs F hC hT)
  ·rename_i e
   rw[e]at hr
   simp only[Rp]at hr
   exact c1i (by rw[hr];exact b2J hm b T S Q h R H avs F hC hT)
  ·exact h.elim
 | .block id c,T,S,Q,h=>fun R H avs F hC hT=>by
  refine c6G ((b2J hm c T S _ h R H avs F hC hT).mono fun ex T' H' hq=> ?_)
  cases ex with
  |normal=>exact hq
  |ret=>exact hq
  |exit id'=>
   obtain⟨F2,R2,S2,T2,a2,b2,c2,d2,e2⟩:=hq
   simp only[s8]at e2
   simp only[c7L]
   split at e2
   ·rename_i e;rw[if_pos e];exact⟨F2,R2,S2,T2,a2,b2,c2,d2,e2⟩
   ·rename_i e;rw[if_neg e];exact⟨F2,R2,S2,T2,a2,b2,c2,d2,e2⟩
 | .loop c,T,S,Q,h=>by
  simp only[vcD]at h
  split at h
  ·rename_i L hL;exact r9 L rfl h
  ·exact h
 | .rangeFunc ..,T,S,Q,h=>h.elim
 | .scope ..,T,S,Q,h=>h.elim
 | .goto ..,T,S,Q,h=>h.elim
 | .refuse ..,T,S,Q,h=>h.elim
theorem b0g{R:Fz}{S:b7}{H:AHeap}{T:List D}{avs:List AV}(hC:D6 E R S H)(hT:A9 E R T avs):∀ {l:List ResultVar} {K:List D→Prop} {K':List AV→Prop},(∀ds vs,A9 E R ds vs→K ds→K' vs)→a4q P S T l K→Q8 P E H avs l K'
 | [],K,K',hk,h=>hk [] [] G5 h
 | .tmp t::l,K,K',hk,h=>by
  have:=b0g (l:=l) (K':=fun vs=>K' (avs.getD t A2::vs)) hC hT (fun ds vs hr hK=>hk (T.getD t b8::ds) (avs.getD t A2::vs) (B7 (b5A hT t) hr) hK) h
  exact this
 | .cell a t::l,K,K',hk,h=>by
  simp only[a4q]at h
  unfold a9 at h
  split at h
  ·rename_i d hd
   have ha:=b5A hT a
   obtain⟨v,h1,h2⟩:=c9U hC ha hd
   have h2:=h2 H (hC.agr _)
   have:=b0g (l:=l) (K':=fun vs=>K' (v::vs)) hC hT (fun ds vs hr hK=>hk (d::ds) (v::vs) (B7 h1 hr) hK) h
   simp only[Q8]
   unfold c9o at h2
   split at h2
   ·rename_i o i e
    simp only[e,h2,d0O]
    exact this
   ·cases h2
  ·exact h.elim
theorem c9S{R:Fz}{ds:List D}{vs:List AV}(h:A9 E R ds vs):Rp E R (c1y ds) (b4d vs):=by
 rcases ds with _|⟨d,_|⟨d',ds⟩⟩
 ·simp only[A9]at h;subst h;exact a3w
 ·simp only[A9]at h
  obtain⟨v,_,rfl,h1,rfl⟩:=h
  exact h1
 ·have h':=h
  simp only[A9]at h
  obtain⟨v,_,rfl,h1,v2,vs',rfl,h2,h3⟩:=h
  show Rp E R (.tup (d::d'::ds)) (.tup (v::v2::vs'))
  simp only[Rp]
  exact⟨_,rfl,h'⟩
theorem c7e{f:FuncId}{fn:Func}{c:Code}(hfn:P.funcs[f]? =some fn)(hb:fn.body=some c){ds:List D}{S:b7}{Q:D→b7→Prop}
  (h:j9 P E w0 c (ds++List.replicate (fn.ntmps - ds.length) b8) S (G8 P fn (d9 E Q))):o5 P E w0 f ds S Q:=fun R H avs F hC ha=>by
 have hrow:A9 E R (ds++List.replicate (fn.ntmps - ds.length) b8) (avs++List.replicate (fn.ntmps - avs.length) A2):=by
  refine ha.append ?_
  rw[ha.length]
  generalize fn.ntmps - ds.length=m
  induction m with
  |zero=>exact G5
  |succ m ih=>exact B7 a3w ih
 have h':H9 P E (w0.at E R) c (avs++List.replicate (fn.ntmps - avs.length) A2) H (d5P P E fn (Q6 E R Q)):=by
  refine(h R H _ F hC hrow).mono fun ex T' H' hq=> ?_
  obtain⟨F2,R2,S2,T2,a2,b2,c2,d2,e2⟩:=hq
  have go:∀ {l:List ResultVar},a4q P S2 T2 l (fun vs=>d9 E Q (c1y vs) S2)→Q8 P E H' T' l fun vs=>Q6 E R Q (b4d vs) H':=fun h=>b0g b2 c2 (fun ds vs hr hK=>by
   obtain⟨R',S',d',k1,k2,k3,k4⟩:=hK R2 H' _ b2 (c9S hr)
   exact⟨F2,R',S',d',Fz.le_trans a2 k1,k2,k3,k4⟩) h
  cases ex with
  |normal=>exact go e2
  |ret=>exact go e2
  |exit id=>exact e2
 exact c6h hfn hb h'
theorem m9(loops cuts:List (Nat×List Nat))(arrs:List (Nat×X5))(hm:P.follows .mixedOrders=true){f:FuncId}{fn:Func}{c:Code}(hfn:P.funcs[f]? =some fn)(hb:fn.body=some c){ds:List D}{S:b7}{Q:D→b7→Prop}{V:Prop}
  (e:vcD P E w0 loops cuts arrs c (ds++List.replicate (fn.ntmps - ds.length) b8) S (G8 P fn (d9 E Q))=V) (h:V):o5 P E w0 f ds S Q:=
 c7e hfn hb (b2J hm _ _ _ _ (e▸h))
theorem l8(loops cuts:List (Nat×List Nat))(arrs:List (Nat×X5))(hm:P.follows .mixedOrders=true){c:Code}{T:List D}{S:b7}{Q:r6→List D→b7→Prop}{V:Prop}(e:vcD P E w0 loops cuts arrs c T S Q=V)(h:V):j9 P E w0 c T S Q:=
 b2J hm _ _ _ _ (e▸h)
theorem d9.here{Q:D→b7→Prop}{d:D}{S:b7}(h:Q d S):d9 E Q d S:=fun R H v hC hd=>⟨R,S,d,Fz.le_refl R,hC,hd,h⟩
theorem d9.less{Q:D→b7→Prop}{d:D}{S S':b7}(hs:S'.le S)(h:d9 E Q d S'):d9 E Q d S:=fun R H v hC hd=>h R H v (hC.less hs) hd
theorem d9.mono{Q Q':D→b7→Prop}{d:D}{S:b7}(h:d9 E Q d S)(hq:∀d S,Q d S→Q' d S):d9 E Q' d S:=fun R H v hC hd=>by
 obtain⟨R',S',d',a,b,c,e⟩:=h R H v hC hd
 exact⟨R',S',d',a,b,c,hq _ _ e⟩
theorem d9.freeze{Q:D→b7→Prop}{S:b7}{k:Nat}{o:M4}(hk:S k=some o){i len cap:Nat}{ex:Bool}{sz:Nat}(hsz:o.sz=sz)(hl:i+len≤o.rows.length)(hc:len≤cap)
  (h:d9 E Q (.lst ((o.rows.drop i).take len) sz) (S.erase k)):d9 E Q (.raw k i len cap ex sz) S:=fun R H v hC hd=>by
 obtain⟨h1,h2⟩:=hC.freeze hk
 obtain⟨R',S',d',a,b,c,e⟩:=h _ H v h1 (a8S hC hk hd hsz hl hc)
 exact⟨R',S',d',Fz.le_trans h2 a,b,c,e⟩
theorem d9.freezeT{Q:D→b7→Prop}{S:b7}{k:Nat}{o:M4}(hk:S k=some o){i len cap:Nat}{ex:Bool}{sz:Nat}(hsz:o.sz=sz)(hl:i+len≤o.rows.length)(hc:len≤cap){lp lq:List D}
  (h:d9 E Q (.tup (lp++ .lst ((o.rows.drop i).take len) sz::lq)) (S.erase k)):d9 E Q (.tup (lp++ .raw k i len cap ex sz::lq)) S:=fun R H v hC hd=>by
 obtain⟨h1,h2⟩:=hC.freeze hk
 simp only[Rp]at hd
 obtain⟨vs,rfl,hv⟩:=hd
 obtain⟨v1,v2,rfl,g1,g2⟩:=a5M hv
 simp only[A9]at g2
 obtain⟨w,ws,rfl,g3,g4⟩:=g2
 obtain⟨R',S',d',a,b,c,e⟩:=h _ H (.tup (v1++w::ws)) h1 (by
  simp only[Rp]
  exact⟨_,rfl,(A9.le h2 _ _ g1).append (B7 (a8S hC hk g3 hsz hl hc) (A9.le h2 _ _ g4))⟩)
 exact⟨R',S',d',Fz.le_trans h2 a,b,c,e⟩
theorem d9.nil{Q:D→b7→Prop}{S:b7}{sz:Nat}(h:d9 E Q (.lst [] sz) S):d9 E Q .nilSlc S:=fun R H v hC hd=>h R H v hC (by simp only[Rp]at hd ⊢;exact .inl ⟨trivial,hd⟩)
theorem d9.nilT{Q:D→b7→Prop}{S:b7}{sz:Nat}{lp lq:List D}(h:d9 E Q (.tup (lp++ .lst [] sz::lq)) S):d9 E Q (.tup (lp++ .nilSlc::lq)) S:=fun R H v hC hd=>h R H v hC (by
 simp only[Rp]at hd ⊢
 obtain⟨vs,rfl,hv⟩:=hd
 obtain⟨v1,v2,rfl,g1,g2⟩:=a5M hv
 simp only[A9]at g2
 obtain⟨w,ws,rfl,g3,g4⟩:=g2
 exact⟨_,rfl,g1.append (B7 (by simp only[Rp]at g3 ⊢;exact .inl ⟨trivial,g3⟩) g4)⟩)
def X6(P:Program)(E:m7)(w0:o0)(f:FuncId)(ds:List D)(d:D):Prop:=∀S,o5 P E w0 f ds S fun d' S'=>d'=d∧S'=S
theorem X6.use{f:FuncId}{ds:List D}{d:D}(h:X6 P E w0 f ds d){S:b7}{K:D→b7→Prop}(hk:K d S):o5 P E w0 f ds S K:=(h S).use fun d' S' ⟨a,b⟩=>by subst a b;exact hk
end
end
end Go.Am
end
section
open Go.Proofs Go Go.Am
namespace Go.Proofs.Ytchnpgddpaonhaa.d
theorem o7:Try.prog.follows .mixedOrders=true:=by kernel_rfl
abbrev b2I:TypeId:=48
abbrev a7V:TypeId:=76
abbrev a7o:FuncId:=7
abbrev b4W:FuncId:=9
abbrev a0G:FuncId:=10
abbrev Y1:FuncId:=11
abbrev a4e:FuncId:=12
abbrev b6y:FuncId:=15
abbrev a4m:FuncId:=17
abbrev R8:FuncId:=22
abbrev b0h:FuncId:=23
abbrev L3:FuncId:=24
abbrev a1z:FuncId:=25
abbrev a9A:FuncId:=26
abbrev a6o:FuncId:=27
abbrev a2Y:FuncId:=28
abbrev a4Z:FuncId:=39
abbrev a0R:FuncId:=41
abbrev a8V:FuncId:=42
abbrev C2:FuncId:=43
abbrev a1R:FuncId:=44
abbrev a1Y:FuncId:=45
abbrev M5:FuncId:=46
abbrev a1L:FuncId:=47
abbrev a1Z:FuncId:=48
abbrev s6:FuncId:=49
abbrev J8:FuncId:=50
abbrev F7:FuncId:=51
abbrev N7:FuncId:=52
abbrev a2p:FuncId:=53
abbrev a3V:FuncId:=54
abbrev a2V:FuncId:=55
abbrev a4N:FuncId:=56
abbrev B8:FuncId:=57
abbrev a2o:FuncId:=58
abbrev I7:FuncId:=59
abbrev N6:FuncId:=60
abbrev z7:FuncId:=61
abbrev a4u:FuncId:=62
abbrev J3:FuncId:=63
abbrev a5s:FuncId:=64
abbrev a8p:FuncId:=65
abbrev a1D:FuncId:=66
abbrev a9b:FuncId:=67
abbrev M7:FuncId:=68
abbrev X1:FuncId:=69
abbrev a0V:FuncId:=70
abbrev Q3:FuncId:=71
abbrev a3b:FuncId:=72
abbrev J1:FuncId:=73
abbrev b7O:FuncId:=74
abbrev I9:FuncId:=75
abbrev a2T:FuncId:=76
abbrev a7z:FuncId:=77
abbrev b5m:FuncId:=78
abbrev b4s:FuncId:=79
abbrev u5:FuncId:=80
abbrev E2:FuncId:=81
abbrev a0k:FuncId:=82
abbrev a5H:FuncId:=83
abbrev M3:FuncId:=84
abbrev b5r:FuncId:=85
abbrev s5:FuncId:=86
abbrev k9:FuncId:=87
abbrev r7:FuncId:=88
abbrev O9:FuncId:=89
abbrev b4P:FuncId:=90
abbrev b1W:FuncId:=91
abbrev a0C:FuncId:=92
abbrev a3n:FuncId:=93
abbrev b1J:FuncId:=94
abbrev C3:FuncId:=95
abbrev a0c:FuncId:=96
abbrev b1E:FuncId:=97
abbrev b2v:FuncId:=98
abbrev Z6:FuncId:=99
abbrev a1r:FuncId:=100
end Go.Proofs.Ytchnpgddpaonhaa.d
end
