/-
  BlocksKnownSaid: part Kar of its proof.
-/
import Derived.Test.YtdkidgkiplcggaaKaq
import Derived.Test.YtdkidgkiplcggaaRows
import Derived.KernelRfl
set_option linter.unusedVariables false
set_option linter.unusedSimpArgs false
set_option maxRecDepth 100000
section
namespace Go.Am
section
def b0g(T:List D)(dst:Option Tmp)(v:D):List D:=match dst with
 |some d=>T.set d v
 |none=>T
def a6B:List D→(List D→Prop)→Prop
 | [],k=>k []
 |a::l,k=>a6B l fun l'=>k (a::l')
def b8T:List D→Nat→(D→Prop)→Prop
 | [],_,k=>k b6
 |a::l,n,k=>match n with
  |0=>k a
  |n+1=>b8T l n k
def a7M(T:List D)(x:Operand)(k:D→Prop):Prop:=match x with
 | .tmp t=>b8T T t k
 |x=>k (j7 T x)
def b7(g:D)(want:Bool):Option Bool:=match g with
 | .bool b=>some (b==want)
 | .any=>none
 |_=>some false
def b0D(ops:Array Oper)(T:List D)(o:Oper):Option Bool:=
 match o.guard with
 |none=>some true
 |some (j,want)=>match (ops[j]?).bind (·.dst) with
  |none=>some false
  |some d=>match T[d]? with
   |some x=>b7 x want
   |none=>some false
def d4(g:Option Bool)(r:Option D):Option D:=match g with
 |some true=>r
 |some false=>some b6
 |none=>none
def A1(r:Option Bool)(s:(D→a8→Prop)→Prop)(S:a8):(D→a8→Prop)→Prop:=match r with
 |some true=>s
 |some false=>fun Q=>Q b6 S
 |none=>fun _=>False
theorem c0d{r:Option Bool}{s:(D→a8→Prop)→Prop}{S:a8}{Q:D→a8→Prop}:A1 r s S Q=match r with
 |some true=>s Q
 |some false=>Q b6 S
 |none=>False:=by
 cases r with
 |none=>rfl
 |some b=>cases b<;>rfl
def c0y(P:Program)(ops:Array Oper)(T:List D)(S:a8)(o:Oper):Option D:=d4 (b0D ops T o) (c3r P T S o)
def b8P(P:Program)(G:DW)(ops:Array Oper)(T:List D)(S:a8)(o:Oper)(K:D→a8→Prop):Prop:=A1 (b0D ops T o) (c4m P G T S o) S K
structure g9 where
 w:World
 X:D→a8→Prop
instance:Coe g9 World:=⟨g9.w⟩
def c4K(w:World):g9:=⟨w,fun _ _=>False⟩
def g9.at(E:c9)(w0:g9)(R:Fz):a2x:=⟨w0.w,fun v H'=>t7 H'∧∃R' S' d,R.le R'∧m9 E R' S' H'∧Rp E R' d v∧w0.X d S'⟩
def r8(P:Program)(E:c9)(w0:g9):DW:=fun f ds S Q=>∀R H avs,t7 H→m9 E R S H→o5 E R ds avs→FnW P E (w0.at E R) f avs H (H6 E R Q)
def a5l(E:c9)(w0:g9)(d:D)(S:a8):Prop:=(∃t v,d= .ifc t v)∧w0.X d S
def b0H(o:Oper):Option Operand:=match o.guard with
 |none=>match o.op with
  | .panic x=>some x
  |_=>none
 |some _=>none
def b0o(P:Program)(G:DW)(X:D→a8→Prop)(ops:Array Oper):List Oper→List D→a8→(List D→a8→Prop)→Prop
 | [],T,S,Q=>a6B T fun T=>Q T S
 |o::l,T,S,Q=>a6B T fun T=>match a5y o with
  |some x=>a7M T x fun e=>b0o P G X ops l (b0g T o.dst e) S Q
  |none=>match j9 P o with
  |0|1=>b4 (c0y P ops T S o) fun v=>b0o P G X ops l (b0g T o.dst v) S Q
  |_=>match b0H o with
   |some x=>a7M T x fun e=>X e S
   |none=>b8P P G ops T S o fun v S'=>b0o P G X ops l (b0g T o.dst v) S' Q
def A9(x:D)(S S':a8):Prop:=match a7m x with
 |some k=>S' k=S k
 |none=>True
def b5t(x:D)(S S':a8):Prop:=match a8n x with
 |some k=>S' k=S k
 |none=>True
def a9c(P:Program)(T:List D)(o:Oper)(S S':a8):Prop:=match o.op with
 | .load _ a=>A9 (j7 T a) S S'
 | .convert _ _ x=>A9 (j7 T x) S S'
 | .lookup _ x _ _=>b5t (j7 T x) S S'
 | .call c=>if c2H P c then b5t (b1u T c) S S' else True
 |_=>True
def a9j(P:Program)(o:Oper):Bool:=match o.op with
 | .load .. | .convert .. | .lookup .. =>true
 | .call c=>c2H P c
 |_=>false
def a9e(P:Program)(S':a8)(anc:Nat)(K:Prop):Nat→List (Oper×List D×a8)→Prop
 |_,[]=>K
 |j,d::ds=>if(j9 P d.1==1&&a9j P d.1)&& !anc.testBit j then a9c P d.2.1 d.1 d.2.2 S'∧a9e P S' anc K (j+1) ds else a9e P S' anc K (j+1) ds
def a8p(P:Program)(G:DW)(X:D→a8→Prop)(ops:Array Oper):List j2→List (Oper×List D×a8)→List D→a8→(List D→a8→Prop)→Prop
 | [],_,T,S,Q=>a6B T fun T=>Q T S
 |s::l,ds,T,S,Q=>a6B T fun T=>match a5y s.o with
  |some x=>a7M T x fun e=>a8p P G X ops l (ds++[(s.o,T,S)]) (b0g T s.o.dst e) S Q
  |none=>match j9 P s.o with
  |0|1=>b4 (c0y P ops T S s.o) fun v=>a8p P G X ops l (ds++[(s.o,T,S)]) (b0g T s.o.dst v) S Q
  |_=>match b0H s.o with
   |some x=>a7M T x fun e=>X e S
   |none=>b8P P G ops T S s.o fun v S'=>a9e P S' s.anc (a8p P G X ops l (ds++[(s.o,T,S)]) (b0g T s.o.dst v) S' Q) 0 ds
section
variable{P:Program}{E:c9}{w0:g9}
theorem a3j:∀ {T:List D} {k:List D→Prop},a6B T k=k T
 | [],k=>rfl
 |a::l,k=>by simp only[a6B];rw[a3j]
theorem b6N:∀ {T:List D} {n:Nat} {k:D→Prop},b8T T n k=k (T.getD n b6)
 | [],n,k=>rfl
 |a::l,0,k=>rfl
 |a::l,n+1,k=>by simp only[b8T];rw[b6N];simp
theorem b0P{T:List D}{x:Operand}{k:D→Prop}:a7M T x k=k (j7 T x):=by
 cases x<;>first|rfl|exact b6N
theorem a9A(T:List D)(dst:Option Tmp)(v:D):(b0g T dst v).length=T.length:=by
 cases dst with
 |none=>rfl
 |some d=>exact List.length_set
theorem b8Z{R:Fz}{T:List D}{avs:List AV}(h:o5 E R T avs)(dst:Option Tmp){d:D}{v:AV}(hd:Rp E R d v):o5 E R (b0g T dst d) (W0 avs dst v):=by
 cases dst with
 |none=>exact h
 |some t=>exact h.set t hd
theorem a4m{R:Fz}{v:AV}:Rp E R .any v:=by simp only[Rp]
theorem c0J{F:FW}(hF:c1C F){T:List AV}{H:AHeap}{o:Oper}{K K':AV→AHeap→Prop}(hk:∀v H',K v H'→K' v H')(h:opW P E F T H o K):opW P E F T H o K':=by
 have o1:∀ {α:Type} {r:Option α} {f g:α→Prop},(∀x,f x→g x)→b4 r f→b4 r g:=by
  intro α r f g hfg h
  cases r with
  |none=>exact h
  |some x=>exact hfg x h
 have o2:∀ {r:Option (AV×AHeap)},a0q r K→a0q r K':=by
  intro r h
  cases r with
  |none=>exact h
  |some x=>exact hk _ _ h
 have rf:∀ {r:Option O0},a7g F r K→a7g F r K':=by
  intro r h
  unfold a7g at*
  split
  ·exact hk _ _ h
  ·exact hF _ _ _ _ _ h hk
  ·exact h
 obtain⟨dst,op,type,pos,after,guard⟩:=o
 cases op<;>simp only[opW]at h ⊢ <;>try (first|exact o1 (fun v hv=>hk _ _ hv) h|exact o2 h)
 case box e x=>exact hk _ _ h
 case range t x=>exact a9B hk h
 case next it s=>exact b2D hk h
 case entry it=>exact a9C hk h
 case store t a x=>
  unfold b5a at*
  split at h
  ·split at h
   ·rename_i hs
    rw[if_pos hs]
    exact o1 (fun v hv=>hk _ _ hv) h
   ·exact h.elim
  ·exact h.elim
 case makeMap t r=>
  cases r with
  |none=>exact hk _ _ h
  |some x=>exact h
 case call c=>
  cases hc:c.callee with
  |value f=>
   simp only[hc]at h ⊢
   cases f with
   |func g=>
    simp only at h ⊢
    split at h
    ·rename_i hb;rw[if_pos hb];exact hF _ _ _ _ _ h hk
    ·exact h.elim
   |tmp t=>exact rf h
   |const v=>exact rf h
   |global g=>exact rf h
  |invoke r m=>
   simp only[hc]at h ⊢
   exact rf h
  |builtin b=>
   simp only[hc]at h ⊢
   generalize c.args.toList.map (b8 T)=as1 at h ⊢
   generalize c.argTypes.toList=ts at h ⊢
   cases b<;>(try simp only at h ⊢)<;>try (exact o1 (fun v hv=>hk _ _ hv) h)
   case append=>
    rcases as1 with _|⟨s,_|⟨x,_|⟨y,as1⟩⟩⟩<;>rcases ts with _|⟨sT,_|⟨xT,_|⟨u,ts⟩⟩⟩<;>first|exact o2 h|exact o1 (fun v hv=>hk _ _ hv) h
   case copy=>
    rcases as1 with _|⟨s,_|⟨x,_|⟨y,as1⟩⟩⟩<;>rcases ts with _|⟨sT,ts⟩<;>first|exact o2 h|exact o1 (fun v hv=>hk _ _ hv) h
theorem b0O.weak{w:World}{X X':AV→AHeap→Prop}(hX:∀v H,X v H→X' v H){ρ:p4}{H:AHeap}{Q:AV→AHeap→Prop}{e:Ending}{w':World}(h:b0O E ⟨w,X⟩ ρ H Q e w'):b0O E ⟨w,X'⟩ ρ H Q e w':=by
 cases e with
 |returned u=>exact h
 |panicked c=>
  obtain⟨u,ρ',v,H',h1,h2,h3⟩:=h
  exact⟨u,ρ',v,H',h1,hX _ _ h2,h3⟩
 |outgrown=>exact h
theorem FnW.weak{w:World}{X X':AV→AHeap→Prop}(hX:∀v H,X v H→X' v H){f:FuncId}{args:List AV}{H:AHeap}{Q:AV→AHeap→Prop}(h:FnW P E ⟨w,X⟩ f args H Q):FnW P E ⟨w,X'⟩ f args H Q:=
 fun w ρ vargs R hf hr=>Calls.mono (h w ρ vargs R hf hr) fun e w' he=>he.weak hX
theorem C0.weak{w:World}{X X':AV→AHeap→Prop}(hX:∀v H,X v H→X' v H){c:Code}{T:List AV}{H:AHeap}{Q:j0→List AV→AHeap→Prop}(h:C0 P E ⟨w,X⟩ c T H Q):C0 P E ⟨w,X'⟩ c T H Q:=
 fun w ρ a R hR hf hT hk hp=>h w ρ a R hR hf hT hk fun u v ρ' H' a' w' hx=>hp u v ρ' H' a' w' (hX _ _ hx)
theorem g9.at_le{R R':Fz}(h:R.le R'):∀v H,(w0.at E R').X v H→(w0.at E R).X v H:=fun v H ⟨F,R1,S,d,a,b⟩=>⟨F,R1,S,d,Fz.le_trans h a,b⟩
theorem FnW.at_le{R R':Fz}(h:R.le R'){f:FuncId}{args:List AV}{H:AHeap}{Q:AV→AHeap→Prop}(hf:FnW P E (w0.at E R') f args H Q):FnW P E (w0.at E R) f args H Q:=FnW.weak (g9.at_le h) hf
theorem C0.at_le{R R':Fz}(h:R.le R'){c:Code}{T:List AV}{H:AHeap}{Q:j0→List AV→AHeap→Prop}(hf:C0 P E (w0.at E R') c T H Q):C0 P E (w0.at E R) c T H Q:=C0.weak (g9.at_le h) hf
theorem goF{R0 R:Fz}(h:R0.le R){S:a8}{H:AHeap}(F:t7 H)(hC:m9 E R S H):GoF E (FnW P E (w0.at E R0)) (r8 P E w0) R S H:=fun f ds avs K ha hf=>FnW.at_le h (hf R H avs F hC ha)
theorem b1q{w0:a2x}:c1C (FnW P E w0):=fun f args H Q Q' h hq=>h.mono hq
theorem a5A{R:Fz}{T:List D}{avs:List AV}(h:o5 E R T avs){ops:Array Oper}{o:Oper}{b:Bool}(hw:b0D ops T o=some b):M9 ops avs o=some b:=by
 unfold b0D at hw
 unfold M9
 cases hg:o.guard with
 |none=>rw[hg]at hw;exact hw
 |some jw=>
  obtain⟨j,want⟩:=jw
  simp only[hg]at hw ⊢
  cases hd:(ops[j]?).bind (·.dst) with
  |none=>simp only[hd]at hw ⊢;exact hw
  |some d=>
   simp only[hd]at hw ⊢
   cases hx:T[d]? with
   |none=>
    have:avs[d]? =none:=List.getElem?_eq_none (by rw[h.length];exact List.getElem?_eq_none_iff.1 hx)
    simp only[hx]at hw
    simp only[this]
    exact hw
   |some x=>
    simp only[hx]at hw
    obtain⟨v,h1,h2⟩:=a0I h hx
    simp only[h1]
    cases x<;>simp only[b7]at hw<;>try (cases hw;done)
    all_goals
     simp only[Rp]at h2
     first
      |(subst h2;exact hw)
      |(rcases h2 with ⟨_,rfl⟩|⟨o,j,cap,ex,z,rfl,_⟩<;>exact hw)
      |(obtain⟨o,j,cap,ex,z,all,rfl,_⟩:=h2;exact hw)
      |(obtain⟨o,j,all,rfl,_⟩:=h2;exact hw)
      |(obtain⟨a',b',rfl,_⟩:=h2;exact hw)
      |(obtain⟨v',rfl,_⟩:=h2;exact hw)
      |(obtain⟨_,rfl⟩:=(h2:_∧_);exact hw)
      |(obtain⟨_,j,cap,ex,all,rfl,_⟩:=(h2:_∧_);exact hw)
theorem b3A{T:List D}{o:Oper}{S S':a8}(h:a9c P T o S S'){k:Nat}(hk:a5p P T o=some k):S' k=S k:=by
 unfold a5p at hk
 unfold a9c at h
 split at hk
 ·rename_i e;simp only[e,A9,hk]at h;exact h
 ·rename_i e;simp only[e,A9,hk]at h;exact h
 ·rename_i e;simp only[e,b5t,hk]at h;exact h
 ·rename_i e
  simp only[e]at h
  split at hk
  ·rename_i hl;rw[if_pos hl]at h;simp only[b5t,hk]at h;exact h
  ·cases hk
 ·cases hk
theorem b7F{T:List D}{o:Oper}{S S':a8}(h:a9j P o=false):a9c P T o S S':=by
 unfold a9c
 split
 ·rename_i e;simp[a9j,e]at h
 ·rename_i e;simp[a9j,e]at h
 ·rename_i e;simp[a9j,e]at h
 ·rename_i e;simp only[a9j,e]at h;rw[h,if_neg (by decide)];trivial
 ·trivial
theorem b9e{R:Fz}{S:a8}{H:AHeap}{T:List D}{avs:List AV}(hT:o5 E R T avs)(hC:m9 E R S H){ops:Array Oper}{o:Oper}{d:D}(h:c0y P ops T S o=some d):
  ∃v,Rp E R d v∧∀H,Agr R S (a5p P T o) H→b8A P E ops avs H o=some v:=by
 unfold c0y d4 at h
 split at h
 ·rename_i hw
  obtain⟨v,h1,h2⟩:=c2S hT hC h
  exact⟨v,h1,fun H hA=>by unfold b8A;rw[a5A hT hw];exact h2 H hA⟩
 ·rename_i hw
  cases h
  exact⟨o4,N9,fun H hA=>by unfold b8A;rw[a5A hT hw];rfl⟩
 ·cases h
theorem b6X{F:FW}{G:DW}{R:Fz}{S:a8}{H:AHeap}(hG:GoF E F G R S H)(hF:t7 H)(hC:m9 E R S H){T:List D}{avs:List AV}(hT:o5 E R T avs){ops:Array Oper}{o:Oper}{K:D→a8→Prop}(h:b8P P G ops T S o K):b2q P E F ops avs H o (H6 E R K):=by
 unfold b8P at h
 rw[c0d]at h
 unfold b2q
 split at h
 ·rename_i hw
  rw[a5A hT hw]
  exact c2F hG hF hC hT h
 ·rename_i hw
  rw[a5A hT hw]
  exact⟨hF,R,S,b6,Fz.le_refl R,hC,N9,h⟩
 ·exact h.elim
theorem b0J{F:FW}(hF:c1C F){ops:Array Oper}{T:List AV}{H:AHeap}{o:Oper}{K K':AV→AHeap→Prop}(h:b2q P E F ops T H o K)(hk:∀v H',K v H'→K' v H'):b2q P E F ops T H o K':=by
 unfold b2q a2t at*
 split<;>rename_i e<;>rw[e]at h
 ·exact c0J hF hk h
 ·exact hk _ _ h
 ·exact h
def a1w(E:c9)(R:Fz)(n:Nat)(Q:List D→a8→Prop)(avs':List AV)(H':AHeap):Prop:=t7 H'∧∃R' S' T',R.le R'∧m9 E R' S' H'∧o5 E R' T' avs'∧T'.length=n∧Q T' S'
theorem a1w.le{R R1:Fz}(h:R.le R1){n:Nat}{Q:List D→a8→Prop}{avs':List AV}{H':AHeap}(hp:a1w E R1 n Q avs' H'):a1w E R n Q avs' H':=by
 obtain⟨F,R',S',T',a,b⟩:=hp
 exact⟨F,R',S',T',Fz.le_trans h a,b⟩
theorem b8W{R0 R:Fz}(hle:R0.le R){S:a8}{H:AHeap}{T:List D}{avs:List AV}{ops:Array Oper}(F:t7 H)(hC:m9 E R S H)(hT:o5 E R T avs){o:Oper}{x:Operand}(hx:b0H o=some x)(h:a5l E w0 (j7 T x) S){Q:AV→AHeap→Prop}:X9 P E (w0.at E R0) ops avs H o Q:=by
 obtain⟨hp,h⟩:=h
 have hr:=f9 hT x
 obtain⟨dst,op,type,pos,after,guard⟩:=o
 unfold b0H at hx
 split at hx
 ·rename_i hg
  simp only at hg
  subst hg
  split at hx
  ·rename_i y hy
   simp only at hy
   subst hy
   cases hx
   unfold X9 M9 a2t b3h
   simp only[N4]
   unfold b9Y
   refine .inl ⟨?_,F,R,S,j7 T x,hle,hC,hr,h⟩
   obtain⟨t,v,e⟩:=hp
   rw[e]at hr
   simp only[Rp]at hr
   obtain⟨v',e',_⟩:=hr
   exact⟨t,v',e'⟩
  ·cases hx
 ·cases hx
theorem b5v{R0:Fz}{ops:Array Oper}:∀ {l:List Oper} {T:List D} {avs:List AV} {S:a8} {H:AHeap} {R:Fz} {Q:List D→a8→Prop},R0.le R→t7 H→m9 E R S H→o5 E R T avs→b0o P (r8 P E w0) (a5l E w0) ops l T S Q→a8x P E (w0.at E R0) ops l avs H (a1w E R T.length Q)
 | [],T,avs,S,H,R,Q,h0,F,hC,hT,h=>by
  simp only[b0o,a3j]at h
  exact⟨F,R,S,T,Fz.le_refl R,hC,hT,rfl,h⟩
 |o::l,T,avs,S,H,R,Q,h0,F,hC,hT,h=>by
  simp only[b0o,a3j,b0P]at h
  have next:∀ {d:D} {v:AV} {R':Fz} {S':a8} {H':AHeap},R.le R'→t7 H'→m9 E R' S' H'→Rp E R' d v→b0o P (r8 P E w0) (a5l E w0) ops l (b0g T o.dst d) S' Q→a8x P E (w0.at E R0) ops l (W0 avs o.dst v) H' (a1w E R T.length Q):=by
   intro d v R' S' H' hle F' hC' hd h'
   have:=b5v (Fz.le_trans h0 hle) F' hC' (b8Z (o5.le hle _ _ hT) o.dst hd) h'
   rw[a9A]at this
   exact a8I (fun _ _=>a1w.le hle) this
  have val:j9 P o≤1→(b4 (c0y P ops T S o) fun v=>b0o P (r8 P E w0) (a5l E w0) ops l (b0g T o.dst v) S Q)→a8x P E (w0.at E R0) ops (o::l) avs H (a1w E R T.length Q):=by
   intro hk h
   unfold b4 at h
   split at h
   ·rename_i d hd
    obtain⟨v,h1,h2⟩:=b9e hT hC hd
    rw[a8x,if_pos hk]
    exact⟨v,by rw[a7n hk];exact h2 H (hC.agr _),next (Fz.le_refl R) F hC h1 h⟩
   ·exact h.elim
  cases ha:a5y o with
  |some x=>
   simp only[ha]at h
   obtain⟨hk,hv⟩:=b2c (P:=P) (E:=E) ha
   rw[a8x,if_pos (by omega)]
   exact⟨_,by rw[a7n (by omega)];exact hv ops avs H,next (Fz.le_refl R) F hC (f9 hT _) h⟩
  |none=>
   simp only[ha]at h
   rcases hk:j9 P o with _|_|k
   ·simp only[hk]at h;exact val (by omega) h
   ·simp only[hk]at h;exact val (by omega) h
   ·simp only[hk]at h
    rw[a8x,if_neg (by omega)]
    split at h
    ·rename_i x hx;exact b8W h0 F hC hT hx h
    ·refine V0 (b8J (b0J b1q (b6X (goF h0 F hC) F hC hT h) fun v H' hq=>hq)) ?_
     rintro v H' ⟨F',R',S',d,hle,hC',hd,h'⟩
     exact next hle F' hC' hd h'
def c3W(P:Program)(E:c9)(ops:Array Oper)(R:Fz)(x:Oper×List D×a8)(y:j2):Prop:=
 x.1=y.o∧(j9 P y.o=1→∃Rd:Fz,Rd.le R∧∀H',Agr Rd x.2.2 (a5p P x.2.1 x.1) H'→b8A P E ops y.T H' y.o=some y.v)
def DsC(P:Program)(E:c9)(ops:Array Oper)(R:Fz):List (Oper×List D×a8)→List j2→Prop
 | [],[]=>True
 |x::xs,y::ys=>c3W P E ops R x y∧DsC P E ops R xs ys
 |_,_=>False
theorem DsC.le{ops:Array Oper}{R R':Fz}(hle:R.le R'):∀ {xs:List (Oper×List D×a8)} {ys:List j2},DsC P E ops R xs ys→DsC P E ops R' xs ys
 | [],[],h=>h
 |x::xs,y::ys,h=>⟨⟨h.1.1,fun k=>let ⟨Rd,a,b⟩:=h.1.2 k;⟨Rd,Fz.le_trans a hle,b⟩⟩,DsC.le hle h.2⟩
 | [],_::_,h=>h.elim
 |_::_,[],h=>h.elim
theorem DsC.snoc{ops:Array Oper}{R:Fz}{x:Oper×List D×a8}{y:j2}(h1:c3W P E ops R x y):∀ {xs:List (Oper×List D×a8)} {ys:List j2},DsC P E ops R xs ys→DsC P E ops R (xs++[x]) (ys++[y])
 | [],[],h=>⟨h1,trivial⟩
 |x::xs,y::ys,h=>⟨h.1,DsC.snoc h1 h.2⟩
 | [],_::_,h=>h.elim
 |_::_,[],h=>h.elim
theorem b3u{ops:Array Oper}{R R':Fz}(hle:R.le R'){S':a8}{H':AHeap}(hC:m9 E R' S' H'){anc:Nat}{K:Prop}:∀ {xs:List (Oper×List D×a8)} {ys:List j2} {j:Nat},DsC P E ops R xs ys→a9e P S' anc K j xs→
  K∧∀(i:Nat) (d:j2),ys[i]? =some d→j9 P d.o=1→anc.testBit (j+i)=false→a6Y P E ops d.T H' d.o=some d.v
 | [],[],j,_,h=>⟨h,fun i d e=>by simp at e⟩
 |x::xs,y::ys,j,⟨⟨e1,e2⟩,hd⟩,h=>by
  have step:∀(hK:a9e P S' anc K (j+1) xs),(j9 P y.o=1→anc.testBit j=false→a9c P x.2.1 x.1 x.2.2 S')→K∧∀(i:Nat) (d:j2),(y::ys)[i]? =some d→j9 P d.o=1→anc.testBit (j+i)=false→a6Y P E ops d.T H' d.o=some d.v:=fun hK hf=>by
   obtain⟨k1,k2⟩:=b3u hle hC hd hK
   refine⟨k1,fun i d hi hk ha=> ?_⟩
   cases i with
   |zero=>
    simp at hi
    subst hi
    obtain⟨Rd,g1,g2⟩:=e2 hk
    have hft:=hf hk (by simpa using ha)
    rw[a7n (by omega)]
    exact g2 H' ⟨fun j cs e=>let ⟨w,pre,g⟩:=hC.frozen j cs (hle _ _ (g1 _ _ e));⟨w,pre,g⟩,fun j o' hj hjS hoc=>by
     rw[←b3A hft hj]at hjS
     obtain⟨_,⟨pre,g⟩,_⟩:=hC.cells hjS hoc
     exact⟨_,pre,g⟩,fun j o' rows hj hjS hm=>by
     rw[←b3A hft hj]at hjS
     obtain⟨_,es,cl,a,g,_⟩:=hC.mapAt hjS hm
     exact⟨es,cl,a,g⟩⟩
   |succ i=>exact k2 i d (by simpa using hi) hk (by rw[Nat.add_assoc,Nat.add_comm 1 i];exact ha)
  simp only[a9e]at h
  split at h
  ·exact step h.2 fun _ _=>h.1
  ·rename_i hc
   refine step h fun hk ha=>b7F ?_
   rw[e1]at hc ⊢
   simp only[hk,ha,Bool.not_false,Bool.and_true,beq_self_eq_true,Bool.true_and,Bool.not_eq_true]at hc
   exact hc
 | [],_::_,_,h,_=>h.elim
 |_::_,[],_,h,_=>h.elim
theorem b8w{R0:Fz}{ops:Array Oper}:∀ {l:List j2} {xs:List (Oper×List D×a8)} {ys:List j2} {T:List D} {avs:List AV} {S:a8} {H:AHeap} {R:Fz} {Q:List D→a8→Prop},R0.le R→t7 H→m9 E R S H→o5 E R T avs→DsC P E ops R xs ys→a8p P (r8 P E w0) (a5l E w0) ops l xs T S Q→a3w P E (w0.at E R0) ops l ys avs H (a1w E R T.length Q)
 | [],xs,ys,T,avs,S,H,R,Q,h0,F,hC,hT,hD,h=>by
  simp only[a8p,a3j]at h
  exact⟨F,R,S,T,Fz.le_refl R,hC,hT,rfl,h⟩
 |s::l,xs,ys,T,avs,S,H,R,Q,h0,F,hC,hT,hD,h=>by
  simp only[a8p,a3j,b0P]at h
  have next:∀ {d:D} {v:AV} {R':Fz} {S':a8} {H':AHeap},R.le R'→t7 H'→m9 E R' S' H'→Rp E R' d v→c3W P E ops R' (s.o,T,S) ⟨s.o,s.anc,avs,v,0,0,s.wr,[]⟩→a8p P (r8 P E w0) (a5l E w0) ops l (xs++[(s.o,T,S)]) (b0g T s.o.dst d) S' Q→a3w P E (w0.at E R0) ops l (ys++[⟨s.o,s.anc,avs,v,0,0,s.wr,[]⟩]) (W0 avs s.o.dst v) H' (a1w E R T.length Q):=by
   intro d v R' S' H' hle F' hC' hd he h'
   have:=b8w (Fz.le_trans h0 hle) F' hC' (b8Z (o5.le hle _ _ hT) s.o.dst hd) ((hD.le hle).snoc he) h'
   rw[a9A]at this
   exact a8Y (fun _ _=>a1w.le hle) this
  have val:j9 P s.o≤1→(b4 (c0y P ops T S s.o) fun v=>a8p P (r8 P E w0) (a5l E w0) ops l (xs++[(s.o,T,S)]) (b0g T s.o.dst v) S Q)→a3w P E (w0.at E R0) ops (s::l) ys avs H (a1w E R T.length Q):=by
   intro hk h
   unfold b4 at h
   split at h
   ·rename_i d hd
    obtain⟨v,h1,h2⟩:=b9e hT hC hd
    rw[a3w,if_pos hk]
    exact⟨v,by rw[a7n hk];exact h2 H (hC.agr _),next (Fz.le_refl R) F hC h1 ⟨rfl,fun _=>⟨R,Fz.le_refl R,h2⟩⟩ h⟩
   ·exact h.elim
  cases ha:a5y s.o with
  |some x=>
   simp only[ha]at h
   obtain⟨hk,hv⟩:=b2c (P:=P) (E:=E) ha
   rw[a3w,if_pos (by omega)]
   exact⟨_,by rw[a7n (by omega)];exact hv ops avs H,next (Fz.le_refl R) F hC (f9 hT _) ⟨rfl,fun hk1=>by simp only at hk1;omega⟩ h⟩
  |none=>
   simp only[ha]at h
   rcases hk:j9 P s.o with _|_|k
   ·simp only[hk]at h;exact val (by omega) h
   ·simp only[hk]at h;exact val (by omega) h
   ·simp only[hk]at h
    rw[a3w,if_neg (by omega)]
    split at h
    ·rename_i x hx;exact b8W h0 F hC hT hx h
    ·refine V0 (b8J (b0J b1q (b6X (goF h0 F hC) F hC hT h) fun v H' hq=>hq)) ?_
     rintro v H' ⟨F',R',S',d,hle,hC',hd,h'⟩
     obtain⟨k1,k2⟩:=b3u hle hC' hD h'
     exact⟨fun i d hi hk1 ha=>k2 i d hi hk1 (by rw[Nat.zero_add];exact ha),next hle F' hC' hd ⟨rfl,fun hk1=>by simp only at hk1;omega⟩ k1⟩
end
end
section
section
variable(P:Program)(E:c9)(w0:g9)
def c1j(E:c9)(R:Fz)(n:Nat)(Q:j0→List D→a8→Prop)(ex:j0)(avs':List AV)(H':AHeap):Prop:=a1w E R n (Q ex) avs' H'
def d6(c:Code)(T:List D)(S:a8)(Q:j0→List D→a8→Prop):Prop:=
 ∀R H avs,t7 H→m9 E R S H→o5 E R T avs→C0 P E (w0.at E R) c avs H (c1j E R T.length Q)
end
def U8:List D→List Nat→List D→List D
 |T,i::L,v::vs=>U8 (T.set i v) L vs
 |T,_,_=>T
def f0(n:Nat)(L:List Nat)(vs:List D):List D:=U8 (List.replicate n .any) L vs
def a3H(T:List D):List Nat→List D
 | []=>[]
 |i::L=>T.getD i b6::a3H T L
def g8(c:D)(a b:Prop):Prop:=match c with
 | .bool true=>a
 | .bool false=>b
 |_=>False
def z8(id:Nat)(Q:j0→List D→a8→Prop):j0→List D→a8→Prop
 | .exit id',T,S=>if id'=id then Q .normal T S else Q (.exit id') T S
 |e,T,S=>Q e T S
def b8Y{α:Type}(k:Nat):List (Nat×α)→Option α
 | []=>none
 |(i,L)::l=>if i=k then some L else b8Y k l
def hdD:Code→Option Nat
 | .region id _ _=>some (2*id)
 | .seq a b=>match hdD a with
  |some k=>some k
  |none=>hdD b
 | .cond _ a b=>match hdD a with
  |some k=>some (2*k+1)
  |none=>match hdD b with
   |some k=>some (2*k+1)
   |none=>none
 | .block _ c| .loop c=>hdD c
 |_=>none
def c4L(cuts:List (Nat×List Nat))(c:Code):Option (List Nat):=match hdD c with
 |some id=>b8Y id cuts
 |none=>none
section
variable(P:Program)(E:c9)(w0:g9)(loops cuts:List (Nat×List Nat))(arrs:List (Nat×Arr))
def vcD:Code→List D→a8→(j0→List D→a8→Prop)→Prop
 | .skip,T,S,Q=>Q .normal T S
 | .label _,T,S,Q=>Q .normal T S
 | .ret,T,S,Q=>Q .ret T S
 | .exit id,T,S,Q=>Q (.exit id) T S
 | .region id ops draw,T,S,Q=>match draw with
  |false=>b0o P (r8 P E w0) (a5l E w0) ops ops.toList T S (Q .normal)
  |true=>match b8Y id arrs with
   |some t=>if a3i ops&&b2m ops then a5e P ops (fun ops' sd=>a8p P (r8 P E w0) (a5l E w0) ops' sd [] T S (Q .normal)) t []else False
   |none=>match a4B P ops ops.toList []with
    |some sd=>a8p P (r8 P E w0) (a5l E w0) ops sd [] T S (Q .normal)
    |none=>False
 | .seq a b,T,S,Q=>match c4L cuts b with
  |some L=>vcD a T S fun ex T' S'=>match ex with
   | .normal=>d6 P E w0 b (f0 T.length L (a3H T' L)) S' Q
   |e=>Q e T' S'
  |none=>vcD a T S fun ex T' S'=>match ex with
   | .normal=>vcD b T' S' Q
   |e=>Q e T' S'
 | .cond c a b,T,S,Q=>g8 (j7 T c) (vcD a T S Q) (vcD b T S Q)
 | .block id c,T,S,Q=>vcD c T S (z8 id Q)
 | .loop c,T,S,Q=>match c4L loops c with
  |some L=>d6 P E w0 (.loop c) (f0 T.length L (a3H T L)) S Q
  |none=>d6 P E w0 (.loop c) T S Q
 |_,_,_,_=>False
end
section
variable(P:Program)(E:c9)(w0:g9)(loops cuts:List (Nat×List Nat))(arrs:List (Nat×Arr))
def a2D(b:Code)(Q:j0→List D→a8→Prop)(ex:j0)(T:List D)(S:a8):Prop:=match ex with
 | .normal=>vcD P E w0 loops cuts arrs b T S Q
 |e=>Q e T S
def b6K(n:Nat)(L:List Nat)(b:Code)(Q:j0→List D→a8→Prop)(ex:j0)(T:List D)(S:a8):Prop:=match ex with
 | .normal=>d6 P E w0 b (f0 n L (a3H T L)) S Q
 |e=>Q e T S
end
def H9(N:List D→a8→Prop)(Q:j0→List D→a8→Prop)(ex:j0)(T:List D)(S:a8):Prop:=match ex with
 | .normal=>N T S
 |e=>Q e T S
def a5N(P:Program)(S:a8)(T:List D):List ResultVar→(List D→Prop)→Prop
 | [],K=>K []
 | .tmp t::l,K=>a5N P S T l fun vs=>K (T.getD t b6::vs)
 | .cell a t::l,K=>b4 (b9C P S t (T.getD a b6)) fun v=>a5N P S T l fun vs=>K (v::vs)
def c0Q:List D→D
 | [v]=>v
 |vs=> .tup vs
def J2(P:Program)(fn:Func)(Q:D→a8→Prop):j0→List D→a8→Prop
 | .exit _,_,_=>False
 |_,T,S=>a5N P S T fn.results.toList fun vs=>Q (c0Q vs) S
def b9(E:c9)(Q:D→a8→Prop)(d:D)(S:a8):Prop:=
 ∀R H v,m9 E R S H→Rp E R d v→∃R' S' d',R.le R'∧m9 E R' S' H∧Rp E R' d' v∧Q d' S'
section
variable{P:Program}{E:c9}{w0:g9}
theorem d6.mono{c:Code}{T:List D}{S:a8}{Q Q':j0→List D→a8→Prop}(h:d6 P E w0 c T S Q)(hq:∀ex T' S',T'.length=T.length→Q ex T' S'→Q' ex T' S'):d6 P E w0 c T S Q':=fun R H avs F hC hT=>
 (h R H avs F hC hT).mono fun ex T' H' ⟨F',R',S',T1,a,b,c,d,e⟩=>⟨F',R',S',T1,a,b,c,d,hq _ _ _ d e⟩
theorem r8.use{f:FuncId}{ds:List D}{S:a8}{Q Q':D→a8→Prop}(h:r8 P E w0 f ds S Q)(hq:∀d S',Q d S'→Q' d S'):r8 P E w0 f ds S Q':=fun R H avs hFi hC ha=>
 (h R H avs hFi hC ha).mono fun v H' ⟨F',R',S',d,a,b,c,e⟩=>⟨F',R',S',d,a,b,c,hq _ _ e⟩
theorem a6x:∀(T:List D) (L:List Nat) (vs:List D),(U8 T L vs).length=T.length
 |T,i::L,v::vs=>by rw[U8,a6x,List.length_set]
 |T,[],_=>by simp[U8]
 |T,_::_,[]=>by simp[U8]
theorem j5(n:Nat)(L:List Nat)(vs:List D):(f0 n L vs).length=n:=by rw[f0,a6x,List.length_replicate]
theorem b9o{R:Fz}:∀ {avs:List AV},o5 E R (List.replicate avs.length .any) avs
 | []=>t6
 |v::avs=>m6 a4m b9o
theorem c2I{R:Fz}{T:List D}{avs:List AV}(h:o5 E R T avs)(L:List Nat):o5 E R (f0 T.length L (a3H T L)) avs:=by
 have main:∀(L:List Nat) (T0:List D),T0.length=T.length→o5 E R T0 avs→o5 E R (U8 T0 L (a3H T L)) avs:=by
  intro L
  induction L with
  |nil=>intro T0 hl h0;simpa [U8,a3H]using h0
  |cons i L ih=>
   intro T0 hl h0
   simp only[a3H,U8]
   refine ih _ (by rw[List.length_set,hl]) ?_
   by_cases hi:i<T.length
   ·have hlen:=h.length
    have:=h0.set i (a5a h i)
    rw[List.getD_eq_getElem?_getD (l:=avs),List.getElem?_eq_getElem (by omega),Option.getD_some,List.set_getElem_self]at this
    exact this
   ·rw[List.set_eq_of_length_le (by omega)]
    exact h0
 refine main L _ (by rw[List.length_replicate]) ?_
 rw[←h.length]
 exact b9o
theorem w9{c:Code}{T:List D}{S:a8}{Q:j0→List D→a8→Prop}{n:Nat}(L:List Nat)(hn:T.length=n)(h:d6 P E w0 c (f0 n L (a3H T L)) S Q):d6 P E w0 c T S Q:=fun R H avs F hC hT=>by
 have:=h R H avs F hC (by rw[←hn];exact c2I hT L)
 rw[j5, ←hn]at this
 exact this
theorem u7{c:Code}{Q:j0→List D→a8→Prop}{I:Nat→List D→a8→Prop}{k:Nat}
  (step:∀n T S,T.length=k→I n T S→d6 P E w0 c T S fun ex T' S'=>match ex with| .normal=>∃m,m<n∧I m T' S'|e=>Q e T' S')
  {n:Nat} {T:List D} {S:a8} (hk:T.length=k) (h:I n T S):d6 P E w0 (.loop c) T S Q:=fun R H avs F hC hT=>by
 refine b8b (I:=fun n avs H=>a1w E R k (I n) avs H) (fun n avs H hI=> ?_) (n:=n) ⟨F,R,S,T,Fz.le_refl R,hC,hT,hk,h⟩
 obtain⟨F1,R1,S1,T1,a,b,c1,d,e⟩:=hI
 refine(C0.at_le a (step n T1 S1 d e R1 H avs F1 b c1)).mono fun ex T' H' hq=> ?_
 cases ex with
 |normal=>
  obtain⟨F2,R2,S2,T2,a2,b2,c2,d2,m,hm,e2⟩:=hq
  exact⟨m,hm,F2,R2,S2,T2,Fz.le_trans a a2,b2,c2,by rw[d2,d],e2⟩
 |exit id=>
  obtain⟨F2,R2,S2,T2,a2,b2,c2,d2,e2⟩:=hq
  exact⟨F2,R2,S2,T2,Fz.le_trans a a2,b2,c2,by rw[d2,d,hk],e2⟩
 |ret=>
  obtain⟨F2,R2,S2,T2,a2,b2,c2,d2,e2⟩:=hq
  exact⟨F2,R2,S2,T2,Fz.le_trans a a2,b2,c2,by rw[d2,d,hk],e2⟩
theorem c0l{id:Nat}{ops:Array Oper}{T:List D}{S:a8}{Q:j0→List D→a8→Prop}(h:b0o P (r8 P E w0) (a5l E w0) ops ops.toList T S (Q .normal)):d6 P E w0 (.region id ops false) T S Q:=fun R H avs F hC hT=>b5G (a7R (b5v (Fz.le_refl R) F hC hT h))
theorem b7H(hm:P.follows .mixedOrders=true){id:Nat}{ops:Array Oper}{sd:List j2}(hB:a4B P ops ops.toList []=some sd){T:List D}{S:a8}{Q:j0→List D→a8→Prop}(h:a8p P (r8 P E w0) (a5l E w0) ops sd [] T S (Q .normal)):d6 P E w0 (.region id ops true) T S Q:=fun R H avs F hC hT=>b7B hm hB (b8w (xs:=[]) (ys:=[]) (Fz.le_refl R) F hC hT trivial h)
theorem b6G(hm:P.follows .mixedOrders=true){id:Nat}{ops:Array Oper}{t:Arr}{T:List D}{S:a8}{Q:j0→List D→a8→Prop}(h:if a3i ops&&b2m ops then a5e P ops (fun ops' sd=>a8p P (r8 P E w0) (a5l E w0) ops' sd [] T S (Q .normal)) t []else False):d6 P E w0 (.region id ops true) T S Q:=fun R H avs F hC hT=>by
 split at h
 ·rename_i hok
  simp only[Bool.and_eq_true]at hok
  exact b7l hm hok.1 hok.2 (h.mono fun ops' sd ho=>b8w (xs:=[]) (ys:=[]) (Fz.le_refl R) F hC hT trivial ho)
 ·exact h.elim
variable{loops cuts:List (Nat×List Nat)}{arrs:List (Nat×Arr)}
theorem a4G(hm:P.follows .mixedOrders=true):∀(c:Code) (T:List D) (S:a8) (Q:j0→List D→a8→Prop),vcD P E w0 loops cuts arrs c T S Q→d6 P E w0 c T S Q
 | .skip,T,S,Q,h=>fun R H avs F hC hT=>b7G ⟨F,R,S,T,Fz.le_refl R,hC,hT,rfl,h⟩
 | .label _,T,S,Q,h=>fun R H avs F hC hT=>b6h ⟨F,R,S,T,Fz.le_refl R,hC,hT,rfl,h⟩
 | .ret,T,S,Q,h=>fun R H avs F hC hT=>a8L ⟨F,R,S,T,Fz.le_refl R,hC,hT,rfl,h⟩
 | .exit id,T,S,Q,h=>fun R H avs F hC hT=>b8l ⟨F,R,S,T,Fz.le_refl R,hC,hT,rfl,h⟩
 | .region _ ops false,T,S,Q,h=>c0l h
 | .region id ops true,T,S,Q,h=>by
  change (match b8Y id arrs with
   |some t=>if a3i ops&&b2m ops then a5e P ops (fun ops' sd=>a8p P (r8 P E w0) (a5l E w0) ops' sd [] T S (Q .normal)) t []else False
   |none=>match a4B P ops ops.toList []with
    |some sd=>a8p P (r8 P E w0) (a5l E w0) ops sd [] T S (Q .normal)
    |none=>False)at h
  split at h
  ·exact b6G hm h
  ·split at h
   ·rename_i sd hB;exact b7H hm hB h
   ·exact h.elim
 | .seq a b,T,S,Q,h=>fun R H avs F hC hT=>by
  simp only[vcD]at h
  have fin:d6 P E w0 a T S (fun ex T' S'=>match ex with| .normal=>d6 P E w0 b T' S' Q|e=>Q e T' S')→C0 P E (w0.at E R) (.seq a b) avs H (c1j E R T.length Q):=by
   intro h
   refine b3t ((h R H avs F hC hT).mono fun ex T' H' hq=> ?_)
   cases ex with
   |normal=>
    obtain⟨F2,R2,S2,T2,a2,b2,c2,d2,e2⟩:=hq
    have:=e2 R2 H' T' F2 b2 c2
    rw[d2]at this
    exact(C0.at_le a2 this).mono fun ex T' H' hq=>a1w.le a2 hq
   |exit id=>exact hq
   |ret=>exact hq
  split at h
  ·rename_i L hL
   refine fin ((a4G hm a T S _ h).mono fun ex T' S' hl hq=> ?_)
   cases ex with
   |normal=>exact w9 L hl hq
   |exit id=>exact hq
   |ret=>exact hq
  ·refine fin ((a4G hm a T S _ h).mono fun ex T' S' hl hq=> ?_)
   cases ex with
   |normal=>exact a4G hm b T' S' Q hq
   |exit id=>exact hq
   |ret=>exact hq
 | .cond c a b,T,S,Q,h=>fun R H avs F hC hT=>by
  simp only[vcD]at h
  have hr:=f9 hT c
  unfold g8 at h
  split at h
  ·rename_i e
   rw[e]at hr
   simp only[Rp]at hr
   exact b2p (by rw[hr];exact a4G hm a T S Q h R H avs F hC hT)
  ·rename_i e
   rw[e]at hr
   simp only[Rp]at hr
   exact b2p (by rw[hr];exact a4G hm b T S Q h R H avs F hC hT)
  ·exact h.elim
 | .block id c,T,S,Q,h=>fun R H avs F hC hT=>by
  refine b6o ((a4G hm c T S _ h R H avs F hC hT).mono fun ex T' H' hq=> ?_)
  cases ex with
  |normal=>exact hq
  |ret=>exact hq
  |exit id'=>
   obtain⟨F2,R2,S2,T2,a2,b2,c2,d2,e2⟩:=hq
   simp only[z8]at e2
   simp only[b8s]
   split at e2
   ·rename_i e;rw[if_pos e];exact⟨F2,R2,S2,T2,a2,b2,c2,d2,e2⟩
   ·rename_i e;rw[if_neg e];exact⟨F2,R2,S2,T2,a2,b2,c2,d2,e2⟩
 | .loop c,T,S,Q,h=>by
  simp only[vcD]at h
  split at h
  ·rename_i L hL;exact w9 L rfl h
  ·exact h
 | .rangeFunc ..,T,S,Q,h=>h.elim
 | .scope ..,T,S,Q,h=>h.elim
 | .goto ..,T,S,Q,h=>h.elim
 | .refuse ..,T,S,Q,h=>h.elim
theorem a6J{R:Fz}{S:a8}{H:AHeap}{T:List D}{avs:List AV}(hC:m9 E R S H)(hT:o5 E R T avs):∀ {l:List ResultVar} {K:List D→Prop} {K':List AV→Prop},(∀ds vs,o5 E R ds vs→K ds→K' vs)→a5N P S T l K→a0f P E H avs l K'
 | [],K,K',hk,h=>hk [] [] t6 h
 | .tmp t::l,K,K',hk,h=>by
  have:=a6J (l:=l) (K':=fun vs=>K' (avs.getD t o4::vs)) hC hT (fun ds vs hr hK=>hk (T.getD t b6::ds) (avs.getD t o4::vs) (m6 (a5a hT t) hr) hK) h
  exact this
 | .cell a t::l,K,K',hk,h=>by
  simp only[a5N]at h
  unfold b4 at h
  split at h
  ·rename_i d hd
   have ha:=a5a hT a
   obtain⟨v,h1,h2⟩:=b9t hC ha hd
   have h2:=h2 H (hC.agr _)
   have:=a6J (l:=l) (K':=fun vs=>K' (v::vs)) hC hT (fun ds vs hr hK=>hk (d::ds) (v::vs) (m6 h1 hr) hK) h
   simp only[a0f]
   unfold b8M at h2
   split at h2
   ·rename_i o i e
    simp only[e,h2,a5L]
    exact this
   ·cases h2
  ·exact h.elim
theorem c2m{R:Fz}{ds:List D}{vs:List AV}(h:o5 E R ds vs):Rp E R (c0Q ds) (b3O vs):=by
 rcases ds with _|⟨d,_|⟨d',ds⟩⟩
 ·simp only[o5]at h;subst h;exact N9
 ·simp only[o5]at h
  obtain⟨v,_,rfl,h1,rfl⟩:=h
  exact h1
 ·have h':=h
  simp only[o5]at h
  obtain⟨v,_,rfl,h1,v2,vs',rfl,h2,h3⟩:=h
  show Rp E R (.tup (d::d'::ds)) (.tup (v::v2::vs'))
  simp only[Rp]
  exact⟨_,rfl,h'⟩
theorem b6M{f:FuncId}{fn:Func}{c:Code}(hfn:P.funcs[f]? =some fn)(hb:fn.body=some c){ds:List D}{S:a8}{Q:D→a8→Prop}
  (h:d6 P E w0 c (ds++List.replicate (fn.ntmps - ds.length) b6) S (J2 P fn (b9 E Q))):r8 P E w0 f ds S Q:=fun R H avs F hC ha=>by
 have hrow:o5 E R (ds++List.replicate (fn.ntmps - ds.length) b6) (avs++List.replicate (fn.ntmps - avs.length) o4):=by
  refine ha.append ?_
  rw[ha.length]
  generalize fn.ntmps - ds.length=m
  induction m with
  |zero=>exact t6
  |succ m ih=>exact m6 N9 ih
 have h':C0 P E (w0.at E R) c (avs++List.replicate (fn.ntmps - avs.length) o4) H (c4S P E fn (H6 E R Q)):=by
  refine(h R H _ F hC hrow).mono fun ex T' H' hq=> ?_
  obtain⟨F2,R2,S2,T2,a2,b2,c2,d2,e2⟩:=hq
  have go:∀ {l:List ResultVar},a5N P S2 T2 l (fun vs=>b9 E Q (c0Q vs) S2)→a0f P E H' T' l fun vs=>H6 E R Q (b3O vs) H':=fun h=>a6J b2 c2 (fun ds vs hr hK=>by
   obtain⟨R',S',d',k1,k2,k3,k4⟩:=hK R2 H' _ b2 (c2m hr)
   exact⟨F2,R',S',d',Fz.le_trans a2 k1,k2,k3,k4⟩) h
  cases ex with
  |normal=>exact go e2
  |ret=>exact go e2
  |exit id=>exact e2
 exact b7n hfn hb h'
theorem q9(loops cuts:List (Nat×List Nat))(arrs:List (Nat×Arr))(hm:P.follows .mixedOrders=true){f:FuncId}{fn:Func}{c:Code}(hfn:P.funcs[f]? =some fn)(hb:fn.body=some c){ds:List D}{S:a8}{Q:D→a8→Prop}{V:Prop}
  (e:vcD P E w0 loops cuts arrs c (ds++List.replicate (fn.ntmps - ds.length) b6) S (J2 P fn (b9 E Q))=V) (h:V):r8 P E w0 f ds S Q:=
 b6M hfn hb (a4G hm _ _ _ _ (e▸h))
theorem d8(loops cuts:List (Nat×List Nat))(arrs:List (Nat×Arr))(hm:P.follows .mixedOrders=true){c:Code}{T:List D}{S:a8}{Q:j0→List D→a8→Prop}{V:Prop}(e:vcD P E w0 loops cuts arrs c T S Q=V)(h:V):d6 P E w0 c T S Q:=
 a4G hm _ _ _ _ (e▸h)
theorem b9.here{Q:D→a8→Prop}{d:D}{S:a8}(h:Q d S):b9 E Q d S:=fun R H v hC hd=>⟨R,S,d,Fz.le_refl R,hC,hd,h⟩
theorem b9.less{Q:D→a8→Prop}{d:D}{S S':a8}(hs:S'.le S)(h:b9 E Q d S'):b9 E Q d S:=fun R H v hC hd=>h R H v (hC.less hs) hd
theorem b9.mono{Q Q':D→a8→Prop}{d:D}{S:a8}(h:b9 E Q d S)(hq:∀d S,Q d S→Q' d S):b9 E Q' d S:=fun R H v hC hd=>by
 obtain⟨R',S',d',a,b,c,e⟩:=h R H v hC hd
 exact⟨R',S',d',a,b,c,hq _ _ e⟩
theorem b9.freeze{Q:D→a8→Prop}{S:a8}{k:Nat}{o:s7}(hk:S k=some o){i len cap:Nat}{ex:Bool}{sz:Nat}(hsz:o.sz=sz)(hl:i+len≤o.rows.length)(hc:len≤cap)
  (h:b9 E Q (.lst ((o.rows.drop i).take len) sz) (S.erase k)):b9 E Q (.raw k i len cap ex sz) S:=fun R H v hC hd=>by
 have hzm:sz<E1:=by simp only[Rp]at hd;exact hd.1
 obtain⟨h1,h2⟩:=hC.freeze hk (.inl (by rw[hsz];exact hzm))
 obtain⟨R',S',d',a,b,c,e⟩:=h _ H v h1 (a5E hC hk hd hsz hl hc)
 exact⟨R',S',d',Fz.le_trans h2 a,b,c,e⟩
theorem b9.freezeT{Q:D→a8→Prop}{S:a8}{k:Nat}{o:s7}(hk:S k=some o){i len cap:Nat}{ex:Bool}{sz:Nat}(hsz:o.sz=sz)(hl:i+len≤o.rows.length)(hc:len≤cap){lp lq:List D}
  (h:b9 E Q (.tup (lp++ .lst ((o.rows.drop i).take len) sz::lq)) (S.erase k)):b9 E Q (.tup (lp++ .raw k i len cap ex sz::lq)) S:=fun R H v hC hd=>by
 simp only[Rp]at hd
 obtain⟨vs,rfl,hv⟩:=hd
 obtain⟨v1,v2,rfl,g1,g2⟩:=a0R hv
 simp only[o5]at g2
 obtain⟨w,ws,rfl,g3,g4⟩:=g2
 have hzm:sz<E1:=by simp only[Rp]at g3;exact g3.1
 obtain⟨h1,h2⟩:=hC.freeze hk (.inl (by rw[hsz];exact hzm))
 obtain⟨R',S',d',a,b,c,e⟩:=h _ H (.tup (v1++w::ws)) h1 (by
  simp only[Rp]
  exact⟨_,rfl,(o5.le h2 _ _ g1).append (m6 (a5E hC hk g3 hsz hl hc) (o5.le h2 _ _ g4))⟩)
 exact⟨R',S',d',Fz.le_trans h2 a,b,c,e⟩
theorem b9.nil{Q:D→a8→Prop}{S:a8}{sz:Nat}(h:b9 E Q (.lst [] sz) S):b9 E Q .nilSlc S:=fun R H v hC hd=>h R H v hC (by simp only[Rp]at hd ⊢;exact .inl ⟨trivial,hd⟩)
theorem b9.nilT{Q:D→a8→Prop}{S:a8}{sz:Nat}{lp lq:List D}(h:b9 E Q (.tup (lp++ .lst [] sz::lq)) S):b9 E Q (.tup (lp++ .nilSlc::lq)) S:=fun R H v hC hd=>h R H v hC (by
 simp only[Rp]at hd ⊢
 obtain⟨vs,rfl,hv⟩:=hd
 obtain⟨v1,v2,rfl,g1,g2⟩:=a0R hv
 simp only[o5]at g2
 obtain⟨w,ws,rfl,g3,g4⟩:=g2
 exact⟨_,rfl,g1.append (m6 (by simp only[Rp]at g3 ⊢;exact .inl ⟨trivial,g3⟩) g4)⟩)
def a1p(P:Program)(E:c9)(w0:g9)(f:FuncId)(ds:List D)(d:D):Prop:=∀S,r8 P E w0 f ds S fun d' S'=>d'=d∧S'=S
theorem a1p.use{f:FuncId}{ds:List D}{d:D}(h:a1p P E w0 f ds d){S:a8}{K:D→a8→Prop}(hk:K d S):r8 P E w0 f ds S K:=(h S).use fun d' S' ⟨a,b⟩=>by subst a b;exact hk
end
end
end Go.Am
end
section
open Go.Proofs Go Go.Am
namespace Go.Proofs.Ytdkidgkiplcggaa.d
section
theorem mixed:Try.prog.follows .mixedOrders=true:=by kernel_rfl
abbrev a0D:FuncId:=8
abbrev a2E:FuncId:=11
abbrev C7:FuncId:=14
abbrev a0N:FuncId:=15
abbrev E2:FuncId:=18
abbrev C5:FuncId:=19
abbrev a5r:FuncId:=23
abbrev H5:FuncId:=27
abbrev I0:FuncId:=38
abbrev G4:FuncId:=39
abbrev L4:FuncId:=40
abbrev a5Q:FuncId:=41
abbrev a1G:FuncId:=42
abbrev a0G:FuncId:=44
abbrev F9:FuncId:=54
abbrev U9:FuncId:=57
abbrev a3R:FuncId:=60
abbrev r9:FuncId:=61
abbrev j4:FuncId:=62
abbrev u6:FuncId:=63
abbrev a4v:FuncId:=87
abbrev K8:FuncId:=88
abbrev W7:FuncId:=89
abbrev a4A:FuncId:=90
abbrev a4r:FuncId:=113
abbrev a5d:FuncId:=114
abbrev V4:FuncId:=132
abbrev N6:FuncId:=141
end
section
def b5F:List (Nat×List Nat):=[]
def b5d:List (Nat×List Nat):=[]
def b4E:List (Nat×Arr):=[]
def b0f(E:c9)(w0:g9)(Q:D→a8→Prop)(a0:D)(S:a8):Prop:=
 b4 (d5 .eql a0 (.int .u8 1)) fun v0=>
 g8 v0
 (Q (.int .i64 8) S)
 (b4 (d5 .eql a0 (.int .u8 2)) fun v1=>
 g8 v1
 (Q (.int .i64 32) S)
 (b4 (d5 .eql a0 (.int .u8 3)) fun v2=>
 g8 v2
 (Q (.int .i64 64) S)
 (Q (.int .i64 0) S)))
theorem b1G{E:c9}{w0:g9}{Q:D→a8→Prop}{a0:D}{S:a8}(h:b0f E w0 (b9 E Q) a0 S):r8 Try.prog E w0 a4r [a0] S Q:=
 q9 b5F b5d b4E (fn:=Try.f113) (c:=Try.f113.body.getD .skip) mixed Try.func113 (by kernel_rfl) (by kernel_rfl) h
def b5o:List (Nat×List Nat):=[]
def b5u:List (Nat×List Nat):=[]
def b4p:List (Nat×Arr):=[]
def a9Q(E:c9)(w0:g9)(Q:D→a8→Prop)(a0 a1:D)(S:a8):Prop:=
 b4 (d5 .eql a0 (.int .u8 1)) fun v0=>
 g8 v0
 (b4 (T8 .i8 a1) fun v1=>
 b4 (T8 .i64 v1) fun v2=>
 Q v2 S)
 (b4 (d5 .eql a0 (.int .u8 2)) fun v3=>
 g8 v3
 (b4 (T8 .i32 a1) fun v4=>
 b4 (T8 .i64 v4) fun v5=>
 Q v5 S)
 (b4 (d5 .eql a0 (.int .u8 3)) fun v6=>
 g8 v6
 (Q a1 S)
 (Q (.int .i64 0) S)))
theorem b2e{E:c9}{w0:g9}{Q:D→a8→Prop}{a0 a1:D}{S:a8}(h:a9Q E w0 (b9 E Q) a0 a1 S):r8 Try.prog E w0 a5d [a0,a1] S Q:=
 q9 b5o b5u b4p (fn:=Try.f114) (c:=Try.f114.body.getD .skip) mixed Try.func114 (by kernel_rfl) (by kernel_rfl) h
def b4s:List (Nat×List Nat):=[]
def b4y:List (Nat×List Nat):=[]
def b4P:List (Nat×Arr):=[]
def b0e(E:c9)(w0:g9)(Q:D→a8→Prop)(a0 a1:D)(S:a8):Prop:=
 r8 Try.prog E w0 a4r [a0] S fun v0 S1=>
 b4 (d5 .gtr v0 (.int .i64 0)) fun v2=>
 b4 (d4 (b7 v2 true) (some a0)) fun v3=>
 b4 (d4 (b7 v2 true) (some a1)) fun v4=>
 A1 (b7 v2 true) (fun K=>r8 Try.prog E w0 a5d [v3,v4] S1 K) S1 fun v5 S6=>
 b4 (d4 (b7 v2 true) (some a1)) fun v7=>
 b4 (d4 (b7 v2 true) (d5 .eql v5 v7)) fun v8=>
 b4 (B8 v2 v8 (.bool false)) fun v9=>
 Q v9 S6
theorem b1Z{E:c9}{w0:g9}{Q:D→a8→Prop}{a0 a1:D}{S:a8}(h:b0e E w0 (b9 E Q) a0 a1 S):r8 Try.prog E w0 a4A [a0,a1] S Q:=
 q9 b4s b4y b4P (fn:=Try.f90) (c:=Try.f90.body.getD .skip) mixed Try.func90 (by kernel_rfl) (by kernel_rfl) h
def a3B:List (Nat×List Nat):=[(20,[0,1,2,9,29,30])]
def a3K:List (Nat×List Nat):=[]
def a3k:List (Nat×Arr):=[]
noncomputable def a2I:Code:=(i5 [1,1,1,0,1,0,0] (Try.f87.body.getD .skip))
def a2r(E:c9)(w0:g9)(Q:D→a8→Prop):j0→List D→a8→Prop:=
 (z8 1 (a2D Try.prog E w0 a3B a3K a3k (i5 [1,1,1,1] (Try.f87.body.getD .skip)) (J2 Try.prog Try.f87 Q)))
def a2o(E:c9)(w0:g9)(N0:D→D→D→D→D→D→a8→Prop)(Q:D→a8→Prop)(x0 x1 x2 x9 x29 x30:D)(S:a8):Prop:=
 b4 (d5 .lss x30 x29) fun v3=>
 g8 v3
 (b4 (d5 .add x1 x30) fun v4=>
 b4 (o3 1 x0 v4) fun v5=>
 b4 (c8 S v5) fun v6=>
 b4 (T8 .u64 v6) fun v7=>
 b4 (d5 .mul (.int .i64 8) x30) fun v8=>
 b4 (d5 .shl v7 v8) fun v9=>
 b4 (d5 .or x9 v9) fun v10=>
 b4 (d5 .add x30 (.int .i64 1)) fun v11=>
 N0 x0 x1 x2 v10 x29 v11 S)
 (b4 (d5 .add x1 x2) fun v12=>
 Q (.tup [x9,v12,(.int .i64 0)]) S)
theorem a9n{E:c9}{w0:g9}{N0:D→D→D→D→D→D→a8→Prop}{Q:D→a8→Prop}{x0 x1 x2 x9 x29 x30:D}{S:a8}(h:a2o E w0 N0 Q x0 x1 x2 x9 x29 x30 S):
  d6 Try.prog E w0 a2I (f0 50 [0,1,2,9,29,30] [x0,x1,x2,x9,x29,x30]) S (H9 (fun T S=>N0 (T.getD 0 b6) (T.getD 1 b6) (T.getD 2 b6) (T.getD 9 b6) (T.getD 29 b6) (T.getD 30 b6) S) (a2r E w0 Q)):=d8 a3B a3K a3k mixed (by kernel_rfl) h
theorem a9b{E:c9}{w0:g9}{Q:D→a8→Prop}(I:Nat→D→D→D→D→D→D→a8→Prop)
  (step:∀n x0 x1 x2 x9 x29 x30 S,I n x0 x1 x2 x9 x29 x30 S→a2o E w0 (fun x0 x1 x2 x9 x29 x30 S=>∃m,m<n∧I m x0 x1 x2 x9 x29 x30 S) Q x0 x1 x2 x9 x29 x30 S)
  {n:Nat} {x0 x1 x2 x9 x29 x30:D} {S:a8} (h:I n x0 x1 x2 x9 x29 x30 S):d6 Try.prog E w0 (.loop a2I) (f0 50 [0,1,2,9,29,30] [x0,x1,x2,x9,x29,x30]) S (a2r E w0 Q):=
 u7 (k:=50) (n:=n) (I:=fun n T S=>I n (T.getD 0 b6) (T.getD 1 b6) (T.getD 2 b6) (T.getD 9 b6) (T.getD 29 b6) (T.getD 30 b6) S) (fun n T S hl hI=>w9 [0,1,2,9,29,30] hl (d6.mono (a9n (step n _ _ _ _ _ _ S hI)) fun ex T' S' _ hq=>by cases ex<;>exact hq)) (j5 ..) (Eq.mp (by kernel_rfl) h)
def U4(E:c9)(w0:g9)(Q:D→a8→Prop)(x0 x1 x2 x11:D)(S:a8):Prop:=
 g8 x11
 (Q (.tup [(.int .u64 0),(.int .i64 0),(.int .i64 2)]) S)
 (b4 (n9 x0) fun v0=>
 b4 (d5 .sub v0 x1) fun v1=>
 b4 (d5 .gtr x2 v1) fun v2=>
 g8 v2
 (Q (.tup [(.int .u64 0),(.int .i64 0),(.int .i64 10)]) S)
 (d6 Try.prog E w0 (.loop a2I) (f0 50 [0,1,2,9,29,30] [x0,x1,x2,(.int .u64 0),x2,(.int .i64 0)]) S (a2r E w0 Q)))
def a9J(E:c9)(w0:g9)(Q:D→a8→Prop)(a0 a1 a2:D)(S:a8):Prop:=
 b4 (d5 .lss a2 (.int .i64 1)) fun v13=>
 g8 v13
 (U4 E w0 Q a0 a1 a2 v13 S)
 (b4 (d5 .gtr a2 (.int .i64 8)) fun v14=>
 g8 v14
 (U4 E w0 Q a0 a1 a2 v14 S)
 (b4 (d5 .lss a1 (.int .i64 0)) fun v15=>
 g8 v15
 (U4 E w0 Q a0 a1 a2 v15 S)
 (b4 (n9 a0) fun v16=>
 b4 (d5 .gtr a1 v16) fun v17=>
 U4 E w0 Q a0 a1 a2 v17 S)))
theorem b0L{E:c9}{w0:g9}{Q:D→a8→Prop}{a0 a1 a2:D}{S:a8}(h:a9J E w0 (b9 E Q) a0 a1 a2 S):r8 Try.prog E w0 a4v [a0,a1,a2] S Q:=
 q9 a3B a3K a3k (fn:=Try.f87) (c:=Try.f87.body.getD .skip) mixed Try.func87 (by kernel_rfl) (by kernel_rfl) h
def b2u:List (Nat×List Nat):=[]
def b1V:List (Nat×List Nat):=[]
def b1F:List (Nat×Arr):=[]
def a6j(E:c9)(w0:g9)(Q:D→a8→Prop)(a0 a1:D)(S:a8):Prop:=
 b4 (r6 a0) fun cs=>o9 S cs fun v0 S1=>
 b4 (r6 a1) fun cs=>o9 S1 cs fun v2 S3=>
 b4 (some (.fn (.func K8) [] [v0,v2])) fun v4=>
 Q v4 S3
theorem a8X{E:c9}{w0:g9}{Q:D→a8→Prop}{a0 a1:D}{S:a8}(h:a6j E w0 (b9 E Q) a0 a1 S):r8 Try.prog E w0 j4 [a0,a1] S Q:=
 q9 b2u b1V b1F (fn:=Try.f62) (c:=Try.f62.body.getD .skip) mixed Try.func62 (by kernel_rfl) (by kernel_rfl) h
def b6A:List (Nat×List Nat):=[]
def b7r:List (Nat×List Nat):=[]
def b6u:List (Nat×Arr):=[]
def b2o(E:c9)(w0:g9)(Q:D→a8→Prop)(a0:D)(S:a8):Prop:=
 b4 (r6 a0) fun cs=>o9 S cs fun v0 S1=>
 b4 (some (.fn (.func W7) [] [v0])) fun v2=>
 Q v2 S1
theorem b2R{E:c9}{w0:g9}{Q:D→a8→Prop}{a0:D}{S:a8}(h:b2o E w0 (b9 E Q) a0 S):r8 Try.prog E w0 u6 [a0] S Q:=
 q9 b6A b7r b6u (fn:=Try.f63) (c:=Try.f63.body.getD .skip) mixed Try.func63 (by kernel_rfl) (by kernel_rfl) h
def a9v:List (Nat×List Nat):=[]
def a8J:List (Nat×List Nat):=[]
def a8V:List (Nat×Arr):=[]
def a3U(E:c9)(w0:g9)(Q:D→a8→Prop)(a0 c0 c1:D)(S:a8):Prop:=
 b4 (c8 S c0) fun v0=>
 b4 (d5 .leq v0 a0) fun v1=>
 b4 (d4 (b7 v1 true) (some a0)) fun v2=>
 b4 (d4 (b7 v1 true) (c8 S c1)) fun v3=>
 b4 (d4 (b7 v1 true) (d5 .leq v2 v3)) fun v4=>
 b4 (B8 v1 v4 (.bool false)) fun v5=>
 Q v5 S
theorem a7e{E:c9}{w0:g9}{Q:D→a8→Prop}{a0 c0 c1:D}{S:a8}(h:a3U E w0 (b9 E Q) a0 c0 c1 S):r8 Try.prog E w0 K8 [a0,c0,c1] S Q:=
 q9 a9v a8J a8V (fn:=Try.f88) (c:=Try.f88.body.getD .skip) mixed Try.func88 (by kernel_rfl) (by kernel_rfl) h
def b2V:List (Nat×List Nat):=[]
def b2T:List (Nat×List Nat):=[]
def b2X:List (Nat×Arr):=[]
def a7w(E:c9)(w0:g9)(Q:D→a8→Prop)(a0 c0:D)(S:a8):Prop:=
 b4 (c8 S c0) fun v0=>
 r8 Try.prog E w0 a4A [v0,a0] S fun v1 S2=>
 Q v1 S2
theorem b0p{E:c9}{w0:g9}{Q:D→a8→Prop}{a0 c0:D}{S:a8}(h:a7w E w0 (b9 E Q) a0 c0 S):r8 Try.prog E w0 W7 [a0,c0] S Q:=
 q9 b2V b2T b2X (fn:=Try.f89) (c:=Try.f89.body.getD .skip) mixed Try.func89 (by kernel_rfl) (by kernel_rfl) h
end
end Go.Proofs.Ytdkidgkiplcggaa.d
end
