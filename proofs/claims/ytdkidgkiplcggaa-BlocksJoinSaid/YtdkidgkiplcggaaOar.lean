/-
  BlocksJoinSaid: part Oar of its proof.
-/
import Derived.Test.YtdkidgkiplcggaaOaq
import Derived.Test.YtdkidgkiplcggaaRows
import Derived.KernelRfl
set_option linter.unusedVariables false
set_option linter.unusedSimpArgs false
set_option maxRecDepth 100000
section
namespace Go.Am
section
def b0I(T:List D)(dst:Option Tmp)(v:D):List D:=match dst with
 |some d=>T.set d v
 |none=>T
def a6O:List D→(List D→Prop)→Prop
 | [],k=>k []
 |a::l,k=>a6O l fun l'=>k (a::l')
def b9y:List D→Nat→(D→Prop)→Prop
 | [],_,k=>k b6
 |a::l,n,k=>match n with
  |0=>k a
  |n+1=>b9y l n k
def a7v(T:List D)(x:Operand)(k:D→Prop):Prop:=match x with
 | .tmp t=>b9y T t k
 |x=>k (j9 T x)
def b7(g:D)(want:Bool):Option Bool:=match g with
 | .bool b=>some (b==want)
 | .any=>none
 |_=>some false
def b0V(ops:Array Oper)(T:List D)(o:Oper):Option Bool:=
 match o.guard with
 |none=>some true
 |some (j,want)=>match (ops[j]?).bind (·.dst) with
  |none=>some false
  |some d=>match T[d]? with
   |some x=>b7 x want
   |none=>some false
def c8(g:Option Bool)(r:Option D):Option D:=match g with
 |some true=>r
 |some false=>some b6
 |none=>none
def a0J(r:Option Bool)(s:(D→b5→Prop)→Prop)(S:b5):(D→b5→Prop)→Prop:=match r with
 |some true=>s
 |some false=>fun Q=>Q b6 S
 |none=>fun _=>False
theorem c0q{r:Option Bool}{s:(D→b5→Prop)→Prop}{S:b5}{Q:D→b5→Prop}:a0J r s S Q=match r with
 |some true=>s Q
 |some false=>Q b6 S
 |none=>False:=by
 cases r with
 |none=>rfl
 |some b=>cases b<;>rfl
def c0w(P:Program)(ops:Array Oper)(T:List D)(S:b5)(o:Oper):Option D:=c8 (b0V ops T o) (c4K P T S o)
def b9S(P:Program)(G:DW)(ops:Array Oper)(T:List D)(S:b5)(o:Oper)(K:D→b5→Prop):Prop:=a0J (b0V ops T o) (c3Q P G T S o) S K
structure i7 where
 w:World
 X:D→b5→Prop
instance:Coe i7 World:=⟨i7.w⟩
def c5s(w:World):i7:=⟨w,fun _ _=>False⟩
def i7.at(E:d6)(w0:i7)(R:Fz):a2N:=⟨w0.w,fun v H'=>w9 H'∧∃R' S' d,R.le R'∧n9 E R' S' H'∧Rp E R' d v∧w0.X d S'⟩
def r7(P:Program)(E:d6)(w0:i7):DW:=fun f ds S Q=>∀R H avs,w9 H→n9 E R S H→o4 E R ds avs→FnW P E (w0.at E R) f avs H (I6 E R Q)
def a4O(E:d6)(w0:i7)(d:D)(S:b5):Prop:=(∃t v,d= .ifc t v)∧w0.X d S
def b0S(o:Oper):Option Operand:=match o.guard with
 |none=>match o.op with
  | .panic x=>some x
  |_=>none
 |some _=>none
def b0o(P:Program)(G:DW)(X:D→b5→Prop)(ops:Array Oper):List Oper→List D→b5→(List D→b5→Prop)→Prop
 | [],T,S,Q=>a6O T fun T=>Q T S
 |o::l,T,S,Q=>a6O T fun T=>match a5A o with
  |some x=>a7v T x fun e=>b0o P G X ops l (b0I T o.dst e) S Q
  |none=>match l7 P o with
  |0|1=>a8 (c0w P ops T S o) fun v=>b0o P G X ops l (b0I T o.dst v) S Q
  |_=>match b0S o with
   |some x=>a7v T x fun e=>X e S
   |none=>b9S P G ops T S o fun v S'=>b0o P G X ops l (b0I T o.dst v) S' Q
def B1(x:D)(S S':b5):Prop:=match a7H x with
 |some k=>S' k=S k
 |none=>True
def b4J(x:D)(S S':b5):Prop:=match a8m x with
 |some k=>S' k=S k
 |none=>True
def a9j(P:Program)(T:List D)(o:Oper)(S S':b5):Prop:=match o.op with
 | .load _ a=>B1 (j9 T a) S S'
 | .convert _ _ x=>B1 (j9 T x) S S'
 | .lookup _ x _ _=>b4J (j9 T x) S S'
 | .call c=>if c3n P c then b4J (b2L T c) S S' else True
 |_=>True
def a9z(P:Program)(o:Oper):Bool:=match o.op with
 | .load .. | .convert .. | .lookup .. =>true
 | .call c=>c3n P c
 |_=>false
def a9G(P:Program)(S':b5)(anc:Nat)(K:Prop):Nat→List (Oper×List D×b5)→Prop
 |_,[]=>K
 |j,d::ds=>if(l7 P d.1==1&&a9z P d.1)&& !anc.testBit j then a9j P d.2.1 d.1 d.2.2 S'∧a9G P S' anc K (j+1) ds else a9G P S' anc K (j+1) ds
def a7F(P:Program)(G:DW)(X:D→b5→Prop)(ops:Array Oper):List j3→List (Oper×List D×b5)→List D→b5→(List D→b5→Prop)→Prop
 | [],_,T,S,Q=>a6O T fun T=>Q T S
 |s::l,ds,T,S,Q=>a6O T fun T=>match a5A s.o with
  |some x=>a7v T x fun e=>a7F P G X ops l (ds++[(s.o,T,S)]) (b0I T s.o.dst e) S Q
  |none=>match l7 P s.o with
  |0|1=>a8 (c0w P ops T S s.o) fun v=>a7F P G X ops l (ds++[(s.o,T,S)]) (b0I T s.o.dst v) S Q
  |_=>match b0S s.o with
   |some x=>a7v T x fun e=>X e S
   |none=>b9S P G ops T S s.o fun v S'=>a9G P S' s.anc (a7F P G X ops l (ds++[(s.o,T,S)]) (b0I T s.o.dst v) S' Q) 0 ds
section
variable{P:Program}{E:d6}{w0:i7}
theorem a3m:∀ {T:List D} {k:List D→Prop},a6O T k=k T
 | [],k=>rfl
 |a::l,k=>by simp only[a6O];rw[a3m]
theorem b7K:∀ {T:List D} {n:Nat} {k:D→Prop},b9y T n k=k (T.getD n b6)
 | [],n,k=>rfl
 |a::l,0,k=>rfl
 |a::l,n+1,k=>by simp only[b9y];rw[b7K];simp
theorem b2e{T:List D}{x:Operand}{k:D→Prop}:a7v T x k=k (j9 T x):=by
 cases x<;>first|rfl|exact b7K
theorem a9R(T:List D)(dst:Option Tmp)(v:D):(b0I T dst v).length=T.length:=by
 cases dst with
 |none=>rfl
 |some d=>exact List.length_set
theorem b9M{R:Fz}{T:List D}{avs:List AV}(h:o4 E R T avs)(dst:Option Tmp){d:D}{v:AV}(hd:Rp E R d v):o4 E R (b0I T dst d) (W9 avs dst v):=by
 cases dst with
 |none=>exact h
 |some t=>exact h.set t hd
theorem a4J{R:Fz}{v:AV}:Rp E R .any v:=by simp only[Rp]
theorem c2e{F:FW}(hF:c1k F){T:List AV}{H:AHeap}{o:Oper}{K K':AV→AHeap→Prop}(hk:∀v H',K v H'→K' v H')(h:opW P E F T H o K):opW P E F T H o K':=by
 have o1:∀ {α:Type} {r:Option α} {f g:α→Prop},(∀x,f x→g x)→a8 r f→a8 r g:=by
  intro α r f g hfg h
  cases r with
  |none=>exact h
  |some x=>exact hfg x h
 have o2:∀ {r:Option (AV×AHeap)},a0y r K→a0y r K':=by
  intro r h
  cases r with
  |none=>exact h
  |some x=>exact hk _ _ h
 have rf:∀ {r:Option P0},a7f F r K→a7f F r K':=by
  intro r h
  unfold a7f at*
  split
  ·exact hk _ _ h
  ·exact hF _ _ _ _ _ h hk
  ·exact h
 obtain⟨dst,op,type,pos,after,guard⟩:=o
 cases op<;>simp only[opW]at h ⊢ <;>try (first|exact o1 (fun v hv=>hk _ _ hv) h|exact o2 h)
 case box e x=>exact hk _ _ h
 case range t x=>exact b0l hk h
 case next it s=>exact b2f hk h
 case entry it=>exact b0f hk h
 case store t a x=>
  unfold b4M at*
  split at h
  ·split at h
   ·rename_i hs
    rw[if_pos hs]
    exact o1 (fun v hv=>hk _ _ hv) h
   ·exact h.elim
  ·exact h.elim
 case makeMap t r=>
  cases r with
  |none=>exact hk _ _ h
  |some x=>exact h
 case call c=>
  cases hc:c.callee with
  |value f=>
   simp only[hc]at h ⊢
   cases f with
   |func g=>
    simp only at h ⊢
    split at h
    ·rename_i hb;rw[if_pos hb];exact hF _ _ _ _ _ h hk
    ·exact h.elim
   |tmp t=>exact rf h
   |const v=>exact rf h
   |global g=>exact rf h
  |invoke r m=>
   simp only[hc]at h ⊢
   exact rf h
  |builtin b=>
   simp only[hc]at h ⊢
   generalize c.args.toList.map (b9 T)=as1 at h ⊢
   generalize c.argTypes.toList=ts at h ⊢
   cases b<;>(try simp only at h ⊢)<;>try (exact o1 (fun v hv=>hk _ _ hv) h)
   case append=>
    rcases as1 with _|⟨s,_|⟨x,_|⟨y,as1⟩⟩⟩<;>rcases ts with _|⟨sT,_|⟨xT,_|⟨u,ts⟩⟩⟩<;>first|exact o2 h|exact o1 (fun v hv=>hk _ _ hv) h
   case copy=>
    rcases as1 with _|⟨s,_|⟨x,_|⟨y,as1⟩⟩⟩<;>rcases ts with _|⟨sT,ts⟩<;>first|exact o2 h|exact o1 (fun v hv=>hk _ _ hv) h
theorem b1I.weak{w:World}{X X':AV→AHeap→Prop}(hX:∀v H,X v H→X' v H){ρ:p4}{H:AHeap}{Q:AV→AHeap→Prop}{e:Ending}{w':World}(h:b1I E ⟨w,X⟩ ρ H Q e w'):b1I E ⟨w,X'⟩ ρ H Q e w':=by
 cases e with
 |returned u=>exact h
 |panicked c=>
  obtain⟨u,ρ',v,H',h1,h2,h3⟩:=h
  exact⟨u,ρ',v,H',h1,hX _ _ h2,h3⟩
 |outgrown=>exact h
theorem FnW.weak{w:World}{X X':AV→AHeap→Prop}(hX:∀v H,X v H→X' v H){f:FuncId}{args:List AV}{H:AHeap}{Q:AV→AHeap→Prop}(h:FnW P E ⟨w,X⟩ f args H Q):FnW P E ⟨w,X'⟩ f args H Q:=
 fun w ρ vargs R hf hr=>Calls.mono (h w ρ vargs R hf hr) fun e w' he=>he.weak hX
theorem B9.weak{w:World}{X X':AV→AHeap→Prop}(hX:∀v H,X v H→X' v H){c:Code}{T:List AV}{H:AHeap}{Q:j7→List AV→AHeap→Prop}(h:B9 P E ⟨w,X⟩ c T H Q):B9 P E ⟨w,X'⟩ c T H Q:=
 fun w ρ a R hR hf hT hk hp=>h w ρ a R hR hf hT hk fun u v ρ' H' a' w' hx=>hp u v ρ' H' a' w' (hX _ _ hx)
theorem i7.at_le{R R':Fz}(h:R.le R'):∀v H,(w0.at E R').X v H→(w0.at E R).X v H:=fun v H ⟨F,R1,S,d,a,b⟩=>⟨F,R1,S,d,Fz.le_trans h a,b⟩
theorem FnW.at_le{R R':Fz}(h:R.le R'){f:FuncId}{args:List AV}{H:AHeap}{Q:AV→AHeap→Prop}(hf:FnW P E (w0.at E R') f args H Q):FnW P E (w0.at E R) f args H Q:=FnW.weak (i7.at_le h) hf
theorem B9.at_le{R R':Fz}(h:R.le R'){c:Code}{T:List AV}{H:AHeap}{Q:j7→List AV→AHeap→Prop}(hf:B9 P E (w0.at E R') c T H Q):B9 P E (w0.at E R) c T H Q:=B9.weak (i7.at_le h) hf
theorem goF{R0 R:Fz}(h:R0.le R){S:b5}{H:AHeap}(F:w9 H)(hC:n9 E R S H):GoF E (FnW P E (w0.at E R0)) (r7 P E w0) R S H:=fun f ds avs K ha hf=>FnW.at_le h (hf R H avs F hC ha)
theorem b1D{w0:a2N}:c1k (FnW P E w0):=fun f args H Q Q' h hq=>h.mono hq
theorem a5G{R:Fz}{T:List D}{avs:List AV}(h:o4 E R T avs){ops:Array Oper}{o:Oper}{b:Bool}(hw:b0V ops T o=some b):M9 ops avs o=some b:=by
 unfold b0V at hw
 unfold M9
 cases hg:o.guard with
 |none=>rw[hg]at hw;exact hw
 |some jw=>
  obtain⟨j,want⟩:=jw
  simp only[hg]at hw ⊢
  cases hd:(ops[j]?).bind (·.dst) with
  |none=>simp only[hd]at hw ⊢;exact hw
  |some d=>
   simp only[hd]at hw ⊢
   cases hx:T[d]? with
   |none=>
    have:avs[d]? =none:=List.getElem?_eq_none (by rw[h.length];exact List.getElem?_eq_none_iff.1 hx)
    simp only[hx]at hw
    simp only[this]
    exact hw
   |some x=>
    simp only[hx]at hw
    obtain⟨v,h1,h2⟩:=a1b h hx
    simp only[h1]
    cases x<;>simp only[b7]at hw<;>try (cases hw;done)
    all_goals
     simp only[Rp]at h2
     first
      |(subst h2;exact hw)
      |(rcases h2 with ⟨_,rfl⟩|⟨o,j,cap,ex,z,rfl,_⟩<;>exact hw)
      |(obtain⟨o,j,cap,ex,z,all,rfl,_⟩:=h2;exact hw)
      |(obtain⟨o,j,all,rfl,_⟩:=h2;exact hw)
      |(obtain⟨a',b',rfl,_⟩:=h2;exact hw)
      |(obtain⟨v',rfl,_⟩:=h2;exact hw)
      |(obtain⟨_,rfl⟩:=(h2:_∧_);exact hw)
      |(obtain⟨_,j,cap,ex,all,rfl,_⟩:=(h2:_∧_);exact hw)
theorem b4A{T:List D}{o:Oper}{S S':b5}(h:a9j P T o S S'){k:Nat}(hk:a5m P T o=some k):S' k=S k:=by
 unfold a5m at hk
 unfold a9j at h
 split at hk
 ·rename_i e;simp only[e,B1,hk]at h;exact h
 ·rename_i e;simp only[e,B1,hk]at h;exact h
 ·rename_i e;simp only[e,b4J,hk]at h;exact h
 ·rename_i e
  simp only[e]at h
  split at hk
  ·rename_i hl;rw[if_pos hl]at h;simp only[b4J,hk]at h;exact h
  ·cases hk
 ·cases hk
theorem b8w{T:List D}{o:Oper}{S S':b5}(h:a9z P o=false):a9j P T o S S':=by
 unfold a9j
 split
 ·rename_i e;simp[a9z,e]at h
 ·rename_i e;simp[a9z,e]at h
 ·rename_i e;simp[a9z,e]at h
 ·rename_i e;simp only[a9z,e]at h;rw[h,if_neg (by decide)];trivial
 ·trivial
theorem b9c{R:Fz}{S:b5}{H:AHeap}{T:List D}{avs:List AV}(hT:o4 E R T avs)(hC:n9 E R S H){ops:Array Oper}{o:Oper}{d:D}(h:c0w P ops T S o=some d):
  ∃v,Rp E R d v∧∀H,Agr R S (a5m P T o) H→b8S P E ops avs H o=some v:=by
 unfold c0w c8 at h
 split at h
 ·rename_i hw
  obtain⟨v,h1,h2⟩:=c3p hT hC h
  exact⟨v,h1,fun H hA=>by unfold b8S;rw[a5G hT hw];exact h2 H hA⟩
 ·rename_i hw
  cases h
  exact⟨o5,O9,fun H hA=>by unfold b8S;rw[a5G hT hw];rfl⟩
 ·cases h
theorem b7g{F:FW}{G:DW}{R:Fz}{S:b5}{H:AHeap}(hG:GoF E F G R S H)(hF:w9 H)(hC:n9 E R S H){T:List D}{avs:List AV}(hT:o4 E R T avs){ops:Array Oper}{o:Oper}{K:D→b5→Prop}(h:b9S P G ops T S o K):b1g P E F ops avs H o (I6 E R K):=by
 unfold b9S at h
 rw[c0q]at h
 unfold b1g
 split at h
 ·rename_i hw
  rw[a5G hT hw]
  exact c3j hG hF hC hT h
 ·rename_i hw
  rw[a5G hT hw]
  exact⟨hF,R,S,b6,Fz.le_refl R,hC,O9,h⟩
 ·exact h.elim
theorem b1T{F:FW}(hF:c1k F){ops:Array Oper}{T:List AV}{H:AHeap}{o:Oper}{K K':AV→AHeap→Prop}(h:b1g P E F ops T H o K)(hk:∀v H',K v H'→K' v H'):b1g P E F ops T H o K':=by
 unfold b1g a3M at*
 split<;>rename_i e<;>rw[e]at h
 ·exact c2e hF hk h
 ·exact hk _ _ h
 ·exact h
def a1E(E:d6)(R:Fz)(n:Nat)(Q:List D→b5→Prop)(avs':List AV)(H':AHeap):Prop:=w9 H'∧∃R' S' T',R.le R'∧n9 E R' S' H'∧o4 E R' T' avs'∧T'.length=n∧Q T' S'
theorem a1E.le{R R1:Fz}(h:R.le R1){n:Nat}{Q:List D→b5→Prop}{avs':List AV}{H':AHeap}(hp:a1E E R1 n Q avs' H'):a1E E R n Q avs' H':=by
 obtain⟨F,R',S',T',a,b⟩:=hp
 exact⟨F,R',S',T',Fz.le_trans h a,b⟩
theorem b9w{R0 R:Fz}(hle:R0.le R){S:b5}{H:AHeap}{T:List D}{avs:List AV}{ops:Array Oper}(F:w9 H)(hC:n9 E R S H)(hT:o4 E R T avs){o:Oper}{x:Operand}(hx:b0S o=some x)(h:a4O E w0 (j9 T x) S){Q:AV→AHeap→Prop}:Y3 P E (w0.at E R0) ops avs H o Q:=by
 obtain⟨hp,h⟩:=h
 have hr:=f0 hT x
 obtain⟨dst,op,type,pos,after,guard⟩:=o
 unfold b0S at hx
 split at hx
 ·rename_i hg
  simp only at hg
  subst hg
  split at hx
  ·rename_i y hy
   simp only at hy
   subst hy
   cases hx
   unfold Y3 M9 a3M b3t
   simp only[N4]
   unfold c0a
   refine .inl ⟨?_,F,R,S,j9 T x,hle,hC,hr,h⟩
   obtain⟨t,v,e⟩:=hp
   rw[e]at hr
   simp only[Rp]at hr
   obtain⟨v',e',_⟩:=hr
   exact⟨t,v',e'⟩
  ·cases hx
 ·cases hx
theorem b4U{R0:Fz}{ops:Array Oper}:∀ {l:List Oper} {T:List D} {avs:List AV} {S:b5} {H:AHeap} {R:Fz} {Q:List D→b5→Prop},R0.le R→w9 H→n9 E R S H→o4 E R T avs→b0o P (r7 P E w0) (a4O E w0) ops l T S Q→a8U P E (w0.at E R0) ops l avs H (a1E E R T.length Q)
 | [],T,avs,S,H,R,Q,h0,F,hC,hT,h=>by
  simp only[b0o,a3m]at h
  exact⟨F,R,S,T,Fz.le_refl R,hC,hT,rfl,h⟩
 |o::l,T,avs,S,H,R,Q,h0,F,hC,hT,h=>by
  simp only[b0o,a3m,b2e]at h
  have next:∀ {d:D} {v:AV} {R':Fz} {S':b5} {H':AHeap},R.le R'→w9 H'→n9 E R' S' H'→Rp E R' d v→b0o P (r7 P E w0) (a4O E w0) ops l (b0I T o.dst d) S' Q→a8U P E (w0.at E R0) ops l (W9 avs o.dst v) H' (a1E E R T.length Q):=by
   intro d v R' S' H' hle F' hC' hd h'
   have:=b4U (Fz.le_trans h0 hle) F' hC' (b9M (o4.le hle _ _ hT) o.dst hd) h'
   rw[a9R]at this
   exact a9w (fun _ _=>a1E.le hle) this
  have val:l7 P o≤1→(a8 (c0w P ops T S o) fun v=>b0o P (r7 P E w0) (a4O E w0) ops l (b0I T o.dst v) S Q)→a8U P E (w0.at E R0) ops (o::l) avs H (a1E E R T.length Q):=by
   intro hk h
   unfold a8 at h
   split at h
   ·rename_i d hd
    obtain⟨v,h1,h2⟩:=b9c hT hC hd
    rw[a8U,if_pos hk]
    exact⟨v,by rw[a8g hk];exact h2 H (hC.agr _),next (Fz.le_refl R) F hC h1 h⟩
   ·exact h.elim
  cases ha:a5A o with
  |some x=>
   simp only[ha]at h
   obtain⟨hk,hv⟩:=b1G (P:=P) (E:=E) ha
   rw[a8U,if_pos (by omega)]
   exact⟨_,by rw[a8g (by omega)];exact hv ops avs H,next (Fz.le_refl R) F hC (f0 hT _) h⟩
  |none=>
   simp only[ha]at h
   rcases hk:l7 P o with _|_|k
   ·simp only[hk]at h;exact val (by omega) h
   ·simp only[hk]at h;exact val (by omega) h
   ·simp only[hk]at h
    rw[a8U,if_neg (by omega)]
    split at h
    ·rename_i x hx;exact b9w h0 F hC hT hx h
    ·refine V9 (b9t (b1T b1D (b7g (goF h0 F hC) F hC hT h) fun v H' hq=>hq)) ?_
     rintro v H' ⟨F',R',S',d,hle,hC',hd,h'⟩
     exact next hle F' hC' hd h'
def c4M(P:Program)(E:d6)(ops:Array Oper)(R:Fz)(x:Oper×List D×b5)(y:j3):Prop:=
 x.1=y.o∧(l7 P y.o=1→∃Rd:Fz,Rd.le R∧∀H',Agr Rd x.2.2 (a5m P x.2.1 x.1) H'→b8S P E ops y.T H' y.o=some y.v)
def DsC(P:Program)(E:d6)(ops:Array Oper)(R:Fz):List (Oper×List D×b5)→List j3→Prop
 | [],[]=>True
 |x::xs,y::ys=>c4M P E ops R x y∧DsC P E ops R xs ys
 |_,_=>False
theorem DsC.le{ops:Array Oper}{R R':Fz}(hle:R.le R'):∀ {xs:List (Oper×List D×b5)} {ys:List j3},DsC P E ops R xs ys→DsC P E ops R' xs ys
 | [],[],h=>h
 |x::xs,y::ys,h=>⟨⟨h.1.1,fun k=>let ⟨Rd,a,b⟩:=h.1.2 k;⟨Rd,Fz.le_trans a hle,b⟩⟩,DsC.le hle h.2⟩
 | [],_::_,h=>h.elim
 |_::_,[],h=>h.elim
theorem DsC.snoc{ops:Array Oper}{R:Fz}{x:Oper×List D×b5}{y:j3}(h1:c4M P E ops R x y):∀ {xs:List (Oper×List D×b5)} {ys:List j3},DsC P E ops R xs ys→DsC P E ops R (xs++[x]) (ys++[y])
 | [],[],h=>⟨h1,trivial⟩
 |x::xs,y::ys,h=>⟨h.1,DsC.snoc h1 h.2⟩
 | [],_::_,h=>h.elim
 |_::_,[],h=>h.elim
theorem b3N{ops:Array Oper}{R R':Fz}(hle:R.le R'){S':b5}{H':AHeap}(hC:n9 E R' S' H'){anc:Nat}{K:Prop}:∀ {xs:List (Oper×List D×b5)} {ys:List j3} {j:Nat},DsC P E ops R xs ys→a9G P S' anc K j xs→
  K∧∀(i:Nat) (d:j3),ys[i]? =some d→l7 P d.o=1→anc.testBit (j+i)=false→a7e P E ops d.T H' d.o=some d.v
 | [],[],j,_,h=>⟨h,fun i d e=>by simp at e⟩
 |x::xs,y::ys,j,⟨⟨e1,e2⟩,hd⟩,h=>by
  have step:∀(hK:a9G P S' anc K (j+1) xs),(l7 P y.o=1→anc.testBit j=false→a9j P x.2.1 x.1 x.2.2 S')→K∧∀(i:Nat) (d:j3),(y::ys)[i]? =some d→l7 P d.o=1→anc.testBit (j+i)=false→a7e P E ops d.T H' d.o=some d.v:=fun hK hf=>by
   obtain⟨k1,k2⟩:=b3N hle hC hd hK
   refine⟨k1,fun i d hi hk ha=> ?_⟩
   cases i with
   |zero=>
    simp at hi
    subst hi
    obtain⟨Rd,g1,g2⟩:=e2 hk
    have hft:=hf hk (by simpa using ha)
    rw[a8g (by omega)]
    exact g2 H' ⟨fun j cs e=>let ⟨w,pre,g⟩:=hC.frozen j cs (hle _ _ (g1 _ _ e));⟨w,pre,g⟩,fun j o' hj hjS hoc=>by
     rw[←b4A hft hj]at hjS
     obtain⟨_,⟨pre,g⟩,_⟩:=hC.cells hjS hoc
     exact⟨_,pre,g⟩,fun j o' rows hj hjS hm=>by
     rw[←b4A hft hj]at hjS
     obtain⟨_,es,cl,a,g,_⟩:=hC.mapAt hjS hm
     exact⟨es,cl,a,g⟩⟩
   |succ i=>exact k2 i d (by simpa using hi) hk (by rw[Nat.add_assoc,Nat.add_comm 1 i];exact ha)
  simp only[a9G]at h
  split at h
  ·exact step h.2 fun _ _=>h.1
  ·rename_i hc
   refine step h fun hk ha=>b8w ?_
   rw[e1]at hc ⊢
   simp only[hk,ha,Bool.not_false,Bool.and_true,beq_self_eq_true,Bool.true_and,Bool.not_eq_true]at hc
   exact hc
 | [],_::_,_,h,_=>h.elim
 |_::_,[],_,h,_=>h.elim
theorem b8v{R0:Fz}{ops:Array Oper}:∀ {l:List j3} {xs:List (Oper×List D×b5)} {ys:List j3} {T:List D} {avs:List AV} {S:b5} {H:AHeap} {R:Fz} {Q:List D→b5→Prop},R0.le R→w9 H→n9 E R S H→o4 E R T avs→DsC P E ops R xs ys→a7F P (r7 P E w0) (a4O E w0) ops l xs T S Q→a3w P E (w0.at E R0) ops l ys avs H (a1E E R T.length Q)
 | [],xs,ys,T,avs,S,H,R,Q,h0,F,hC,hT,hD,h=>by
  simp only[a7F,a3m]at h
  exact⟨F,R,S,T,Fz.le_refl R,hC,hT,rfl,h⟩
 |s::l,xs,ys,T,avs,S,H,R,Q,h0,F,hC,hT,hD,h=>by
  simp only[a7F,a3m,b2e]at h
  have next:∀ {d:D} {v:AV} {R':Fz} {S':b5} {H':AHeap},R.le R'→w9 H'→n9 E R' S' H'→Rp E R' d v→c4M P E ops R' (s.o,T,S) ⟨s.o,s.anc,avs,v,0,0,s.wr,[]⟩→a7F P (r7 P E w0) (a4O E w0) ops l (xs++[(s.o,T,S)]) (b0I T s.o.dst d) S' Q→a3w P E (w0.at E R0) ops l (ys++[⟨s.o,s.anc,avs,v,0,0,s.wr,[]⟩]) (W9 avs s.o.dst v) H' (a1E E R T.length Q):=by
   intro d v R' S' H' hle F' hC' hd he h'
   have:=b8v (Fz.le_trans h0 hle) F' hC' (b9M (o4.le hle _ _ hT) s.o.dst hd) ((hD.le hle).snoc he) h'
   rw[a9R]at this
   exact a9l (fun _ _=>a1E.le hle) this
  have val:l7 P s.o≤1→(a8 (c0w P ops T S s.o) fun v=>a7F P (r7 P E w0) (a4O E w0) ops l (xs++[(s.o,T,S)]) (b0I T s.o.dst v) S Q)→a3w P E (w0.at E R0) ops (s::l) ys avs H (a1E E R T.length Q):=by
   intro hk h
   unfold a8 at h
   split at h
   ·rename_i d hd
    obtain⟨v,h1,h2⟩:=b9c hT hC hd
    rw[a3w,if_pos hk]
    exact⟨v,by rw[a8g hk];exact h2 H (hC.agr _),next (Fz.le_refl R) F hC h1 ⟨rfl,fun _=>⟨R,Fz.le_refl R,h2⟩⟩ h⟩
   ·exact h.elim
  cases ha:a5A s.o with
  |some x=>
   simp only[ha]at h
   obtain⟨hk,hv⟩:=b1G (P:=P) (E:=E) ha
   rw[a3w,if_pos (by omega)]
   exact⟨_,by rw[a8g (by omega)];exact hv ops avs H,next (Fz.le_refl R) F hC (f0 hT _) ⟨rfl,fun hk1=>by simp only at hk1;omega⟩ h⟩
  |none=>
   simp only[ha]at h
   rcases hk:l7 P s.o with _|_|k
   ·simp only[hk]at h;exact val (by omega) h
   ·simp only[hk]at h;exact val (by omega) h
   ·simp only[hk]at h
    rw[a3w,if_neg (by omega)]
    split at h
    ·rename_i x hx;exact b9w h0 F hC hT hx h
    ·refine V9 (b9t (b1T b1D (b7g (goF h0 F hC) F hC hT h) fun v H' hq=>hq)) ?_
     rintro v H' ⟨F',R',S',d,hle,hC',hd,h'⟩
     obtain⟨k1,k2⟩:=b3N hle hC' hD h'
     exact⟨fun i d hi hk1 ha=>k2 i d hi hk1 (by rw[Nat.zero_add];exact ha),next hle F' hC' hd ⟨rfl,fun hk1=>by simp only at hk1;omega⟩ k1⟩
end
end
section
section
variable(P:Program)(E:d6)(w0:i7)
def c1j(E:d6)(R:Fz)(n:Nat)(Q:j7→List D→b5→Prop)(ex:j7)(avs':List AV)(H':AHeap):Prop:=a1E E R n (Q ex) avs' H'
def d5(c:Code)(T:List D)(S:b5)(Q:j7→List D→b5→Prop):Prop:=
 ∀R H avs,w9 H→n9 E R S H→o4 E R T avs→B9 P E (w0.at E R) c avs H (c1j E R T.length Q)
end
def V7:List D→List Nat→List D→List D
 |T,i::L,v::vs=>V7 (T.set i v) L vs
 |T,_,_=>T
def g8(n:Nat)(L:List Nat)(vs:List D):List D:=V7 (List.replicate n .any) L vs
def a3A(T:List D):List Nat→List D
 | []=>[]
 |i::L=>T.getD i b6::a3A T L
def d9(c:D)(a b:Prop):Prop:=match c with
 | .bool true=>a
 | .bool false=>b
 |_=>False
def A4(id:Nat)(Q:j7→List D→b5→Prop):j7→List D→b5→Prop
 | .exit id',T,S=>if id'=id then Q .normal T S else Q (.exit id') T S
 |e,T,S=>Q e T S
def b9m{α:Type}(k:Nat):List (Nat×α)→Option α
 | []=>none
 |(i,L)::l=>if i=k then some L else b9m k l
def hdD:Code→Option Nat
 | .region id _ _=>some (2*id)
 | .seq a b=>match hdD a with
  |some k=>some k
  |none=>hdD b
 | .cond _ a b=>match hdD a with
  |some k=>some (2*k+1)
  |none=>match hdD b with
   |some k=>some (2*k+1)
   |none=>none
 | .block _ c| .loop c=>hdD c
 |_=>none
def c5l(cuts:List (Nat×List Nat))(c:Code):Option (List Nat):=match hdD c with
 |some id=>b9m id cuts
 |none=>none
section
variable(P:Program)(E:d6)(w0:i7)(loops cuts:List (Nat×List Nat))(arrs:List (Nat×Arr))
def vcD:Code→List D→b5→(j7→List D→b5→Prop)→Prop
 | .skip,T,S,Q=>Q .normal T S
 | .label _,T,S,Q=>Q .normal T S
 | .ret,T,S,Q=>Q .ret T S
 | .exit id,T,S,Q=>Q (.exit id) T S
 | .region id ops draw,T,S,Q=>match draw with
  |false=>b0o P (r7 P E w0) (a4O E w0) ops ops.toList T S (Q .normal)
  |true=>match b9m id arrs with
   |some t=>if a3d ops&&b1Z ops then a4W P ops (fun ops' sd=>a7F P (r7 P E w0) (a4O E w0) ops' sd [] T S (Q .normal)) t []else False
   |none=>match a4t P ops ops.toList []with
    |some sd=>a7F P (r7 P E w0) (a4O E w0) ops sd [] T S (Q .normal)
    |none=>False
 | .seq a b,T,S,Q=>match c5l cuts b with
  |some L=>vcD a T S fun ex T' S'=>match ex with
   | .normal=>d5 P E w0 b (g8 T.length L (a3A T' L)) S' Q
   |e=>Q e T' S'
  |none=>vcD a T S fun ex T' S'=>match ex with
   | .normal=>vcD b T' S' Q
   |e=>Q e T' S'
 | .cond c a b,T,S,Q=>d9 (j9 T c) (vcD a T S Q) (vcD b T S Q)
 | .block id c,T,S,Q=>vcD c T S (A4 id Q)
 | .loop c,T,S,Q=>match c5l loops c with
  |some L=>d5 P E w0 (.loop c) (g8 T.length L (a3A T L)) S Q
  |none=>d5 P E w0 (.loop c) T S Q
 |_,_,_,_=>False
end
section
variable(P:Program)(E:d6)(w0:i7)(loops cuts:List (Nat×List Nat))(arrs:List (Nat×Arr))
def a1O(b:Code)(Q:j7→List D→b5→Prop)(ex:j7)(T:List D)(S:b5):Prop:=match ex with
 | .normal=>vcD P E w0 loops cuts arrs b T S Q
 |e=>Q e T S
def b8Q(n:Nat)(L:List Nat)(b:Code)(Q:j7→List D→b5→Prop)(ex:j7)(T:List D)(S:b5):Prop:=match ex with
 | .normal=>d5 P E w0 b (g8 n L (a3A T L)) S Q
 |e=>Q e T S
end
def I4(N:List D→b5→Prop)(Q:j7→List D→b5→Prop)(ex:j7)(T:List D)(S:b5):Prop:=match ex with
 | .normal=>N T S
 |e=>Q e T S
def a5R(P:Program)(S:b5)(T:List D):List ResultVar→(List D→Prop)→Prop
 | [],K=>K []
 | .tmp t::l,K=>a5R P S T l fun vs=>K (T.getD t b6::vs)
 | .cell a t::l,K=>a8 (b9I P S t (T.getD a b6)) fun v=>a5R P S T l fun vs=>K (v::vs)
def c2o:List D→D
 | [v]=>v
 |vs=> .tup vs
def R5(P:Program)(fn:Func)(Q:D→b5→Prop):j7→List D→b5→Prop
 | .exit _,_,_=>False
 |_,T,S=>a5R P S T fn.results.toList fun vs=>Q (c2o vs) S
def b8(E:d6)(Q:D→b5→Prop)(d:D)(S:b5):Prop:=
 ∀R H v,n9 E R S H→Rp E R d v→∃R' S' d',R.le R'∧n9 E R' S' H∧Rp E R' d' v∧Q d' S'
section
variable{P:Program}{E:d6}{w0:i7}
theorem d5.mono{c:Code}{T:List D}{S:b5}{Q Q':j7→List D→b5→Prop}(h:d5 P E w0 c T S Q)(hq:∀ex T' S',T'.length=T.length→Q ex T' S'→Q' ex T' S'):d5 P E w0 c T S Q':=fun R H avs F hC hT=>
 (h R H avs F hC hT).mono fun ex T' H' ⟨F',R',S',T1,a,b,c,d,e⟩=>⟨F',R',S',T1,a,b,c,d,hq _ _ _ d e⟩
theorem r7.use{f:FuncId}{ds:List D}{S:b5}{Q Q':D→b5→Prop}(h:r7 P E w0 f ds S Q)(hq:∀d S',Q d S'→Q' d S'):r7 P E w0 f ds S Q':=fun R H avs hFi hC ha=>
 (h R H avs hFi hC ha).mono fun v H' ⟨F',R',S',d,a,b,c,e⟩=>⟨F',R',S',d,a,b,c,hq _ _ e⟩
theorem a6q:∀(T:List D) (L:List Nat) (vs:List D),(V7 T L vs).length=T.length
 |T,i::L,v::vs=>by rw[V7,a6q,List.length_set]
 |T,[],_=>by simp[V7]
 |T,_::_,[]=>by simp[V7]
theorem j0(n:Nat)(L:List Nat)(vs:List D):(g8 n L vs).length=n:=by rw[g8,a6q,List.length_replicate]
theorem b9s{R:Fz}:∀ {avs:List AV},o4 E R (List.replicate avs.length .any) avs
 | []=>u5
 |v::avs=>j6 a4J b9s
theorem c3o{R:Fz}{T:List D}{avs:List AV}(h:o4 E R T avs)(L:List Nat):o4 E R (g8 T.length L (a3A T L)) avs:=by
 have main:∀(L:List Nat) (T0:List D),T0.length=T.length→o4 E R T0 avs→o4 E R (V7 T0 L (a3A T L)) avs:=by
  intro L
  induction L with
  |nil=>intro T0 hl h0;simpa [V7,a3A]using h0
  |cons i L ih=>
   intro T0 hl h0
   simp only[a3A,V7]
   refine ih _ (by rw[List.length_set,hl]) ?_
   by_cases hi:i<T.length
   ·have hlen:=h.length
    have:=h0.set i (a4M h i)
    rw[List.getD_eq_getElem?_getD (l:=avs),List.getElem?_eq_getElem (by omega),Option.getD_some,List.set_getElem_self]at this
    exact this
   ·rw[List.set_eq_of_length_le (by omega)]
    exact h0
 refine main L _ (by rw[List.length_replicate]) ?_
 rw[←h.length]
 exact b9s
theorem z7{c:Code}{T:List D}{S:b5}{Q:j7→List D→b5→Prop}{n:Nat}(L:List Nat)(hn:T.length=n)(h:d5 P E w0 c (g8 n L (a3A T L)) S Q):d5 P E w0 c T S Q:=fun R H avs F hC hT=>by
 have:=h R H avs F hC (by rw[←hn];exact c3o hT L)
 rw[j0, ←hn]at this
 exact this
theorem t8{c:Code}{Q:j7→List D→b5→Prop}{I:Nat→List D→b5→Prop}{k:Nat}
  (step:∀n T S,T.length=k→I n T S→d5 P E w0 c T S fun ex T' S'=>match ex with| .normal=>∃m,m<n∧I m T' S'|e=>Q e T' S')
  {n:Nat} {T:List D} {S:b5} (hk:T.length=k) (h:I n T S):d5 P E w0 (.loop c) T S Q:=fun R H avs F hC hT=>by
 refine b7Z (I:=fun n avs H=>a1E E R k (I n) avs H) (fun n avs H hI=> ?_) (n:=n) ⟨F,R,S,T,Fz.le_refl R,hC,hT,hk,h⟩
 obtain⟨F1,R1,S1,T1,a,b,c1,d,e⟩:=hI
 refine(B9.at_le a (step n T1 S1 d e R1 H avs F1 b c1)).mono fun ex T' H' hq=> ?_
 cases ex with
 |normal=>
  obtain⟨F2,R2,S2,T2,a2,b2,c2,d2,m,hm,e2⟩:=hq
  exact⟨m,hm,F2,R2,S2,T2,Fz.le_trans a a2,b2,c2,by rw[d2,d],e2⟩
 |exit id=>
  obtain⟨F2,R2,S2,T2,a2,b2,c2,d2,e2⟩:=hq
  exact⟨F2,R2,S2,T2,Fz.le_trans a a2,b2,c2,by rw[d2,d,hk],e2⟩
 |ret=>
  obtain⟨F2,R2,S2,T2,a2,b2,c2,d2,e2⟩:=hq
  exact⟨F2,R2,S2,T2,Fz.le_trans a a2,b2,c2,by rw[d2,d,hk],e2⟩
theorem c0P{id:Nat}{ops:Array Oper}{T:List D}{S:b5}{Q:j7→List D→b5→Prop}(h:b0o P (r7 P E w0) (a4O E w0) ops ops.toList T S (Q .normal)):d5 P E w0 (.region id ops false) T S Q:=fun R H avs F hC hT=>b5T (a8c (b4U (Fz.le_refl R) F hC hT h))
theorem b7U(hm:P.follows .mixedOrders=true){id:Nat}{ops:Array Oper}{sd:List j3}(hB:a4t P ops ops.toList []=some sd){T:List D}{S:b5}{Q:j7→List D→b5→Prop}(h:a7F P (r7 P E w0) (a4O E w0) ops sd [] T S (Q .normal)):d5 P E w0 (.region id ops true) T S Q:=fun R H avs F hC hT=>b8k hm hB (b8v (xs:=[]) (ys:=[]) (Fz.le_refl R) F hC hT trivial h)
theorem b6O(hm:P.follows .mixedOrders=true){id:Nat}{ops:Array Oper}{t:Arr}{T:List D}{S:b5}{Q:j7→List D→b5→Prop}(h:if a3d ops&&b1Z ops then a4W P ops (fun ops' sd=>a7F P (r7 P E w0) (a4O E w0) ops' sd [] T S (Q .normal)) t []else False):d5 P E w0 (.region id ops true) T S Q:=fun R H avs F hC hT=>by
 split at h
 ·rename_i hok
  simp only[Bool.and_eq_true]at hok
  exact b7n hm hok.1 hok.2 (h.mono fun ops' sd ho=>b8v (xs:=[]) (ys:=[]) (Fz.le_refl R) F hC hT trivial ho)
 ·exact h.elim
variable{loops cuts:List (Nat×List Nat)}{arrs:List (Nat×Arr)}
theorem a5o(hm:P.follows .mixedOrders=true):∀(c:Code) (T:List D) (S:b5) (Q:j7→List D→b5→Prop),vcD P E w0 loops cuts arrs c T S Q→d5 P E w0 c T S Q
 | .skip,T,S,Q,h=>fun R H avs F hC hT=>b8N ⟨F,R,S,T,Fz.le_refl R,hC,hT,rfl,h⟩
 | .label _,T,S,Q,h=>fun R H avs F hC hT=>b6A ⟨F,R,S,T,Fz.le_refl R,hC,hT,rfl,h⟩
 | .ret,T,S,Q,h=>fun R H avs F hC hT=>a9v ⟨F,R,S,T,Fz.le_refl R,hC,hT,rfl,h⟩
 | .exit id,T,S,Q,h=>fun R H avs F hC hT=>b8j ⟨F,R,S,T,Fz.le_refl R,hC,hT,rfl,h⟩
 | .region _ ops false,T,S,Q,h=>c0P h
 | .region id ops true,T,S,Q,h=>by
  change (match b9m id arrs with
   |some t=>if a3d ops&&b1Z ops then a4W P ops (fun ops' sd=>a7F P (r7 P E w0) (a4O E w0) ops' sd [] T S (Q .normal)) t []else False
   |none=>match a4t P ops ops.toList []with
    |some sd=>a7F P (r7 P E w0) (a4O E w0) ops sd [] T S (Q .normal)
    |none=>False)at h
  split at h
  ·exact b6O hm h
  ·split at h
   ·rename_i sd hB;exact b7U hm hB h
   ·exact h.elim
 | .seq a b,T,S,Q,h=>fun R H avs F hC hT=>by
  simp only[vcD]at h
  have fin:d5 P E w0 a T S (fun ex T' S'=>match ex with| .normal=>d5 P E w0 b T' S' Q|e=>Q e T' S')→B9 P E (w0.at E R) (.seq a b) avs H (c1j E R T.length Q):=by
   intro h
   refine b3Z ((h R H avs F hC hT).mono fun ex T' H' hq=> ?_)
   cases ex with
   |normal=>
    obtain⟨F2,R2,S2,T2,a2,b2,c2,d2,e2⟩:=hq
    have:=e2 R2 H' T' F2 b2 c2
    rw[d2]at this
    exact(B9.at_le a2 this).mono fun ex T' H' hq=>a1E.le a2 hq
   |exit id=>exact hq
   |ret=>exact hq
  split at h
  ·rename_i L hL
   refine fin ((a5o hm a T S _ h).mono fun ex T' S' hl hq=> ?_)
   cases ex with
   |normal=>exact z7 L hl hq
   |exit id=>exact hq
   |ret=>exact hq
  ·refine fin ((a5o hm a T S _ h).mono fun ex T' S' hl hq=> ?_)
   cases ex with
   |normal=>exact a5o hm b T' S' Q hq
   |exit id=>exact hq
   |ret=>exact hq
 | .cond c a b,T,S,Q,h=>fun R H avs F hC hT=>by
  simp only[vcD]at h
  have hr:=f0 hT c
  unfold d9 at h
  split at h
  ·rename_i e
   rw[e]at hr
   simp only[Rp]at hr
   exact b1V (by rw[hr];exact a5o hm a T S Q h R H avs F hC hT)
  ·rename_i e
   rw[e]at hr
   simp only[Rp]at hr
   exact b1V (by rw[hr];exact a5o hm b T S Q h R H avs F hC hT)
  ·exact h.elim
 | .block id c,T,S,Q,h=>fun R H avs F hC hT=>by
  refine b6L ((a5o hm c T S _ h R H avs F hC hT).mono fun ex T' H' hq=> ?_)
  cases ex with
  |normal=>exact hq
  |ret=>exact hq
  |exit id'=>
   obtain⟨F2,R2,S2,T2,a2,b2,c2,d2,e2⟩:=hq
   simp only[A4]at e2
   simp only[b8u]
   split at e2
   ·rename_i e;rw[if_pos e];exact⟨F2,R2,S2,T2,a2,b2,c2,d2,e2⟩
   ·rename_i e;rw[if_neg e];exact⟨F2,R2,S2,T2,a2,b2,c2,d2,e2⟩
 | .loop c,T,S,Q,h=>by
  simp only[vcD]at h
  split at h
  ·rename_i L hL;exact z7 L rfl h
  ·exact h
 | .rangeFunc ..,T,S,Q,h=>h.elim
 | .scope ..,T,S,Q,h=>h.elim
 | .goto ..,T,S,Q,h=>h.elim
 | .refuse ..,T,S,Q,h=>h.elim
theorem a6E{R:Fz}{S:b5}{H:AHeap}{T:List D}{avs:List AV}(hC:n9 E R S H)(hT:o4 E R T avs):∀ {l:List ResultVar} {K:List D→Prop} {K':List AV→Prop},(∀ds vs,o4 E R ds vs→K ds→K' vs)→a5R P S T l K→a0f P E H avs l K'
 | [],K,K',hk,h=>hk [] [] u5 h
 | .tmp t::l,K,K',hk,h=>by
  have:=a6E (l:=l) (K':=fun vs=>K' (avs.getD t o5::vs)) hC hT (fun ds vs hr hK=>hk (T.getD t b6::ds) (avs.getD t o5::vs) (j6 (a4M hT t) hr) hK) h
  exact this
 | .cell a t::l,K,K',hk,h=>by
  simp only[a5R]at h
  unfold a8 at h
  split at h
  ·rename_i d hd
   have ha:=a4M hT a
   obtain⟨v,h1,h2⟩:=b8Z hC ha hd
   have h2:=h2 H (hC.agr _)
   have:=a6E (l:=l) (K':=fun vs=>K' (v::vs)) hC hT (fun ds vs hr hK=>hk (d::ds) (v::vs) (j6 h1 hr) hK) h
   simp only[a0f]
   unfold b9G at h2
   split at h2
   ·rename_i o i e
    simp only[e,h2,a5M]
    exact this
   ·cases h2
  ·exact h.elim
theorem c2V{R:Fz}{ds:List D}{vs:List AV}(h:o4 E R ds vs):Rp E R (c2o ds) (b4q vs):=by
 rcases ds with _|⟨d,_|⟨d',ds⟩⟩
 ·simp only[o4]at h;subst h;exact O9
 ·simp only[o4]at h
  obtain⟨v,_,rfl,h1,rfl⟩:=h
  exact h1
 ·have h':=h
  simp only[o4]at h
  obtain⟨v,_,rfl,h1,v2,vs',rfl,h2,h3⟩:=h
  show Rp E R (.tup (d::d'::ds)) (.tup (v::v2::vs'))
  simp only[Rp]
  exact⟨_,rfl,h'⟩
theorem b6U{f:FuncId}{fn:Func}{c:Code}(hfn:P.funcs[f]? =some fn)(hb:fn.body=some c){ds:List D}{S:b5}{Q:D→b5→Prop}
  (h:d5 P E w0 c (ds++List.replicate (fn.ntmps - ds.length) b6) S (R5 P fn (b8 E Q))):r7 P E w0 f ds S Q:=fun R H avs F hC ha=>by
 have hrow:o4 E R (ds++List.replicate (fn.ntmps - ds.length) b6) (avs++List.replicate (fn.ntmps - avs.length) o5):=by
  refine ha.append ?_
  rw[ha.length]
  generalize fn.ntmps - ds.length=m
  induction m with
  |zero=>exact u5
  |succ m ih=>exact j6 O9 ih
 have h':B9 P E (w0.at E R) c (avs++List.replicate (fn.ntmps - avs.length) o5) H (c5A P E fn (I6 E R Q)):=by
  refine(h R H _ F hC hrow).mono fun ex T' H' hq=> ?_
  obtain⟨F2,R2,S2,T2,a2,b2,c2,d2,e2⟩:=hq
  have go:∀ {l:List ResultVar},a5R P S2 T2 l (fun vs=>b8 E Q (c2o vs) S2)→a0f P E H' T' l fun vs=>I6 E R Q (b4q vs) H':=fun h=>a6E b2 c2 (fun ds vs hr hK=>by
   obtain⟨R',S',d',k1,k2,k3,k4⟩:=hK R2 H' _ b2 (c2V hr)
   exact⟨F2,R',S',d',Fz.le_trans a2 k1,k2,k3,k4⟩) h
  cases ex with
  |normal=>exact go e2
  |ret=>exact go e2
  |exit id=>exact e2
 exact b7y hfn hb h'
theorem q9(loops cuts:List (Nat×List Nat))(arrs:List (Nat×Arr))(hm:P.follows .mixedOrders=true){f:FuncId}{fn:Func}{c:Code}(hfn:P.funcs[f]? =some fn)(hb:fn.body=some c){ds:List D}{S:b5}{Q:D→b5→Prop}{V:Prop}
  (e:vcD P E w0 loops cuts arrs c (ds++List.replicate (fn.ntmps - ds.length) b6) S (R5 P fn (b8 E Q))=V) (h:V):r7 P E w0 f ds S Q:=
 b6U hfn hb (a5o hm _ _ _ _ (e▸h))
theorem f9(loops cuts:List (Nat×List Nat))(arrs:List (Nat×Arr))(hm:P.follows .mixedOrders=true){c:Code}{T:List D}{S:b5}{Q:j7→List D→b5→Prop}{V:Prop}(e:vcD P E w0 loops cuts arrs c T S Q=V)(h:V):d5 P E w0 c T S Q:=
 a5o hm _ _ _ _ (e▸h)
theorem b8.here{Q:D→b5→Prop}{d:D}{S:b5}(h:Q d S):b8 E Q d S:=fun R H v hC hd=>⟨R,S,d,Fz.le_refl R,hC,hd,h⟩
theorem b8.less{Q:D→b5→Prop}{d:D}{S S':b5}(hs:S'.le S)(h:b8 E Q d S'):b8 E Q d S:=fun R H v hC hd=>h R H v (hC.less hs) hd
theorem b8.mono{Q Q':D→b5→Prop}{d:D}{S:b5}(h:b8 E Q d S)(hq:∀d S,Q d S→Q' d S):b8 E Q' d S:=fun R H v hC hd=>by
 obtain⟨R',S',d',a,b,c,e⟩:=h R H v hC hd
 exact⟨R',S',d',a,b,c,hq _ _ e⟩
theorem b8.freeze{Q:D→b5→Prop}{S:b5}{k:Nat}{o:s7}(hk:S k=some o){i len cap:Nat}{ex:Bool}{sz:Nat}(hsz:o.sz=sz)(hl:i+len≤o.rows.length)(hc:len≤cap)
  (h:b8 E Q (.lst ((o.rows.drop i).take len) sz) (S.erase k)):b8 E Q (.raw k i len cap ex sz) S:=fun R H v hC hd=>by
 have hzm:sz<E1:=by simp only[Rp]at hd;exact hd.1
 obtain⟨h1,h2⟩:=hC.freeze hk (.inl (by rw[hsz];exact hzm))
 obtain⟨R',S',d',a,b,c,e⟩:=h _ H v h1 (a2V hC hk hd hsz hl hc)
 exact⟨R',S',d',Fz.le_trans h2 a,b,c,e⟩
theorem b8.freezeT{Q:D→b5→Prop}{S:b5}{k:Nat}{o:s7}(hk:S k=some o){i len cap:Nat}{ex:Bool}{sz:Nat}(hsz:o.sz=sz)(hl:i+len≤o.rows.length)(hc:len≤cap){lp lq:List D}
  (h:b8 E Q (.tup (lp++ .lst ((o.rows.drop i).take len) sz::lq)) (S.erase k)):b8 E Q (.tup (lp++ .raw k i len cap ex sz::lq)) S:=fun R H v hC hd=>by
 simp only[Rp]at hd
 obtain⟨vs,rfl,hv⟩:=hd
 obtain⟨v1,v2,rfl,g1,g2⟩:=a0c hv
 simp only[o4]at g2
 obtain⟨w,ws,rfl,g3,g4⟩:=g2
 have hzm:sz<E1:=by simp only[Rp]at g3;exact g3.1
 obtain⟨h1,h2⟩:=hC.freeze hk (.inl (by rw[hsz];exact hzm))
 obtain⟨R',S',d',a,b,c,e⟩:=h _ H (.tup (v1++w::ws)) h1 (by
  simp only[Rp]
  exact⟨_,rfl,(o4.le h2 _ _ g1).append (j6 (a2V hC hk g3 hsz hl hc) (o4.le h2 _ _ g4))⟩)
 exact⟨R',S',d',Fz.le_trans h2 a,b,c,e⟩
theorem b8.nil{Q:D→b5→Prop}{S:b5}{sz:Nat}(h:b8 E Q (.lst [] sz) S):b8 E Q .nilSlc S:=fun R H v hC hd=>h R H v hC (by simp only[Rp]at hd ⊢;exact .inl ⟨trivial,hd⟩)
theorem b8.nilT{Q:D→b5→Prop}{S:b5}{sz:Nat}{lp lq:List D}(h:b8 E Q (.tup (lp++ .lst [] sz::lq)) S):b8 E Q (.tup (lp++ .nilSlc::lq)) S:=fun R H v hC hd=>h R H v hC (by
 simp only[Rp]at hd ⊢
 obtain⟨vs,rfl,hv⟩:=hd
 obtain⟨v1,v2,rfl,g1,g2⟩:=a0c hv
 simp only[o4]at g2
 obtain⟨w,ws,rfl,g3,g4⟩:=g2
 exact⟨_,rfl,g1.append (j6 (by simp only[Rp]at g3 ⊢;exact .inl ⟨trivial,g3⟩) g4)⟩)
def a0X(P:Program)(E:d6)(w0:i7)(f:FuncId)(ds:List D)(d:D):Prop:=∀S,r7 P E w0 f ds S fun d' S'=>d'=d∧S'=S
theorem a0X.use{f:FuncId}{ds:List D}{d:D}(h:a0X P E w0 f ds d){S:b5}{K:D→b5→Prop}(hk:K d S):r7 P E w0 f ds S K:=(h S).use fun d' S' ⟨a,b⟩=>by subst a b;exact hk
end
end
end Go.Am
end
section
open Go.Proofs Go Go.Am
namespace Go.Proofs.Ytdkidgkiplcggaa.d
section
theorem mixed:Try.prog.follows .mixedOrders=true:=by kernel_rfl
abbrev a1C:FuncId:=6
abbrev I1:FuncId:=11
abbrev E8:FuncId:=14
abbrev a0O:FuncId:=15
abbrev B5:FuncId:=18
abbrev C4:FuncId:=19
abbrev Y7:FuncId:=23
abbrev I9:FuncId:=38
abbrev H4:FuncId:=39
abbrev M0:FuncId:=40
abbrev a5W:FuncId:=41
abbrev a2e:FuncId:=42
abbrev a0R:FuncId:=44
abbrev H7:FuncId:=54
abbrev V6:FuncId:=57
abbrev a3N:FuncId:=60
abbrev r9:FuncId:=61
abbrev j5:FuncId:=62
abbrev z8:FuncId:=63
abbrev a4N:FuncId:=87
abbrev L2:FuncId:=88
abbrev X3:FuncId:=89
abbrev a4A:FuncId:=90
abbrev a4F:FuncId:=113
abbrev a5j:FuncId:=114
abbrev W2:FuncId:=132
abbrev O6:FuncId:=141
end
section
def b5k:List (Nat×List Nat):=[]
def b5H:List (Nat×List Nat):=[]
def b5M:List (Nat×Arr):=[]
def a9S(E:d6)(w0:i7)(Q:D→b5→Prop)(a0:D)(S:b5):Prop:=
 a8 (d4 .eql a0 (.int .u8 1)) fun v0=>
 d9 v0
 (Q (.int .i64 8) S)
 (a8 (d4 .eql a0 (.int .u8 2)) fun v1=>
 d9 v1
 (Q (.int .i64 32) S)
 (a8 (d4 .eql a0 (.int .u8 3)) fun v2=>
 d9 v2
 (Q (.int .i64 64) S)
 (Q (.int .i64 0) S)))
theorem b3c{E:d6}{w0:i7}{Q:D→b5→Prop}{a0:D}{S:b5}(h:a9S E w0 (b8 E Q) a0 S):r7 Try.prog E w0 a4F [a0] S Q:=
 q9 b5k b5H b5M (fn:=Try.f113) (c:=Try.f113.body.getD .skip) mixed Try.func113 (by kernel_rfl) (by kernel_rfl) h
def b5S:List (Nat×List Nat):=[]
def b4N:List (Nat×List Nat):=[]
def b5j:List (Nat×Arr):=[]
def b0c(E:d6)(w0:i7)(Q:D→b5→Prop)(a0 a1:D)(S:b5):Prop:=
 a8 (d4 .eql a0 (.int .u8 1)) fun v0=>
 d9 v0
 (a8 (U4 .i8 a1) fun v1=>
 a8 (U4 .i64 v1) fun v2=>
 Q v2 S)
 (a8 (d4 .eql a0 (.int .u8 2)) fun v3=>
 d9 v3
 (a8 (U4 .i32 a1) fun v4=>
 a8 (U4 .i64 v4) fun v5=>
 Q v5 S)
 (a8 (d4 .eql a0 (.int .u8 3)) fun v6=>
 d9 v6
 (Q a1 S)
 (Q (.int .i64 0) S)))
theorem b2m{E:d6}{w0:i7}{Q:D→b5→Prop}{a0 a1:D}{S:b5}(h:b0c E w0 (b8 E Q) a0 a1 S):r7 Try.prog E w0 a5j [a0,a1] S Q:=
 q9 b5S b4N b5j (fn:=Try.f114) (c:=Try.f114.body.getD .skip) mixed Try.func114 (by kernel_rfl) (by kernel_rfl) h
def b5Q:List (Nat×List Nat):=[]
def b4S:List (Nat×List Nat):=[]
def b5x:List (Nat×Arr):=[]
def a9W(E:d6)(w0:i7)(Q:D→b5→Prop)(a0 a1:D)(S:b5):Prop:=
 r7 Try.prog E w0 a4F [a0] S fun v0 S1=>
 a8 (d4 .gtr v0 (.int .i64 0)) fun v2=>
 a8 (c8 (b7 v2 true) (some a0)) fun v3=>
 a8 (c8 (b7 v2 true) (some a1)) fun v4=>
 a0J (b7 v2 true) (fun K=>r7 Try.prog E w0 a5j [v3,v4] S1 K) S1 fun v5 S6=>
 a8 (c8 (b7 v2 true) (some a1)) fun v7=>
 a8 (c8 (b7 v2 true) (d4 .eql v5 v7)) fun v8=>
 a8 (F5 v2 v8 (.bool false)) fun v9=>
 Q v9 S6
theorem b1h{E:d6}{w0:i7}{Q:D→b5→Prop}{a0 a1:D}{S:b5}(h:a9W E w0 (b8 E Q) a0 a1 S):r7 Try.prog E w0 a4A [a0,a1] S Q:=
 q9 b5Q b4S b5x (fn:=Try.f90) (c:=Try.f90.body.getD .skip) mixed Try.func90 (by kernel_rfl) (by kernel_rfl) h
def a3U:List (Nat×List Nat):=[(20,[0,1,2,9,29,30])]
def a3F:List (Nat×List Nat):=[]
def a3D:List (Nat×Arr):=[]
noncomputable def a2D:Code:=(j4 [1,1,1,0,1,0,0] (Try.f87.body.getD .skip))
def a2I(E:d6)(w0:i7)(Q:D→b5→Prop):j7→List D→b5→Prop:=
 (A4 1 (a1O Try.prog E w0 a3U a3F a3D (j4 [1,1,1,1] (Try.f87.body.getD .skip)) (R5 Try.prog Try.f87 Q)))
def a2P(E:d6)(w0:i7)(N0:D→D→D→D→D→D→b5→Prop)(Q:D→b5→Prop)(x0 x1 x2 x9 x29 x30:D)(S:b5):Prop:=
 a8 (d4 .lss x30 x29) fun v3=>
 d9 v3
 (a8 (d4 .add x1 x30) fun v4=>
 a8 (m9 1 x0 v4) fun v5=>
 a8 (c9 S v5) fun v6=>
 a8 (U4 .u64 v6) fun v7=>
 a8 (d4 .mul (.int .i64 8) x30) fun v8=>
 a8 (d4 .shl v7 v8) fun v9=>
 a8 (d4 .or x9 v9) fun v10=>
 a8 (d4 .add x30 (.int .i64 1)) fun v11=>
 N0 x0 x1 x2 v10 x29 v11 S)
 (a8 (d4 .add x1 x2) fun v12=>
 Q (.tup [x9,v12,(.int .i64 0)]) S)
theorem a8Y{E:d6}{w0:i7}{N0:D→D→D→D→D→D→b5→Prop}{Q:D→b5→Prop}{x0 x1 x2 x9 x29 x30:D}{S:b5}(h:a2P E w0 N0 Q x0 x1 x2 x9 x29 x30 S):
  d5 Try.prog E w0 a2D (g8 50 [0,1,2,9,29,30] [x0,x1,x2,x9,x29,x30]) S (I4 (fun T S=>N0 (T.getD 0 b6) (T.getD 1 b6) (T.getD 2 b6) (T.getD 9 b6) (T.getD 29 b6) (T.getD 30 b6) S) (a2I E w0 Q)):=f9 a3U a3F a3D mixed (by kernel_rfl) h
theorem a9i{E:d6}{w0:i7}{Q:D→b5→Prop}(I:Nat→D→D→D→D→D→D→b5→Prop)
  (step:∀n x0 x1 x2 x9 x29 x30 S,I n x0 x1 x2 x9 x29 x30 S→a2P E w0 (fun x0 x1 x2 x9 x29 x30 S=>∃m,m<n∧I m x0 x1 x2 x9 x29 x30 S) Q x0 x1 x2 x9 x29 x30 S)
  {n:Nat} {x0 x1 x2 x9 x29 x30:D} {S:b5} (h:I n x0 x1 x2 x9 x29 x30 S):d5 Try.prog E w0 (.loop a2D) (g8 50 [0,1,2,9,29,30] [x0,x1,x2,x9,x29,x30]) S (a2I E w0 Q):=
 t8 (k:=50) (n:=n) (I:=fun n T S=>I n (T.getD 0 b6) (T.getD 1 b6) (T.getD 2 b6) (T.getD 9 b6) (T.getD 29 b6) (T.getD 30 b6) S) (fun n T S hl hI=>z7 [0,1,2,9,29,30] hl (d5.mono (a8Y (step n _ _ _ _ _ _ S hI)) fun ex T' S' _ hq=>by cases ex<;>exact hq)) (j0 ..) (Eq.mp (by kernel_rfl) h)
def U7(E:d6)(w0:i7)(Q:D→b5→Prop)(x0 x1 x2 x11:D)(S:b5):Prop:=
 d9 x11
 (Q (.tup [(.int .u64 0),(.int .i64 0),(.int .i64 2)]) S)
 (a8 (j8 x0) fun v0=>
 a8 (d4 .sub v0 x1) fun v1=>
 a8 (d4 .gtr x2 v1) fun v2=>
 d9 v2
 (Q (.tup [(.int .u64 0),(.int .i64 0),(.int .i64 10)]) S)
 (d5 Try.prog E w0 (.loop a2D) (g8 50 [0,1,2,9,29,30] [x0,x1,x2,(.int .u64 0),x2,(.int .i64 0)]) S (a2I E w0 Q)))
def a9X(E:d6)(w0:i7)(Q:D→b5→Prop)(a0 a1 a2:D)(S:b5):Prop:=
 a8 (d4 .lss a2 (.int .i64 1)) fun v13=>
 d9 v13
 (U7 E w0 Q a0 a1 a2 v13 S)
 (a8 (d4 .gtr a2 (.int .i64 8)) fun v14=>
 d9 v14
 (U7 E w0 Q a0 a1 a2 v14 S)
 (a8 (d4 .lss a1 (.int .i64 0)) fun v15=>
 d9 v15
 (U7 E w0 Q a0 a1 a2 v15 S)
 (a8 (j8 a0) fun v16=>
 a8 (d4 .gtr a1 v16) fun v17=>
 U7 E w0 Q a0 a1 a2 v17 S)))
theorem b1R{E:d6}{w0:i7}{Q:D→b5→Prop}{a0 a1 a2:D}{S:b5}(h:a9X E w0 (b8 E Q) a0 a1 a2 S):r7 Try.prog E w0 a4N [a0,a1,a2] S Q:=
 q9 a3U a3F a3D (fn:=Try.f87) (c:=Try.f87.body.getD .skip) mixed Try.func87 (by kernel_rfl) (by kernel_rfl) h
def b2A:List (Nat×List Nat):=[]
def b1f:List (Nat×List Nat):=[]
def b2t:List (Nat×Arr):=[]
def a6z(E:d6)(w0:i7)(Q:D→b5→Prop)(a0 a1:D)(S:b5):Prop:=
 a8 (r5 a0) fun cs=>o8 S cs fun v0 S1=>
 a8 (r5 a1) fun cs=>o8 S1 cs fun v2 S3=>
 a8 (some (.fn (.func L2) [] [v0,v2])) fun v4=>
 Q v4 S3
theorem a9B{E:d6}{w0:i7}{Q:D→b5→Prop}{a0 a1:D}{S:b5}(h:a6z E w0 (b8 E Q) a0 a1 S):r7 Try.prog E w0 j5 [a0,a1] S Q:=
 q9 b2A b1f b2t (fn:=Try.f62) (c:=Try.f62.body.getD .skip) mixed Try.func62 (by kernel_rfl) (by kernel_rfl) h
def b7e:List (Nat×List Nat):=[]
def b7H:List (Nat×List Nat):=[]
def b6Q:List (Nat×Arr):=[]
def b1e(E:d6)(w0:i7)(Q:D→b5→Prop)(a0:D)(S:b5):Prop:=
 a8 (r5 a0) fun cs=>o8 S cs fun v0 S1=>
 a8 (some (.fn (.func X3) [] [v0])) fun v2=>
 Q v2 S1
theorem b3F{E:d6}{w0:i7}{Q:D→b5→Prop}{a0:D}{S:b5}(h:b1e E w0 (b8 E Q) a0 S):r7 Try.prog E w0 z8 [a0] S Q:=
 q9 b7e b7H b6Q (fn:=Try.f63) (c:=Try.f63.body.getD .skip) mixed Try.func63 (by kernel_rfl) (by kernel_rfl) h
def a9A:List (Nat×List Nat):=[]
def a8T:List (Nat×List Nat):=[]
def a9b:List (Nat×Arr):=[]
def a4j(E:d6)(w0:i7)(Q:D→b5→Prop)(a0 c0 c1:D)(S:b5):Prop:=
 a8 (c9 S c0) fun v0=>
 a8 (d4 .leq v0 a0) fun v1=>
 a8 (c8 (b7 v1 true) (some a0)) fun v2=>
 a8 (c8 (b7 v1 true) (c9 S c1)) fun v3=>
 a8 (c8 (b7 v1 true) (d4 .leq v2 v3)) fun v4=>
 a8 (F5 v1 v4 (.bool false)) fun v5=>
 Q v5 S
theorem a7c{E:d6}{w0:i7}{Q:D→b5→Prop}{a0 c0 c1:D}{S:b5}(h:a4j E w0 (b8 E Q) a0 c0 c1 S):r7 Try.prog E w0 L2 [a0,c0,c1] S Q:=
 q9 a9A a8T a9b (fn:=Try.f88) (c:=Try.f88.body.getD .skip) mixed Try.func88 (by kernel_rfl) (by kernel_rfl) h
def b3C:List (Nat×List Nat):=[]
def b3I:List (Nat×List Nat):=[]
def b3w:List (Nat×Arr):=[]
def a8j(E:d6)(w0:i7)(Q:D→b5→Prop)(a0 c0:D)(S:b5):Prop:=
 a8 (c9 S c0) fun v0=>
 r7 Try.prog E w0 a4A [v0,a0] S fun v1 S2=>
 Q v1 S2
theorem b0E{E:d6}{w0:i7}{Q:D→b5→Prop}{a0 c0:D}{S:b5}(h:a8j E w0 (b8 E Q) a0 c0 S):r7 Try.prog E w0 X3 [a0,c0] S Q:=
 q9 b3C b3I b3w (fn:=Try.f89) (c:=Try.f89.body.getD .skip) mixed Try.func89 (by kernel_rfl) (by kernel_rfl) h
end
end Go.Proofs.Ytdkidgkiplcggaa.d
end
