/-
  BlocksCutsSaid: part Par of its proof.
-/
import Derived.Test.YtdkidgkiplcggaaPaq
import Derived.Test.YtdkidgkiplcggaaRows
import Derived.KernelRfl
set_option linter.unusedVariables false
set_option linter.unusedSimpArgs false
set_option maxRecDepth 100000
section
namespace Go.Am
section
def b4E(T:List D)(dst:Option Tmp)(v:D):List D:=match dst with
 |some d=>T.set d v
 |none=>T
def b0c:List D→(List D→Prop)→Prop
 | [],k=>k []
 |a::l,k=>b0c l fun l'=>k (a::l')
def c4E:List D→Nat→(D→Prop)→Prop
 | [],_,k=>k b6
 |a::l,n,k=>match n with
  |0=>k a
  |n+1=>c4E l n k
def b1b(T:List D)(x:Operand)(k:D→Prop):Prop:=match x with
 | .tmp t=>c4E T t k
 |x=>k (q7 T x)
def b8(g:D)(want:Bool):Option Bool:=match g with
 | .bool b=>some (b==want)
 | .any=>none
 |_=>some false
def b5i(ops:Array Oper)(T:List D)(o:Oper):Option Bool:=
 match o.guard with
 |none=>some true
 |some (j,want)=>match (ops[j]?).bind (·.dst) with
  |none=>some false
  |some d=>match T[d]? with
   |some x=>b8 x want
   |none=>some false
def d6(g:Option Bool)(r:Option D):Option D:=match g with
 |some true=>r
 |some false=>some b6
 |none=>none
def a2B(r:Option Bool)(s:(D→b5→Prop)→Prop)(S:b5):(D→b5→Prop)→Prop:=match r with
 |some true=>s
 |some false=>fun Q=>Q b6 S
 |none=>fun _=>False
theorem c5s{r:Option Bool}{s:(D→b5→Prop)→Prop}{S:b5}{Q:D→b5→Prop}:a2B r s S Q=match r with
 |some true=>s Q
 |some false=>Q b6 S
 |none=>False:=by
 cases r with
 |none=>rfl
 |some b=>cases b<;>rfl
def c5X(P:Program)(ops:Array Oper)(T:List D)(S:b5)(o:Oper):Option D:=d6 (b5i ops T o) (c8X P T S o)
def c5j(P:Program)(G:DW)(ops:Array Oper)(T:List D)(S:b5)(o:Oper)(K:D→b5→Prop):Prop:=a2B (b5i ops T o) (c9p P G T S o) S K
structure j0 where
 w:World
 X:D→b5→Prop
instance:Coe j0 World:=⟨j0.w⟩
def d0B(w:World):j0:=⟨w,fun _ _=>False⟩
def j0.at(E:g8)(w0:j0)(R:Fz):a4P:=⟨w0.w,fun v H'=>B1 H'∧∃R' S' d,R.le R'∧s0 E R' S' H'∧Rp E R' d v∧w0.X d S'⟩
def p8(P:Program)(E:g8)(w0:j0):DW:=fun f ds S Q=>∀R H avs,B1 H→s0 E R S H→s7 E R ds avs→FnW P E (w0.at E R) f avs H (M6 E R Q)
def a8l(E:g8)(w0:j0)(d:D)(S:b5):Prop:=(∃t v,d= .ifc t v)∧w0.X d S
def b5l(o:Oper):Option Operand:=match o.guard with
 |none=>match o.op with
  | .panic x=>some x
  |_=>none
 |some _=>none
def b4D(P:Program)(G:DW)(X:D→b5→Prop)(ops:Array Oper):List Oper→List D→b5→(List D→b5→Prop)→Prop
 | [],T,S,Q=>b0c T fun T=>Q T S
 |o::l,T,S,Q=>b0c T fun T=>match a8J o with
  |some x=>b1b T x fun e=>b4D P G X ops l (b4E T o.dst e) S Q
  |none=>match r7 P o with
  |0|1=>b4 (c5X P ops T S o) fun v=>b4D P G X ops l (b4E T o.dst v) S Q
  |_=>match b5l o with
   |some x=>b1b T x fun e=>X e S
   |none=>c5j P G ops T S o fun v S'=>b4D P G X ops l (b4E T o.dst v) S' Q
def C9(x:D)(S S':b5):Prop:=match b2i x with
 |some k=>S' k=S k
 |none=>True
def b9t(x:D)(S S':b5):Prop:=match b0X x with
 |some k=>S' k=S k
 |none=>True
def b2G(P:Program)(T:List D)(o:Oper)(S S':b5):Prop:=match o.op with
 | .load _ a=>C9 (q7 T a) S S'
 | .convert _ _ x=>C9 (q7 T x) S S'
 | .lookup _ x _ _=>b9t (q7 T x) S S'
 | .call c=>if c7L P c then b9t (b5R T c) S S' else True
 |_=>True
def b2A(P:Program)(o:Oper):Bool:=match o.op with
 | .load .. | .convert .. | .lookup .. =>true
 | .call c=>c7L P c
 |_=>false
def b2Y(P:Program)(S':b5)(anc:Nat)(K:Prop):Nat→List (Oper×List D×b5)→Prop
 |_,[]=>K
 |j,d::ds=>if(r7 P d.1==1&&b2A P d.1)&& !anc.testBit j then b2G P d.2.1 d.1 d.2.2 S'∧b2Y P S' anc K (j+1) ds else b2Y P S' anc K (j+1) ds
def b0U(P:Program)(G:DW)(X:D→b5→Prop)(ops:Array Oper):List o9→List (Oper×List D×b5)→List D→b5→(List D→b5→Prop)→Prop
 | [],_,T,S,Q=>b0c T fun T=>Q T S
 |s::l,ds,T,S,Q=>b0c T fun T=>match a8J s.o with
  |some x=>b1b T x fun e=>b0U P G X ops l (ds++[(s.o,T,S)]) (b4E T s.o.dst e) S Q
  |none=>match r7 P s.o with
  |0|1=>b4 (c5X P ops T S s.o) fun v=>b0U P G X ops l (ds++[(s.o,T,S)]) (b4E T s.o.dst v) S Q
  |_=>match b5l s.o with
   |some x=>b1b T x fun e=>X e S
   |none=>c5j P G ops T S s.o fun v S'=>b2Y P S' s.anc (b0U P G X ops l (ds++[(s.o,T,S)]) (b4E T s.o.dst v) S' Q) 0 ds
section
variable{P:Program}{E:g8}{w0:j0}
theorem a5N:∀ {T:List D} {k:List D→Prop},b0c T k=k T
 | [],k=>rfl
 |a::l,k=>by simp only[b0c];rw[a5N]
theorem c2g:∀ {T:List D} {n:Nat} {k:D→Prop},c4E T n k=k (T.getD n b6)
 | [],n,k=>rfl
 |a::l,0,k=>rfl
 |a::l,n+1,k=>by simp only[c4E];rw[c2g];simp
theorem b5x{T:List D}{x:Operand}{k:D→Prop}:b1b T x k=k (q7 T x):=by
 cases x<;>first|rfl|exact c2g
theorem b3X(T:List D)(dst:Option Tmp)(v:D):(b4E T dst v).length=T.length:=by
 cases dst with
 |none=>rfl
 |some d=>exact List.length_set
theorem c4N{R:Fz}{T:List D}{avs:List AV}(h:s7 E R T avs)(dst:Option Tmp){d:D}{v:AV}(hd:Rp E R d v):s7 E R (b4E T dst d) (a0X avs dst v):=by
 cases dst with
 |none=>exact h
 |some t=>exact h.set t hd
theorem a8n{R:Fz}{v:AV}:Rp E R .any v:=by simp only[Rp]
theorem c7J{F:FW}(hF:c6v F){T:List AV}{H:AHeap}{o:Oper}{K K':AV→AHeap→Prop}(hk:∀v H',K v H'→K' v H')(h:opW P E F T H o K):opW P E F T H o K':=by
 have o1:∀ {α:Type} {r:Option α} {f g:α→Prop},(∀x,f x→g x)→b4 r f→b4 r g:=by
  intro α r f g hfg h
  cases r with
  |none=>exact h
  |some x=>exact hfg x h
 have o2:∀ {r:Option (AV×AHeap)},a2g r K→a2g r K':=by
  intro r h
  cases r with
  |none=>exact h
  |some x=>exact hk _ _ h
 have rf:∀ {r:Option W7},b0q F r K→b0q F r K':=by
  intro r h
  unfold b0q at*
  split
  ·exact hk _ _ h
  ·exact hF _ _ _ _ _ h hk
  ·exact h
 obtain⟨dst,op,type,pos,after,guard⟩:=o
 cases op<;>simp only[opW]at h ⊢ <;>try (first|exact o1 (fun v hv=>hk _ _ hv) h|exact o2 h)
 case box e x=>exact hk _ _ h
 case range t x=>exact b4j hk h
 case next it s=>exact b6B hk h
 case entry it=>exact b3P hk h
 case store t a x=>
  unfold b9I at*
  split at h
  ·split at h
   ·rename_i hs
    rw[if_pos hs]
    exact o1 (fun v hv=>hk _ _ hv) h
   ·exact h.elim
  ·exact h.elim
 case makeMap t r=>
  cases r with
  |none=>exact hk _ _ h
  |some x=>exact h
 case call c=>
  cases hc:c.callee with
  |value f=>
   simp only[hc]at h ⊢
   cases f with
   |func g=>
    simp only at h ⊢
    split at h
    ·rename_i hb;rw[if_pos hb];exact hF _ _ _ _ _ h hk
    ·exact h.elim
   |tmp t=>exact rf h
   |const v=>exact rf h
   |global g=>exact rf h
  |invoke r m=>
   simp only[hc]at h ⊢
   exact rf h
  |builtin b=>
   simp only[hc]at h ⊢
   generalize c.args.toList.map (i4 T)=as1 at h ⊢
   generalize c.argTypes.toList=ts at h ⊢
   cases b<;>(try simp only at h ⊢)<;>try (exact o1 (fun v hv=>hk _ _ hv) h)
   case append=>
    rcases as1 with _|⟨s,_|⟨x,_|⟨y,as1⟩⟩⟩<;>rcases ts with _|⟨sT,_|⟨xT,_|⟨u,ts⟩⟩⟩<;>first|exact o2 h|exact o1 (fun v hv=>hk _ _ hv) h
   case copy=>
    rcases as1 with _|⟨s,_|⟨x,_|⟨y,as1⟩⟩⟩<;>rcases ts with _|⟨sT,ts⟩<;>first|exact o2 h|exact o1 (fun v hv=>hk _ _ hv) h
theorem b5t.weak{w:World}{X X':AV→AHeap→Prop}(hX:∀v H,X v H→X' v H){ρ:u5}{H:AHeap}{Q:AV→AHeap→Prop}{e:Ending}{w':World}(h:b5t E ⟨w,X⟩ ρ H Q e w'):b5t E ⟨w,X'⟩ ρ H Q e w':=by
 cases e with
 |returned u=>exact h
 |panicked c=>
  obtain⟨u,ρ',v,H',h1,h2,h3⟩:=h
  exact⟨u,ρ',v,H',h1,hX _ _ h2,h3⟩
 |outgrown=>exact h
theorem FnW.weak{w:World}{X X':AV→AHeap→Prop}(hX:∀v H,X v H→X' v H){f:FuncId}{args:List AV}{H:AHeap}{Q:AV→AHeap→Prop}(h:FnW P E ⟨w,X⟩ f args H Q):FnW P E ⟨w,X'⟩ f args H Q:=
 fun w ρ vargs R hf hr=>Calls.mono (h w ρ vargs R hf hr) fun e w' he=>he.weak hX
theorem E6.weak{w:World}{X X':AV→AHeap→Prop}(hX:∀v H,X v H→X' v H){c:Code}{T:List AV}{H:AHeap}{Q:j7→List AV→AHeap→Prop}(h:E6 P E ⟨w,X⟩ c T H Q):E6 P E ⟨w,X'⟩ c T H Q:=
 fun w ρ a R hR hf hT hk hp=>h w ρ a R hR hf hT hk fun u v ρ' H' a' w' hx=>hp u v ρ' H' a' w' (hX _ _ hx)
theorem j0.at_le{R R':Fz}(h:R.le R'):∀v H,(w0.at E R').X v H→(w0.at E R).X v H:=fun v H ⟨F,R1,S,d,a,b⟩=>⟨F,R1,S,d,Fz.le_trans h a,b⟩
theorem FnW.at_le{R R':Fz}(h:R.le R'){f:FuncId}{args:List AV}{H:AHeap}{Q:AV→AHeap→Prop}(hf:FnW P E (w0.at E R') f args H Q):FnW P E (w0.at E R) f args H Q:=FnW.weak (j0.at_le h) hf
theorem E6.at_le{R R':Fz}(h:R.le R'){c:Code}{T:List AV}{H:AHeap}{Q:j7→List AV→AHeap→Prop}(hf:E6 P E (w0.at E R') c T H Q):E6 P E (w0.at E R) c T H Q:=E6.weak (j0.at_le h) hf
theorem goF{R0 R:Fz}(h:R0.le R){S:b5}{H:AHeap}(F:B1 H)(hC:s0 E R S H):GoF E (FnW P E (w0.at E R0)) (p8 P E w0) R S H:=fun f ds avs K ha hf=>FnW.at_le h (hf R H avs F hC ha)
theorem b5n{w0:a4P}:c6v (FnW P E w0):=fun f args H Q Q' h hq=>h.mono hq
theorem a8r{R:Fz}{T:List D}{avs:List AV}(h:s7 E R T avs){ops:Array Oper}{o:Oper}{b:Bool}(hw:b5i ops T o=some b):U8 ops avs o=some b:=by
 unfold b5i at hw
 unfold U8
 cases hg:o.guard with
 |none=>rw[hg]at hw;exact hw
 |some jw=>
  obtain⟨j,want⟩:=jw
  simp only[hg]at hw ⊢
  cases hd:(ops[j]?).bind (·.dst) with
  |none=>simp only[hd]at hw ⊢;exact hw
  |some d=>
   simp only[hd]at hw ⊢
   cases hx:T[d]? with
   |none=>
    have:avs[d]? =none:=List.getElem?_eq_none (by rw[h.length];exact List.getElem?_eq_none_iff.1 hx)
    simp only[hx]at hw
    simp only[this]
    exact hw
   |some x=>
    simp only[hx]at hw
    obtain⟨v,h1,h2⟩:=a2N h hx
    simp only[h1]
    cases x<;>simp only[b8]at hw<;>try (cases hw;done)
    all_goals
     simp only[Rp]at h2
     first
      |(subst h2;exact hw)
      |(rcases h2 with ⟨_,rfl⟩|⟨o,j,cap,ex,z,rfl,_⟩<;>exact hw)
      |(obtain⟨o,j,cap,ex,z,all,rfl,_⟩:=h2;exact hw)
      |(obtain⟨o,j,all,rfl,_⟩:=h2;exact hw)
      |(obtain⟨a',b',rfl,_⟩:=h2;exact hw)
      |(obtain⟨v',rfl,_⟩:=h2;exact hw)
      |(obtain⟨_,rfl⟩:=(h2:_∧_);exact hw)
      |(obtain⟨_,j,cap,ex,all,rfl,_⟩:=(h2:_∧_);exact hw)
theorem b9o{T:List D}{o:Oper}{S S':b5}(h:b2G P T o S S'){k:Nat}(hk:a7V P T o=some k):S' k=S k:=by
 unfold a7V at hk
 unfold b2G at h
 split at hk
 ·rename_i e;simp only[e,C9,hk]at h;exact h
 ·rename_i e;simp only[e,C9,hk]at h;exact h
 ·rename_i e;simp only[e,b9t,hk]at h;exact h
 ·rename_i e
  simp only[e]at h
  split at hk
  ·rename_i hl;rw[if_pos hl]at h;simp only[b9t,hk]at h;exact h
  ·cases hk
 ·cases hk
theorem c4e{T:List D}{o:Oper}{S S':b5}(h:b2A P o=false):b2G P T o S S':=by
 unfold b2G
 split
 ·rename_i e;simp[b2A,e]at h
 ·rename_i e;simp[b2A,e]at h
 ·rename_i e;simp[b2A,e]at h
 ·rename_i e;simp only[b2A,e]at h;rw[h,if_neg (by decide)];trivial
 ·trivial
theorem c4V{R:Fz}{S:b5}{H:AHeap}{T:List D}{avs:List AV}(hT:s7 E R T avs)(hC:s0 E R S H){ops:Array Oper}{o:Oper}{d:D}(h:c5X P ops T S o=some d):
  ∃v,Rp E R d v∧∀H,Agr R S (a7V P T o) H→c2Z P E ops avs H o=some v:=by
 unfold c5X d6 at h
 split at h
 ·rename_i hw
  obtain⟨v,h1,h2⟩:=c8w hT hC h
  exact⟨v,h1,fun H hA=>by unfold c2Z;rw[a8r hT hw];exact h2 H hA⟩
 ·rename_i hw
  cases h
  exact⟨s8,W8,fun H hA=>by unfold c2Z;rw[a8r hT hw];rfl⟩
 ·cases h
theorem c1z{F:FW}{G:DW}{R:Fz}{S:b5}{H:AHeap}(hG:GoF E F G R S H)(hF:B1 H)(hC:s0 E R S H){T:List D}{avs:List AV}(hT:s7 E R T avs){ops:Array Oper}{o:Oper}{K:D→b5→Prop}(h:c5j P G ops T S o K):b6S P E F ops avs H o (M6 E R K):=by
 unfold c5j at h
 rw[c5s]at h
 unfold b6S
 split at h
 ·rename_i hw
  rw[a8r hT hw]
  exact c8v hG hF hC hT h
 ·rename_i hw
  rw[a8r hT hw]
  exact⟨hF,R,S,b6,Fz.le_refl R,hC,W8,h⟩
 ·exact h.elim
theorem b7A{F:FW}(hF:c6v F){ops:Array Oper}{T:List AV}{H:AHeap}{o:Oper}{K K':AV→AHeap→Prop}(h:b6S P E F ops T H o K)(hk:∀v H',K v H'→K' v H'):b6S P E F ops T H o K':=by
 unfold b6S a6g at*
 split<;>rename_i e<;>rw[e]at h
 ·exact c7J hF hk h
 ·exact hk _ _ h
 ·exact h
def a3i(E:g8)(R:Fz)(n:Nat)(Q:List D→b5→Prop)(avs':List AV)(H':AHeap):Prop:=B1 H'∧∃R' S' T',R.le R'∧s0 E R' S' H'∧s7 E R' T' avs'∧T'.length=n∧Q T' S'
theorem a3i.le{R R1:Fz}(h:R.le R1){n:Nat}{Q:List D→b5→Prop}{avs':List AV}{H':AHeap}(hp:a3i E R1 n Q avs' H'):a3i E R n Q avs' H':=by
 obtain⟨F,R',S',T',a,b⟩:=hp
 exact⟨F,R',S',T',Fz.le_trans h a,b⟩
theorem c4m{R0 R:Fz}(hle:R0.le R){S:b5}{H:AHeap}{T:List D}{avs:List AV}{ops:Array Oper}(F:B1 H)(hC:s0 E R S H)(hT:s7 E R T avs){o:Oper}{x:Operand}(hx:b5l o=some x)(h:a8l E w0 (q7 T x) S){Q:AV→AHeap→Prop}:a1t P E (w0.at E R0) ops avs H o Q:=by
 obtain⟨hp,h⟩:=h
 have hr:=j8 hT x
 obtain⟨dst,op,type,pos,after,guard⟩:=o
 unfold b5l at hx
 split at hx
 ·rename_i hg
  simp only at hg
  subst hg
  split at hx
  ·rename_i y hy
   simp only at hy
   subst hy
   cases hx
   unfold a1t U8 a6g b7Z
   simp only[V8]
   unfold c5S
   refine .inl ⟨?_,F,R,S,q7 T x,hle,hC,hr,h⟩
   obtain⟨t,v,e⟩:=hp
   rw[e]at hr
   simp only[Rp]at hr
   obtain⟨v',e',_⟩:=hr
   exact⟨t,v',e'⟩
  ·cases hx
 ·cases hx
theorem b9U{R0:Fz}{ops:Array Oper}:∀ {l:List Oper} {T:List D} {avs:List AV} {S:b5} {H:AHeap} {R:Fz} {Q:List D→b5→Prop},R0.le R→B1 H→s0 E R S H→s7 E R T avs→b4D P (p8 P E w0) (a8l E w0) ops l T S Q→b3x P E (w0.at E R0) ops l avs H (a3i E R T.length Q)
 | [],T,avs,S,H,R,Q,h0,F,hC,hT,h=>by
  simp only[b4D,a5N]at h
  exact⟨F,R,S,T,Fz.le_refl R,hC,hT,rfl,h⟩
 |o::l,T,avs,S,H,R,Q,h0,F,hC,hT,h=>by
  simp only[b4D,a5N,b5x]at h
  have next:∀ {d:D} {v:AV} {R':Fz} {S':b5} {H':AHeap},R.le R'→B1 H'→s0 E R' S' H'→Rp E R' d v→b4D P (p8 P E w0) (a8l E w0) ops l (b4E T o.dst d) S' Q→b3x P E (w0.at E R0) ops l (a0X avs o.dst v) H' (a3i E R T.length Q):=by
   intro d v R' S' H' hle F' hC' hd h'
   have:=b9U (Fz.le_trans h0 hle) F' hC' (c4N (s7.le hle _ _ hT) o.dst hd) h'
   rw[b3X]at this
   exact b3A (fun _ _=>a3i.le hle) this
  have val:r7 P o≤1→(b4 (c5X P ops T S o) fun v=>b4D P (p8 P E w0) (a8l E w0) ops l (b4E T o.dst v) S Q)→b3x P E (w0.at E R0) ops (o::l) avs H (a3i E R T.length Q):=by
   intro hk h
   unfold b4 at h
   split at h
   ·rename_i d hd
    obtain⟨v,h1,h2⟩:=c4V hT hC hd
    rw[b3x,if_pos hk]
    exact⟨v,by rw[b1V hk];exact h2 H (hC.agr _),next (Fz.le_refl R) F hC h1 h⟩
   ·exact h.elim
  cases ha:a8J o with
  |some x=>
   simp only[ha]at h
   obtain⟨hk,hv⟩:=b5W (P:=P) (E:=E) ha
   rw[b3x,if_pos (by omega)]
   exact⟨_,by rw[b1V (by omega)];exact hv ops avs H,next (Fz.le_refl R) F hC (j8 hT _) h⟩
  |none=>
   simp only[ha]at h
   rcases hk:r7 P o with _|_|k
   ·simp only[hk]at h;exact val (by omega) h
   ·simp only[hk]at h;exact val (by omega) h
   ·simp only[hk]at h
    rw[b3x,if_neg (by omega)]
    split at h
    ·rename_i x hx;exact c4m h0 F hC hT hx h
    ·refine a0I (c4h (b7A b5n (c1z (goF h0 F hC) F hC hT h) fun v H' hq=>hq)) ?_
     rintro v H' ⟨F',R',S',d,hle,hC',hd,h'⟩
     exact next hle F' hC' hd h'
def c9C(P:Program)(E:g8)(ops:Array Oper)(R:Fz)(x:Oper×List D×b5)(y:o9):Prop:=
 x.1=y.o∧(r7 P y.o=1→∃Rd:Fz,Rd.le R∧∀H',Agr Rd x.2.2 (a7V P x.2.1 x.1) H'→c2Z P E ops y.T H' y.o=some y.v)
def DsC(P:Program)(E:g8)(ops:Array Oper)(R:Fz):List (Oper×List D×b5)→List o9→Prop
 | [],[]=>True
 |x::xs,y::ys=>c9C P E ops R x y∧DsC P E ops R xs ys
 |_,_=>False
theorem DsC.le{ops:Array Oper}{R R':Fz}(hle:R.le R'):∀ {xs:List (Oper×List D×b5)} {ys:List o9},DsC P E ops R xs ys→DsC P E ops R' xs ys
 | [],[],h=>h
 |x::xs,y::ys,h=>⟨⟨h.1.1,fun k=>let ⟨Rd,a,b⟩:=h.1.2 k;⟨Rd,Fz.le_trans a hle,b⟩⟩,DsC.le hle h.2⟩
 | [],_::_,h=>h.elim
 |_::_,[],h=>h.elim
theorem DsC.snoc{ops:Array Oper}{R:Fz}{x:Oper×List D×b5}{y:o9}(h1:c9C P E ops R x y):∀ {xs:List (Oper×List D×b5)} {ys:List o9},DsC P E ops R xs ys→DsC P E ops R (xs++[x]) (ys++[y])
 | [],[],h=>⟨h1,trivial⟩
 |x::xs,y::ys,h=>⟨h.1,DsC.snoc h1 h.2⟩
 | [],_::_,h=>h.elim
 |_::_,[],h=>h.elim
theorem b8E{ops:Array Oper}{R R':Fz}(hle:R.le R'){S':b5}{H':AHeap}(hC:s0 E R' S' H'){anc:Nat}{K:Prop}:∀ {xs:List (Oper×List D×b5)} {ys:List o9} {j:Nat},DsC P E ops R xs ys→b2Y P S' anc K j xs→
  K∧∀(i:Nat) (d:o9),ys[i]? =some d→r7 P d.o=1→anc.testBit (j+i)=false→b0x P E ops d.T H' d.o=some d.v
 | [],[],j,_,h=>⟨h,fun i d e=>by simp at e⟩
 |x::xs,y::ys,j,⟨⟨e1,e2⟩,hd⟩,h=>by
  have step:∀(hK:b2Y P S' anc K (j+1) xs),(r7 P y.o=1→anc.testBit j=false→b2G P x.2.1 x.1 x.2.2 S')→K∧∀(i:Nat) (d:o9),(y::ys)[i]? =some d→r7 P d.o=1→anc.testBit (j+i)=false→b0x P E ops d.T H' d.o=some d.v:=fun hK hf=>by
   obtain⟨k1,k2⟩:=b8E hle hC hd hK
   refine⟨k1,fun i d hi hk ha=> ?_⟩
   cases i with
   |zero=>
    simp at hi
    subst hi
    obtain⟨Rd,g1,g2⟩:=e2 hk
    have hft:=hf hk (by simpa using ha)
    rw[b1V (by omega)]
    exact g2 H' ⟨fun j cs e=>let ⟨w,pre,g⟩:=hC.frozen j cs (hle _ _ (g1 _ _ e));⟨w,pre,g⟩,fun j o' hj hjS hoc=>by
     rw[←b9o hft hj]at hjS
     obtain⟨_,⟨pre,g⟩,_⟩:=hC.cells hjS hoc
     exact⟨_,pre,g⟩,fun j o' rows hj hjS hm=>by
     rw[←b9o hft hj]at hjS
     obtain⟨_,es,cl,a,g,_⟩:=hC.mapAt hjS hm
     exact⟨es,cl,a,g⟩⟩
   |succ i=>exact k2 i d (by simpa using hi) hk (by rw[Nat.add_assoc,Nat.add_comm 1 i];exact ha)
  simp only[b2Y]at h
  split at h
  ·exact step h.2 fun _ _=>h.1
  ·rename_i hc
   refine step h fun hk ha=>c4e ?_
   rw[e1]at hc ⊢
   simp only[hk,ha,Bool.not_false,Bool.and_true,beq_self_eq_true,Bool.true_and,Bool.not_eq_true]at hc
   exact hc
 | [],_::_,_,h,_=>h.elim
 |_::_,[],_,h,_=>h.elim
theorem c3v{R0:Fz}{ops:Array Oper}:∀ {l:List o9} {xs:List (Oper×List D×b5)} {ys:List o9} {T:List D} {avs:List AV} {S:b5} {H:AHeap} {R:Fz} {Q:List D→b5→Prop},R0.le R→B1 H→s0 E R S H→s7 E R T avs→DsC P E ops R xs ys→b0U P (p8 P E w0) (a8l E w0) ops l xs T S Q→a6s P E (w0.at E R0) ops l ys avs H (a3i E R T.length Q)
 | [],xs,ys,T,avs,S,H,R,Q,h0,F,hC,hT,hD,h=>by
  simp only[b0U,a5N]at h
  exact⟨F,R,S,T,Fz.le_refl R,hC,hT,rfl,h⟩
 |s::l,xs,ys,T,avs,S,H,R,Q,h0,F,hC,hT,hD,h=>by
  simp only[b0U,a5N,b5x]at h
  have next:∀ {d:D} {v:AV} {R':Fz} {S':b5} {H':AHeap},R.le R'→B1 H'→s0 E R' S' H'→Rp E R' d v→c9C P E ops R' (s.o,T,S) ⟨s.o,s.anc,avs,v,0,0,s.wr,[]⟩→b0U P (p8 P E w0) (a8l E w0) ops l (xs++[(s.o,T,S)]) (b4E T s.o.dst d) S' Q→a6s P E (w0.at E R0) ops l (ys++[⟨s.o,s.anc,avs,v,0,0,s.wr,[]⟩]) (a0X avs s.o.dst v) H' (a3i E R T.length Q):=by
   intro d v R' S' H' hle F' hC' hd he h'
   have:=c3v (Fz.le_trans h0 hle) F' hC' (c4N (s7.le hle _ _ hT) s.o.dst hd) ((hD.le hle).snoc he) h'
   rw[b3X]at this
   exact b3v (fun _ _=>a3i.le hle) this
  have val:r7 P s.o≤1→(b4 (c5X P ops T S s.o) fun v=>b0U P (p8 P E w0) (a8l E w0) ops l (xs++[(s.o,T,S)]) (b4E T s.o.dst v) S Q)→a6s P E (w0.at E R0) ops (s::l) ys avs H (a3i E R T.length Q):=by
   intro hk h
   unfold b4 at h
   split at h
   ·rename_i d hd
    obtain⟨v,h1,h2⟩:=c4V hT hC hd
    rw[a6s,if_pos hk]
    exact⟨v,by rw[b1V hk];exact h2 H (hC.agr _),next (Fz.le_refl R) F hC h1 ⟨rfl,fun _=>⟨R,Fz.le_refl R,h2⟩⟩ h⟩
   ·exact h.elim
  cases ha:a8J s.o with
  |some x=>
   simp only[ha]at h
   obtain⟨hk,hv⟩:=b5W (P:=P) (E:=E) ha
   rw[a6s,if_pos (by omega)]
   exact⟨_,by rw[b1V (by omega)];exact hv ops avs H,next (Fz.le_refl R) F hC (j8 hT _) ⟨rfl,fun hk1=>by simp only at hk1;omega⟩ h⟩
  |none=>
   simp only[ha]at h
   rcases hk:r7 P s.o with _|_|k
   ·simp only[hk]at h;exact val (by omega) h
   ·simp only[hk]at h;exact val (by omega) h
   ·simp only[hk]at h
    rw[a6s,if_neg (by omega)]
    split at h
    ·rename_i x hx;exact c4m h0 F hC hT hx h
    ·refine a0I (c4h (b7A b5n (c1z (goF h0 F hC) F hC hT h) fun v H' hq=>hq)) ?_
     rintro v H' ⟨F',R',S',d,hle,hC',hd,h'⟩
     obtain⟨k1,k2⟩:=b8E hle hC' hD h'
     exact⟨fun i d hi hk1 ha=>k2 i d hi hk1 (by rw[Nat.zero_add];exact ha),next hle F' hC' hd ⟨rfl,fun hk1=>by simp only at hk1;omega⟩ k1⟩
end
end
section
section
variable(P:Program)(E:g8)(w0:j0)
def c7l(E:g8)(R:Fz)(n:Nat)(Q:j7→List D→b5→Prop)(ex:j7)(avs':List AV)(H':AHeap):Prop:=a3i E R n (Q ex) avs' H'
def f9(c:Code)(T:List D)(S:b5)(Q:j7→List D→b5→Prop):Prop:=
 ∀R H avs,B1 H→s0 E R S H→s7 E R T avs→E6 P E (w0.at E R) c avs H (c7l E R T.length Q)
end
def a0K:List D→List Nat→List D→List D
 |T,i::L,v::vs=>a0K (T.set i v) L vs
 |T,_,_=>T
def i7(n:Nat)(L:List Nat)(vs:List D):List D:=a0K (List.replicate n .any) L vs
def a5W(T:List D):List Nat→List D
 | []=>[]
 |i::L=>T.getD i b6::a5W T L
def i5(c:D)(a b:Prop):Prop:=match c with
 | .bool true=>a
 | .bool false=>b
 |_=>False
def p5(id:Nat)(Q:j7→List D→b5→Prop):j7→List D→b5→Prop
 | .exit id',T,S=>if id'=id then Q .normal T S else Q (.exit id') T S
 |e,T,S=>Q e T S
def c5a{α:Type}(k:Nat):List (Nat×α)→Option α
 | []=>none
 |(i,L)::l=>if i=k then some L else c5a k l
def hdD:Code→Option Nat
 | .region id _ _=>some (2*id)
 | .seq a b=>match hdD a with
  |some k=>some k
  |none=>hdD b
 | .cond _ a b=>match hdD a with
  |some k=>some (2*k+1)
  |none=>match hdD b with
   |some k=>some (2*k+1)
   |none=>none
 | .block _ c| .loop c=>hdD c
 |_=>none
def d0E(cuts:List (Nat×List Nat))(c:Code):Option (List Nat):=match hdD c with
 |some id=>c5a id cuts
 |none=>none
section
variable(P:Program)(E:g8)(w0:j0)(loops cuts:List (Nat×List Nat))(arrs:List (Nat×Arr))
def vcD:Code→List D→b5→(j7→List D→b5→Prop)→Prop
 | .skip,T,S,Q=>Q .normal T S
 | .label _,T,S,Q=>Q .normal T S
 | .ret,T,S,Q=>Q .ret T S
 | .exit id,T,S,Q=>Q (.exit id) T S
 | .region id ops draw,T,S,Q=>match draw with
  |false=>b4D P (p8 P E w0) (a8l E w0) ops ops.toList T S (Q .normal)
  |true=>match c5a id arrs with
   |some t=>if a5m ops&&b6q ops then a7B P ops (fun ops' sd=>b0U P (p8 P E w0) (a8l E w0) ops' sd [] T S (Q .normal)) t []else False
   |none=>match a8p P ops ops.toList []with
    |some sd=>b0U P (p8 P E w0) (a8l E w0) ops sd [] T S (Q .normal)
    |none=>False
 | .seq a b,T,S,Q=>match d0E cuts b with
  |some L=>vcD a T S fun ex T' S'=>match ex with
   | .normal=>f9 P E w0 b (i7 T.length L (a5W T' L)) S' Q
   |e=>Q e T' S'
  |none=>vcD a T S fun ex T' S'=>match ex with
   | .normal=>vcD b T' S' Q
   |e=>Q e T' S'
 | .cond c a b,T,S,Q=>i5 (q7 T c) (vcD a T S Q) (vcD b T S Q)
 | .block id c,T,S,Q=>vcD c T S (p5 id Q)
 | .loop c,T,S,Q=>match d0E loops c with
  |some L=>f9 P E w0 (.loop c) (i7 T.length L (a5W T L)) S Q
  |none=>f9 P E w0 (.loop c) T S Q
 |_,_,_,_=>False
end
section
variable(P:Program)(E:g8)(w0:j0)(loops cuts:List (Nat×List Nat))(arrs:List (Nat×Arr))
def L4(b:Code)(Q:j7→List D→b5→Prop)(ex:j7)(T:List D)(S:b5):Prop:=match ex with
 | .normal=>vcD P E w0 loops cuts arrs b T S Q
 |e=>Q e T S
def c0t(n:Nat)(L:List Nat)(b:Code)(Q:j7→List D→b5→Prop)(ex:j7)(T:List D)(S:b5):Prop:=match ex with
 | .normal=>f9 P E w0 b (i7 n L (a5W T L)) S Q
 |e=>Q e T S
end
def A3(N:List D→b5→Prop)(Q:j7→List D→b5→Prop)(ex:j7)(T:List D)(S:b5):Prop:=match ex with
 | .normal=>N T S
 |e=>Q e T S
def a8z(P:Program)(S:b5)(T:List D):List ResultVar→(List D→Prop)→Prop
 | [],K=>K []
 | .tmp t::l,K=>a8z P S T l fun vs=>K (T.getD t b6::vs)
 | .cell a t::l,K=>b4 (c4y P S t (T.getD a b6)) fun v=>a8z P S T l fun vs=>K (v::vs)
def c6F:List D→D
 | [v]=>v
 |vs=> .tup vs
def F5(P:Program)(fn:Func)(Q:D→b5→Prop):j7→List D→b5→Prop
 | .exit _,_,_=>False
 |_,T,S=>a8z P S T fn.results.toList fun vs=>Q (c6F vs) S
def b9(E:g8)(Q:D→b5→Prop)(d:D)(S:b5):Prop:=
 ∀R H v,s0 E R S H→Rp E R d v→∃R' S' d',R.le R'∧s0 E R' S' H∧Rp E R' d' v∧Q d' S'
section
variable{P:Program}{E:g8}{w0:j0}
theorem f9.mono{c:Code}{T:List D}{S:b5}{Q Q':j7→List D→b5→Prop}(h:f9 P E w0 c T S Q)(hq:∀ex T' S',T'.length=T.length→Q ex T' S'→Q' ex T' S'):f9 P E w0 c T S Q':=fun R H avs F hC hT=>
 (h R H avs F hC hT).mono fun ex T' H' ⟨F',R',S',T1,a,b,c,d,e⟩=>⟨F',R',S',T1,a,b,c,d,hq _ _ _ d e⟩
theorem p8.use{f:FuncId}{ds:List D}{S:b5}{Q Q':D→b5→Prop}(h:p8 P E w0 f ds S Q)(hq:∀d S',Q d S'→Q' d S'):p8 P E w0 f ds S Q':=fun R H avs hFi hC ha=>
 (h R H avs hFi hC ha).mono fun v H' ⟨F',R',S',d,a,b,c,e⟩=>⟨F',R',S',d,a,b,c,hq _ _ e⟩
theorem a9A:∀(T:List D) (L:List Nat) (vs:List D),(a0K T L vs).length=T.length
 |T,i::L,v::vs=>by rw[a0K,a9A,List.length_set]
 |T,[],_=>by simp[a0K]
 |T,_::_,[]=>by simp[a0K]
theorem j2(n:Nat)(L:List Nat)(vs:List D):(i7 n L vs).length=n:=by rw[i7,a9A,List.length_replicate]
theorem c4J{R:Fz}:∀ {avs:List AV},s7 E R (List.replicate avs.length .any) avs
 | []=>A7
 |v::avs=>q9 a8n c4J
theorem c7Z{R:Fz}{T:List D}{avs:List AV}(h:s7 E R T avs)(L:List Nat):s7 E R (i7 T.length L (a5W T L)) avs:=by
 have main:∀(L:List Nat) (T0:List D),T0.length=T.length→s7 E R T0 avs→s7 E R (a0K T0 L (a5W T L)) avs:=by
  intro L
  induction L with
  |nil=>intro T0 hl h0;simpa [a0K,a5W]using h0
  |cons i L ih=>
   intro T0 hl h0
   simp only[a5W,a0K]
   refine ih _ (by rw[List.length_set,hl]) ?_
   by_cases hi:i<T.length
   ·have hlen:=h.length
    have:=h0.set i (a7C h i)
    rw[List.getD_eq_getElem?_getD (l:=avs),List.getElem?_eq_getElem (by omega),Option.getD_some,List.set_getElem_self]at this
    exact this
   ·rw[List.set_eq_of_length_le (by omega)]
    exact h0
 refine main L _ (by rw[List.length_replicate]) ?_
 rw[←h.length]
 exact c4J
theorem q8{c:Code}{T:List D}{S:b5}{Q:j7→List D→b5→Prop}{n:Nat}(L:List Nat)(hn:T.length=n)(h:f9 P E w0 c (i7 n L (a5W T L)) S Q):f9 P E w0 c T S Q:=fun R H avs F hC hT=>by
 have:=h R H avs F hC (by rw[←hn];exact c7Z hT L)
 rw[j2, ←hn]at this
 exact this
theorem o4{c:Code}{Q:j7→List D→b5→Prop}{I:Nat→List D→b5→Prop}{k:Nat}
  (step:∀n T S,T.length=k→I n T S→f9 P E w0 c T S fun ex T' S'=>match ex with| .normal=>∃m,m<n∧I m T' S'|e=>Q e T' S')
  {n:Nat} {T:List D} {S:b5} (hk:T.length=k) (h:I n T S):f9 P E w0 (.loop c) T S Q:=fun R H avs F hC hT=>by
 refine c3o (I:=fun n avs H=>a3i E R k (I n) avs H) (fun n avs H hI=> ?_) (n:=n) ⟨F,R,S,T,Fz.le_refl R,hC,hT,hk,h⟩
 obtain⟨F1,R1,S1,T1,a,b,c1,d,e⟩:=hI
 refine(E6.at_le a (step n T1 S1 d e R1 H avs F1 b c1)).mono fun ex T' H' hq=> ?_
 cases ex with
 |normal=>
  obtain⟨F2,R2,S2,T2,a2,b2,c2,d2,m,hm,e2⟩:=hq
  exact⟨m,hm,F2,R2,S2,T2,Fz.le_trans a a2,b2,c2,by rw[d2,d],e2⟩
 |exit id=>
  obtain⟨F2,R2,S2,T2,a2,b2,c2,d2,e2⟩:=hq
  exact⟨F2,R2,S2,T2,Fz.le_trans a a2,b2,c2,by rw[d2,d,hk],e2⟩
 |ret=>
  obtain⟨F2,R2,S2,T2,a2,b2,c2,d2,e2⟩:=hq
  exact⟨F2,R2,S2,T2,Fz.le_trans a a2,b2,c2,by rw[d2,d,hk],e2⟩
theorem c5y{id:Nat}{ops:Array Oper}{T:List D}{S:b5}{Q:j7→List D→b5→Prop}(h:b4D P (p8 P E w0) (a8l E w0) ops ops.toList T S (Q .normal)):f9 P E w0 (.region id ops false) T S Q:=fun R H avs F hC hT=>b9L (b1T (b9U (Fz.le_refl R) F hC hT h))
theorem c3N(hm:P.follows .mixedOrders=true){id:Nat}{ops:Array Oper}{sd:List o9}(hB:a8p P ops ops.toList []=some sd){T:List D}{S:b5}{Q:j7→List D→b5→Prop}(h:b0U P (p8 P E w0) (a8l E w0) ops sd [] T S (Q .normal)):f9 P E w0 (.region id ops true) T S Q:=fun R H avs F hC hT=>c3x hm hB (c3v (xs:=[]) (ys:=[]) (Fz.le_refl R) F hC hT trivial h)
theorem c2Q(hm:P.follows .mixedOrders=true){id:Nat}{ops:Array Oper}{t:Arr}{T:List D}{S:b5}{Q:j7→List D→b5→Prop}(h:if a5m ops&&b6q ops then a7B P ops (fun ops' sd=>b0U P (p8 P E w0) (a8l E w0) ops' sd [] T S (Q .normal)) t []else False):f9 P E w0 (.region id ops true) T S Q:=fun R H avs F hC hT=>by
 split at h
 ·rename_i hok
  simp only[Bool.and_eq_true]at hok
  exact c1j hm hok.1 hok.2 (h.mono fun ops' sd ho=>c3v (xs:=[]) (ys:=[]) (Fz.le_refl R) F hC hT trivial ho)
 ·exact h.elim
variable{loops cuts:List (Nat×List Nat)}{arrs:List (Nat×Arr)}
theorem a7U(hm:P.follows .mixedOrders=true):∀(c:Code) (T:List D) (S:b5) (Q:j7→List D→b5→Prop),vcD P E w0 loops cuts arrs c T S Q→f9 P E w0 c T S Q
 | .skip,T,S,Q,h=>fun R H avs F hC hT=>c3M ⟨F,R,S,T,Fz.le_refl R,hC,hT,rfl,h⟩
 | .label _,T,S,Q,h=>fun R H avs F hC hT=>c1P ⟨F,R,S,T,Fz.le_refl R,hC,hT,rfl,h⟩
 | .ret,T,S,Q,h=>fun R H avs F hC hT=>b3b ⟨F,R,S,T,Fz.le_refl R,hC,hT,rfl,h⟩
 | .exit id,T,S,Q,h=>fun R H avs F hC hT=>c2X ⟨F,R,S,T,Fz.le_refl R,hC,hT,rfl,h⟩
 | .region _ ops false,T,S,Q,h=>c5y h
 | .region id ops true,T,S,Q,h=>by
  change (match c5a id arrs with
   |some t=>if a5m ops&&b6q ops then a7B P ops (fun ops' sd=>b0U P (p8 P E w0) (a8l E w0) ops' sd [] T S (Q .normal)) t []else False
   |none=>match a8p P ops ops.toList []with
    |some sd=>b0U P (p8 P E w0) (a8l E w0) ops sd [] T S (Q .normal)
    |none=>False)at h
  split at h
  ·exact c2Q hm h
  ·split at h
   ·rename_i sd hB;exact c3N hm hB h
   ·exact h.elim
 | .seq a b,T,S,Q,h=>fun R H avs F hC hT=>by
  simp only[vcD]at h
  have fin:f9 P E w0 a T S (fun ex T' S'=>match ex with| .normal=>f9 P E w0 b T' S' Q|e=>Q e T' S')→E6 P E (w0.at E R) (.seq a b) avs H (c7l E R T.length Q):=by
   intro h
   refine b8J ((h R H avs F hC hT).mono fun ex T' H' hq=> ?_)
   cases ex with
   |normal=>
    obtain⟨F2,R2,S2,T2,a2,b2,c2,d2,e2⟩:=hq
    have:=e2 R2 H' T' F2 b2 c2
    rw[d2]at this
    exact(E6.at_le a2 this).mono fun ex T' H' hq=>a3i.le a2 hq
   |exit id=>exact hq
   |ret=>exact hq
  split at h
  ·rename_i L hL
   refine fin ((a7U hm a T S _ h).mono fun ex T' S' hl hq=> ?_)
   cases ex with
   |normal=>exact q8 L hl hq
   |exit id=>exact hq
   |ret=>exact hq
  ·refine fin ((a7U hm a T S _ h).mono fun ex T' S' hl hq=> ?_)
   cases ex with
   |normal=>exact a7U hm b T' S' Q hq
   |exit id=>exact hq
   |ret=>exact hq
 | .cond c a b,T,S,Q,h=>fun R H avs F hC hT=>by
  simp only[vcD]at h
  have hr:=j8 hT c
  unfold i5 at h
  split at h
  ·rename_i e
   rw[e]at hr
   simp only[Rp]at hr
   exact b6x (by rw[hr];exact a7U hm a T S Q h R H avs F hC hT)
  ·rename_i e
   rw[e]at hr
   simp only[Rp]at hr
   exact b6x (by rw[hr];exact a7U hm b T S Q h R H avs F hC hT)
  ·exact h.elim
 | .block id c,T,S,Q,h=>fun R H avs F hC hT=>by
  refine c2h ((a7U hm c T S _ h R H avs F hC hT).mono fun ex T' H' hq=> ?_)
  cases ex with
  |normal=>exact hq
  |ret=>exact hq
  |exit id'=>
   obtain⟨F2,R2,S2,T2,a2,b2,c2,d2,e2⟩:=hq
   simp only[p5]at e2
   simp only[c3e]
   split at e2
   ·rename_i e;rw[if_pos e];exact⟨F2,R2,S2,T2,a2,b2,c2,d2,e2⟩
   ·rename_i e;rw[if_neg e];exact⟨F2,R2,S2,T2,a2,b2,c2,d2,e2⟩
 | .loop c,T,S,Q,h=>by
  simp only[vcD]at h
  split at h
  ·rename_i L hL;exact q8 L rfl h
  ·exact h
 | .rangeFunc ..,T,S,Q,h=>h.elim
 | .scope ..,T,S,Q,h=>h.elim
 | .goto ..,T,S,Q,h=>h.elim
 | .refuse ..,T,S,Q,h=>h.elim
theorem b0A{R:Fz}{S:b5}{H:AHeap}{T:List D}{avs:List AV}(hC:s0 E R S H)(hT:s7 E R T avs):∀ {l:List ResultVar} {K:List D→Prop} {K':List AV→Prop},(∀ds vs,s7 E R ds vs→K ds→K' vs)→a8z P S T l K→a1T P E H avs l K'
 | [],K,K',hk,h=>hk [] [] A7 h
 | .tmp t::l,K,K',hk,h=>by
  have:=b0A (l:=l) (K':=fun vs=>K' (avs.getD t s8::vs)) hC hT (fun ds vs hr hK=>hk (T.getD t b6::ds) (avs.getD t s8::vs) (q9 (a7C hT t) hr) hK) h
  exact this
 | .cell a t::l,K,K',hk,h=>by
  simp only[a8z]at h
  unfold b4 at h
  split at h
  ·rename_i d hd
   have ha:=a7C hT a
   obtain⟨v,h1,h2⟩:=c4q hC ha hd
   have h2:=h2 H (hC.agr _)
   have:=b0A (l:=l) (K':=fun vs=>K' (v::vs)) hC hT (fun ds vs hr hK=>hk (d::ds) (v::vs) (q9 h1 hr) hK) h
   simp only[a1T]
   unfold c4f at h2
   split at h2
   ·rename_i o i e
    simp only[e,h2,a8v]
    exact this
   ·cases h2
  ·exact h.elim
theorem c8r{R:Fz}{ds:List D}{vs:List AV}(h:s7 E R ds vs):Rp E R (c6F ds) (b8x vs):=by
 rcases ds with _|⟨d,_|⟨d',ds⟩⟩
 ·simp only[s7]at h;subst h;exact W8
 ·simp only[s7]at h
  obtain⟨v,_,rfl,h1,rfl⟩:=h
  exact h1
 ·have h':=h
  simp only[s7]at h
  obtain⟨v,_,rfl,h1,v2,vs',rfl,h2,h3⟩:=h
  show Rp E R (.tup (d::d'::ds)) (.tup (v::v2::vs'))
  simp only[Rp]
  exact⟨_,rfl,h'⟩
theorem c1D{f:FuncId}{fn:Func}{c:Code}(hfn:P.funcs[f]? =some fn)(hb:fn.body=some c){ds:List D}{S:b5}{Q:D→b5→Prop}
  (h:f9 P E w0 c (ds++List.replicate (fn.ntmps - ds.length) b6) S (F5 P fn (b9 E Q))):p8 P E w0 f ds S Q:=fun R H avs F hC ha=>by
 have hrow:s7 E R (ds++List.replicate (fn.ntmps - ds.length) b6) (avs++List.replicate (fn.ntmps - avs.length) s8):=by
  refine ha.append ?_
  rw[ha.length]
  generalize fn.ntmps - ds.length=m
  induction m with
  |zero=>exact A7
  |succ m ih=>exact q9 W8 ih
 have h':E6 P E (w0.at E R) c (avs++List.replicate (fn.ntmps - avs.length) s8) H (d0i P E fn (M6 E R Q)):=by
  refine(h R H _ F hC hrow).mono fun ex T' H' hq=> ?_
  obtain⟨F2,R2,S2,T2,a2,b2,c2,d2,e2⟩:=hq
  have go:∀ {l:List ResultVar},a8z P S2 T2 l (fun vs=>b9 E Q (c6F vs) S2)→a1T P E H' T' l fun vs=>M6 E R Q (b8x vs) H':=fun h=>b0A b2 c2 (fun ds vs hr hK=>by
   obtain⟨R',S',d',k1,k2,k3,k4⟩:=hK R2 H' _ b2 (c8r hr)
   exact⟨F2,R',S',d',Fz.le_trans a2 k1,k2,k3,k4⟩) h
  cases ex with
  |normal=>exact go e2
  |ret=>exact go e2
  |exit id=>exact e2
 exact c2w hfn hb h'
theorem j6(loops cuts:List (Nat×List Nat))(arrs:List (Nat×Arr))(hm:P.follows .mixedOrders=true){f:FuncId}{fn:Func}{c:Code}(hfn:P.funcs[f]? =some fn)(hb:fn.body=some c){ds:List D}{S:b5}{Q:D→b5→Prop}{V:Prop}
  (e:vcD P E w0 loops cuts arrs c (ds++List.replicate (fn.ntmps - ds.length) b6) S (F5 P fn (b9 E Q))=V) (h:V):p8 P E w0 f ds S Q:=
 c1D hfn hb (a7U hm _ _ _ _ (e▸h))
theorem g9(loops cuts:List (Nat×List Nat))(arrs:List (Nat×Arr))(hm:P.follows .mixedOrders=true){c:Code}{T:List D}{S:b5}{Q:j7→List D→b5→Prop}{V:Prop}(e:vcD P E w0 loops cuts arrs c T S Q=V)(h:V):f9 P E w0 c T S Q:=
 a7U hm _ _ _ _ (e▸h)
theorem b9.here{Q:D→b5→Prop}{d:D}{S:b5}(h:Q d S):b9 E Q d S:=fun R H v hC hd=>⟨R,S,d,Fz.le_refl R,hC,hd,h⟩
theorem b9.less{Q:D→b5→Prop}{d:D}{S S':b5}(hs:S'.le S)(h:b9 E Q d S'):b9 E Q d S:=fun R H v hC hd=>h R H v (hC.less hs) hd
theorem b9.mono{Q Q':D→b5→Prop}{d:D}{S:b5}(h:b9 E Q d S)(hq:∀d S,Q d S→Q' d S):b9 E Q' d S:=fun R H v hC hd=>by
 obtain⟨R',S',d',a,b,c,e⟩:=h R H v hC hd
 exact⟨R',S',d',a,b,c,hq _ _ e⟩
theorem b9.freeze{Q:D→b5→Prop}{S:b5}{k:Nat}{o:A2}(hk:S k=some o){i len cap:Nat}{ex:Bool}{sz:Nat}(hsz:o.sz=sz)(hl:i+len≤o.rows.length)(hc:len≤cap)
  (h:b9 E Q (.lst ((o.rows.drop i).take len) sz) (S.erase k)):b9 E Q (.raw k i len cap ex sz) S:=fun R H v hC hd=>by
 have hzm:sz<H3:=by simp only[Rp]at hd;exact hd.1
 obtain⟨h1,h2⟩:=hC.freeze hk (.inl (by rw[hsz];exact hzm))
 obtain⟨R',S',d',a,b,c,e⟩:=h _ H v h1 (a5z hC hk hd hsz hl hc)
 exact⟨R',S',d',Fz.le_trans h2 a,b,c,e⟩
theorem b9.freezeT{Q:D→b5→Prop}{S:b5}{k:Nat}{o:A2}(hk:S k=some o){i len cap:Nat}{ex:Bool}{sz:Nat}(hsz:o.sz=sz)(hl:i+len≤o.rows.length)(hc:len≤cap){lp lq:List D}
  (h:b9 E Q (.tup (lp++ .lst ((o.rows.drop i).take len) sz::lq)) (S.erase k)):b9 E Q (.tup (lp++ .raw k i len cap ex sz::lq)) S:=fun R H v hC hd=>by
 simp only[Rp]at hd
 obtain⟨vs,rfl,hv⟩:=hd
 obtain⟨v1,v2,rfl,g1,g2⟩:=a1H hv
 simp only[s7]at g2
 obtain⟨w,ws,rfl,g3,g4⟩:=g2
 have hzm:sz<H3:=by simp only[Rp]at g3;exact g3.1
 obtain⟨h1,h2⟩:=hC.freeze hk (.inl (by rw[hsz];exact hzm))
 obtain⟨R',S',d',a,b,c,e⟩:=h _ H (.tup (v1++w::ws)) h1 (by
  simp only[Rp]
  exact⟨_,rfl,(s7.le h2 _ _ g1).append (q9 (a5z hC hk g3 hsz hl hc) (s7.le h2 _ _ g4))⟩)
 exact⟨R',S',d',Fz.le_trans h2 a,b,c,e⟩
theorem b9.nil{Q:D→b5→Prop}{S:b5}{sz:Nat}(h:b9 E Q (.lst [] sz) S):b9 E Q .nilSlc S:=fun R H v hC hd=>h R H v hC (by simp only[Rp]at hd ⊢;exact .inl ⟨trivial,hd⟩)
theorem b9.nilT{Q:D→b5→Prop}{S:b5}{sz:Nat}{lp lq:List D}(h:b9 E Q (.tup (lp++ .lst [] sz::lq)) S):b9 E Q (.tup (lp++ .nilSlc::lq)) S:=fun R H v hC hd=>h R H v hC (by
 simp only[Rp]at hd ⊢
 obtain⟨vs,rfl,hv⟩:=hd
 obtain⟨v1,v2,rfl,g1,g2⟩:=a1H hv
 simp only[s7]at g2
 obtain⟨w,ws,rfl,g3,g4⟩:=g2
 exact⟨_,rfl,g1.append (q9 (by simp only[Rp]at g3 ⊢;exact .inl ⟨trivial,g3⟩) g4)⟩)
def U2(P:Program)(E:g8)(w0:j0)(f:FuncId)(ds:List D)(d:D):Prop:=∀S,p8 P E w0 f ds S fun d' S'=>d'=d∧S'=S
theorem U2.use{f:FuncId}{ds:List D}{d:D}(h:U2 P E w0 f ds d){S:b5}{K:D→b5→Prop}(hk:K d S):p8 P E w0 f ds S K:=(h S).use fun d' S' ⟨a,b⟩=>by subst a b;exact hk
end
end
end Go.Am
end
section
open Go.Proofs Go Go.Am
namespace Go.Proofs.Ytdkidgkiplcggaa.d
section
theorem mixed:Try.prog.follows .mixedOrders=true:=by kernel_rfl
abbrev a3w:FuncId:=3
abbrev a0i:FuncId:=11
abbrev a1b:FuncId:=12
abbrev a6m:FuncId:=13
abbrev O9:FuncId:=14
abbrev Y6:FuncId:=15
abbrev a1o:FuncId:=16
abbrev N8:FuncId:=18
abbrev I8:FuncId:=19
abbrev a8y:FuncId:=23
abbrev a4l:FuncId:=34
abbrev a2a:FuncId:=35
abbrev a2i:FuncId:=36
abbrev R6:FuncId:=37
abbrev I9:FuncId:=38
abbrev K5:FuncId:=39
abbrev J4:FuncId:=40
abbrev a9g:FuncId:=41
abbrev a3Y:FuncId:=42
abbrev K7:FuncId:=43
abbrev a2U:FuncId:=44
abbrev a3T:FuncId:=52
abbrev a2J:FuncId:=53
abbrev K8:FuncId:=54
abbrev P9:FuncId:=57
abbrev a6u:FuncId:=60
abbrev A0:FuncId:=61
abbrev p6:FuncId:=62
abbrev B4:FuncId:=63
abbrev a5c:FuncId:=72
abbrev y8:FuncId:=73
abbrev a0f:FuncId:=74
abbrev a1s:FuncId:=75
abbrev a8f:FuncId:=87
abbrev Q5:FuncId:=88
abbrev a1m:FuncId:=89
abbrev a7A:FuncId:=90
abbrev R4:FuncId:=104
abbrev M1:FuncId:=105
abbrev a3b:FuncId:=106
abbrev a6h:FuncId:=107
abbrev a7i:FuncId:=113
abbrev a7W:FuncId:=114
abbrev a0Q:FuncId:=132
abbrev W0:FuncId:=141
end
section
def b9C:List (Nat×List Nat):=[]
def c0K:List (Nat×List Nat):=[]
def c0k:List (Nat×Arr):=[]
def b3S(E:g8)(w0:j0)(Q:D→b5→Prop)(a0:D)(S:b5):Prop:=
 b4 (d5 .eql a0 (.int .u8 1)) fun v0=>
 i5 v0
 (Q (.int .i64 8) S)
 (b4 (d5 .eql a0 (.int .u8 2)) fun v1=>
 i5 v1
 (Q (.int .i64 32) S)
 (b4 (d5 .eql a0 (.int .u8 3)) fun v2=>
 i5 v2
 (Q (.int .i64 64) S)
 (Q (.int .i64 0) S)))
theorem b6K{E:g8}{w0:j0}{Q:D→b5→Prop}{a0:D}{S:b5}(h:b3S E w0 (b9 E Q) a0 S):p8 Try.prog E w0 a7i [a0] S Q:=
 j6 b9C c0K c0k (fn:=Try.f113) (c:=Try.f113.body.getD .skip) mixed Try.func113 (by kernel_rfl) (by kernel_rfl) h
def c0q:List (Nat×List Nat):=[]
def c0b:List (Nat×List Nat):=[]
def c0C:List (Nat×Arr):=[]
def b3M(E:g8)(w0:j0)(Q:D→b5→Prop)(a0 a1:D)(S:b5):Prop:=
 b4 (d5 .eql a0 (.int .u8 1)) fun v0=>
 i5 v0
 (b4 (Q9 .i8 a1) fun v1=>
 b4 (Q9 .i64 v1) fun v2=>
 Q v2 S)
 (b4 (d5 .eql a0 (.int .u8 2)) fun v3=>
 i5 v3
 (b4 (Q9 .i32 a1) fun v4=>
 b4 (Q9 .i64 v4) fun v5=>
 Q v5 S)
 (b4 (d5 .eql a0 (.int .u8 3)) fun v6=>
 i5 v6
 (Q a1 S)
 (Q (.int .i64 0) S)))
theorem b7w{E:g8}{w0:j0}{Q:D→b5→Prop}{a0 a1:D}{S:b5}(h:b3M E w0 (b9 E Q) a0 a1 S):p8 Try.prog E w0 a7W [a0,a1] S Q:=
 j6 c0q c0b c0C (fn:=Try.f114) (c:=Try.f114.body.getD .skip) mixed Try.func114 (by kernel_rfl) (by kernel_rfl) h
def c0G:List (Nat×List Nat):=[]
def c0l:List (Nat×List Nat):=[]
def c0B:List (Nat×Arr):=[]
def b4h(E:g8)(w0:j0)(Q:D→b5→Prop)(a0 a1:D)(S:b5):Prop:=
 p8 Try.prog E w0 a7i [a0] S fun v0 S1=>
 b4 (d5 .gtr v0 (.int .i64 0)) fun v2=>
 b4 (d6 (b8 v2 true) (some a0)) fun v3=>
 b4 (d6 (b8 v2 true) (some a1)) fun v4=>
 a2B (b8 v2 true) (fun K=>p8 Try.prog E w0 a7W [v3,v4] S1 K) S1 fun v5 S6=>
 b4 (d6 (b8 v2 true) (some a1)) fun v7=>
 b4 (d6 (b8 v2 true) (d5 .eql v5 v7)) fun v8=>
 b4 (y9 v2 v8 (.bool false)) fun v9=>
 Q v9 S6
theorem b6I{E:g8}{w0:j0}{Q:D→b5→Prop}{a0 a1:D}{S:b5}(h:b4h E w0 (b9 E Q) a0 a1 S):p8 Try.prog E w0 a7A [a0,a1] S Q:=
 j6 c0G c0l c0B (fn:=Try.f90) (c:=Try.f90.body.getD .skip) mixed Try.func90 (by kernel_rfl) (by kernel_rfl) h
def b8e:List (Nat×List Nat):=[]
def b7J:List (Nat×List Nat):=[]
def b8g:List (Nat×Arr):=[]
def b0K(E:g8)(w0:j0)(Q:D→b5→Prop)(a0:D)(S:b5):Prop:=
 b4 (d5 .eql a0 (.int .u8 1)) fun v0=>
 i5 v0
 (Q (.int .i64 8) S)
 (b4 (d5 .eql a0 (.int .u8 2)) fun v1=>
 i5 v1
 (Q (.int .i64 32) S)
 (b4 (d5 .eql a0 (.int .u8 3)) fun v2=>
 i5 v2
 (Q (.int .i64 64) S)
 (Q (.int .i64 0) S)))
theorem b4J{E:g8}{w0:j0}{Q:D→b5→Prop}{a0:D}{S:b5}(h:b0K E w0 (b9 E Q) a0 S):p8 Try.prog E w0 a6h [a0] S Q:=
 j6 b8e b7J b8g (fn:=Try.f107) (c:=Try.f107.body.getD .skip) mixed Try.func107 (by kernel_rfl) (by kernel_rfl) h
def a6r:List (Nat×List Nat):=[(20,[0,1,2,9,29,30])]
def a6b:List (Nat×List Nat):=[]
def a6x:List (Nat×Arr):=[]
noncomputable def a4M:Code:=(i9 [1,1,1,0,1,0,0] (Try.f87.body.getD .skip))
def a5k(E:g8)(w0:j0)(Q:D→b5→Prop):j7→List D→b5→Prop:=
 (p5 1 (L4 Try.prog E w0 a6r a6b a6x (i9 [1,1,1,1] (Try.f87.body.getD .skip)) (F5 Try.prog Try.f87 Q)))
def a4W(E:g8)(w0:j0)(N0:D→D→D→D→D→D→b5→Prop)(Q:D→b5→Prop)(x0 x1 x2 x9 x29 x30:D)(S:b5):Prop:=
 b4 (d5 .lss x30 x29) fun v3=>
 i5 v3
 (b4 (d5 .add x1 x30) fun v4=>
 b4 (j5 1 x0 v4) fun v5=>
 b4 (d9 S v5) fun v6=>
 b4 (Q9 .u64 v6) fun v7=>
 b4 (d5 .mul (.int .i64 8) x30) fun v8=>
 b4 (d5 .shl v7 v8) fun v9=>
 b4 (d5 .or x9 v9) fun v10=>
 b4 (d5 .add x30 (.int .i64 1)) fun v11=>
 N0 x0 x1 x2 v10 x29 v11 S)
 (b4 (d5 .add x1 x2) fun v12=>
 Q (.tup [x9,v12,(.int .i64 0)]) S)
theorem b2H{E:g8}{w0:j0}{N0:D→D→D→D→D→D→b5→Prop}{Q:D→b5→Prop}{x0 x1 x2 x9 x29 x30:D}{S:b5}(h:a4W E w0 N0 Q x0 x1 x2 x9 x29 x30 S):
  f9 Try.prog E w0 a4M (i7 50 [0,1,2,9,29,30] [x0,x1,x2,x9,x29,x30]) S (A3 (fun T S=>N0 (T.getD 0 b6) (T.getD 1 b6) (T.getD 2 b6) (T.getD 9 b6) (T.getD 29 b6) (T.getD 30 b6) S) (a5k E w0 Q)):=g9 a6r a6b a6x mixed (by kernel_rfl) h
theorem b2T{E:g8}{w0:j0}{Q:D→b5→Prop}(I:Nat→D→D→D→D→D→D→b5→Prop)
  (step:∀n x0 x1 x2 x9 x29 x30 S,I n x0 x1 x2 x9 x29 x30 S→a4W E w0 (fun x0 x1 x2 x9 x29 x30 S=>∃m,m<n∧I m x0 x1 x2 x9 x29 x30 S) Q x0 x1 x2 x9 x29 x30 S)
  {n:Nat} {x0 x1 x2 x9 x29 x30:D} {S:b5} (h:I n x0 x1 x2 x9 x29 x30 S):f9 Try.prog E w0 (.loop a4M) (i7 50 [0,1,2,9,29,30] [x0,x1,x2,x9,x29,x30]) S (a5k E w0 Q):=
 o4 (k:=50) (n:=n) (I:=fun n T S=>I n (T.getD 0 b6) (T.getD 1 b6) (T.getD 2 b6) (T.getD 9 b6) (T.getD 29 b6) (T.getD 30 b6) S) (fun n T S hl hI=>q8 [0,1,2,9,29,30] hl (f9.mono (b2H (step n _ _ _ _ _ _ S hI)) fun ex T' S' _ hq=>by cases ex<;>exact hq)) (j2 ..) (Eq.mp (by kernel_rfl) h)
def a0t(E:g8)(w0:j0)(Q:D→b5→Prop)(x0 x1 x2 x11:D)(S:b5):Prop:=
 i5 x11
 (Q (.tup [(.int .u64 0),(.int .i64 0),(.int .i64 2)]) S)
 (b4 (j9 x0) fun v0=>
 b4 (d5 .sub v0 x1) fun v1=>
 b4 (d5 .gtr x2 v1) fun v2=>
 i5 v2
 (Q (.tup [(.int .u64 0),(.int .i64 0),(.int .i64 10)]) S)
 (f9 Try.prog E w0 (.loop a4M) (i7 50 [0,1,2,9,29,30] [x0,x1,x2,(.int .u64 0),x2,(.int .i64 0)]) S (a5k E w0 Q)))
def b3R(E:g8)(w0:j0)(Q:D→b5→Prop)(a0 a1 a2:D)(S:b5):Prop:=
 b4 (d5 .lss a2 (.int .i64 1)) fun v13=>
 i5 v13
 (a0t E w0 Q a0 a1 a2 v13 S)
 (b4 (d5 .gtr a2 (.int .i64 8)) fun v14=>
 i5 v14
 (a0t E w0 Q a0 a1 a2 v14 S)
 (b4 (d5 .lss a1 (.int .i64 0)) fun v15=>
 i5 v15
 (a0t E w0 Q a0 a1 a2 v15 S)
 (b4 (j9 a0) fun v16=>
 b4 (d5 .gtr a1 v16) fun v17=>
 a0t E w0 Q a0 a1 a2 v17 S)))
theorem b5w{E:g8}{w0:j0}{Q:D→b5→Prop}{a0 a1 a2:D}{S:b5}(h:b3R E w0 (b9 E Q) a0 a1 a2 S):p8 Try.prog E w0 a8f [a0,a1,a2] S Q:=
 j6 a6r a6b a6x (fn:=Try.f87) (c:=Try.f87.body.getD .skip) mixed Try.func87 (by kernel_rfl) (by kernel_rfl) h
def b6W:List (Nat×List Nat):=[]
def b5K:List (Nat×List Nat):=[]
def b6s:List (Nat×Arr):=[]
def a9C(E:g8)(w0:j0)(Q:D→b5→Prop)(a0 a1:D)(S:b5):Prop:=
 b4 (s5 a0) fun cs=>o6 S cs fun v0 S1=>
 b4 (s5 a1) fun cs=>o6 S1 cs fun v2 S3=>
 b4 (some (.fn (.func Q5) [] [v0,v2])) fun v4=>
 Q v4 S3
theorem b3m{E:g8}{w0:j0}{Q:D→b5→Prop}{a0 a1:D}{S:b5}(h:a9C E w0 (b9 E Q) a0 a1 S):p8 Try.prog E w0 p6 [a0,a1] S Q:=
 j6 b6W b5K b6s (fn:=Try.f62) (c:=Try.f62.body.getD .skip) mixed Try.func62 (by kernel_rfl) (by kernel_rfl) h
def c1x:List (Nat×List Nat):=[]
def c2p:List (Nat×List Nat):=[]
def c1C:List (Nat×Arr):=[]
def b6i(E:g8)(w0:j0)(Q:D→b5→Prop)(a0:D)(S:b5):Prop:=
 b4 (s5 a0) fun cs=>o6 S cs fun v0 S1=>
 b4 (some (.fn (.func a1m) [] [v0])) fun v2=>
 Q v2 S1
theorem b7W{E:g8}{w0:j0}{Q:D→b5→Prop}{a0:D}{S:b5}(h:b6i E w0 (b9 E Q) a0 S):p8 Try.prog E w0 B4 [a0] S Q:=
 j6 c1x c2p c1C (fn:=Try.f63) (c:=Try.f63.body.getD .skip) mixed Try.func63 (by kernel_rfl) (by kernel_rfl) h
def b2D:List (Nat×List Nat):=[]
def b2F:List (Nat×List Nat):=[]
def b3C:List (Nat×Arr):=[]
def a6P(E:g8)(w0:j0)(Q:D→b5→Prop)(a0 c0 c1:D)(S:b5):Prop:=
 b4 (d9 S c0) fun v0=>
 b4 (d5 .leq v0 a0) fun v1=>
 b4 (d6 (b8 v1 true) (some a0)) fun v2=>
 b4 (d6 (b8 v1 true) (d9 S c1)) fun v3=>
 b4 (d6 (b8 v1 true) (d5 .leq v2 v3)) fun v4=>
 b4 (y9 v1 v4 (.bool false)) fun v5=>
 Q v5 S
theorem a9R{E:g8}{w0:j0}{Q:D→b5→Prop}{a0 c0 c1:D}{S:b5}(h:a6P E w0 (b9 E Q) a0 c0 c1 S):p8 Try.prog E w0 Q5 [a0,c0,c1] S Q:=
 j6 b2D b2F b3C (fn:=Try.f88) (c:=Try.f88.body.getD .skip) mixed Try.func88 (by kernel_rfl) (by kernel_rfl) h
def b7G:List (Nat×List Nat):=[]
def b8h:List (Nat×List Nat):=[]
def b8r:List (Nat×Arr):=[]
def b1O(E:g8)(w0:j0)(Q:D→b5→Prop)(a0 c0:D)(S:b5):Prop:=
 b4 (d9 S c0) fun v0=>
 p8 Try.prog E w0 a7A [v0,a0] S fun v1 S2=>
 Q v1 S2
theorem b4K{E:g8}{w0:j0}{Q:D→b5→Prop}{a0 c0:D}{S:b5}(h:b1O E w0 (b9 E Q) a0 c0 S):p8 Try.prog E w0 a1m [a0,c0] S Q:=
 j6 b7G b8h b8r (fn:=Try.f89) (c:=Try.f89.body.getD .skip) mixed Try.func89 (by kernel_rfl) (by kernel_rfl) h
end
end Go.Proofs.Ytdkidgkiplcggaa.d
end
