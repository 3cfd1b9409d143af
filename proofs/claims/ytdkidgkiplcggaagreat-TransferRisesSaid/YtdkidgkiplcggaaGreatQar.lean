/-
  TransferRisesSaid: part Qar of its proof.
-/
import Derived.Test.YtdkidgkiplcggaaGreatQaq
import Derived.Test.YtdkidgkiplcggaaGreatRows
import Derived.KernelRfl
set_option linter.unusedVariables false
set_option linter.unusedSimpArgs false
set_option maxRecDepth 100000
section
namespace Go.Am
section
def c0X(T:List D)(dst:Option Tmp)(v:D):List D:=match dst with
 |some d=>T.set d v
 |none=>T
def b5m:List D→(List D→Prop)→Prop
 | [],k=>k []
 |a::l,k=>b5m l fun l'=>k (a::l')
def d1Q:List D→Nat→(D→Prop)→Prop
 | [],_,k=>k b9
 |a::l,n,k=>match n with
  |0=>k a
  |n+1=>d1Q l n k
def b6P(T:List D)(x:Operand)(k:D→Prop):Prop:=match x with
 | .tmp t=>d1Q T t k
 |x=>k (t7 T x)
def d6(g:D)(want:Bool):Option Bool:=match g with
 | .bool b=>some (b==want)
 | .any=>none
 |_=>some false
def c1q(ops:Array Oper)(T:List D)(o:Oper):Option Bool:=
 match o.guard with
 |none=>some true
 |some (j,want)=>match (ops[j]?).bind (·.dst) with
  |none=>some false
  |some d=>match T[d]? with
   |some x=>d6 x want
   |none=>some false
def f9(g:Option Bool)(r:Option D):Option D:=match g with
 |some true=>r
 |some false=>some b9
 |none=>none
def Q1(r:Option Bool)(s:(D→b8→Prop)→Prop)(S:b8):(D→b8→Prop)→Prop:=match r with
 |some true=>s
 |some false=>fun Q=>Q b9 S
 |none=>fun _=>False
theorem d2q{r:Option Bool}{s:(D→b8→Prop)→Prop}{S:b8}{Q:D→b8→Prop}:Q1 r s S Q=match r with
 |some true=>s Q
 |some false=>Q b9 S
 |none=>False:=by
 cases r with
 |none=>rfl
 |some b=>cases b<;>rfl
def d2n(P:Program)(ops:Array Oper)(T:List D)(S:b8)(o:Oper):Option D:=f9 (c1q ops T o) (d6B P T S o)
def d1k(P:Program)(G:DW)(ops:Array Oper)(T:List D)(S:b8)(o:Oper)(K:D→b8→Prop):Prop:=Q1 (c1q ops T o) (d6V P G T S o) S K
structure j9 where
 w:World
 X:D→b8→Prop
instance:Coe j9 World:=⟨j9.w⟩
def d8f(w:World):j9:=⟨w,fun _ _=>False⟩
def j9.at(E:j2)(w0:j9)(R:Fz):a8D:=⟨w0.w,fun v H'=>D4 H'∧∃R' S' d,R.le R'∧z7 E R' S' H'∧Rp E R' d v∧w0.X d S'⟩
def j8(P:Program)(E:j2)(w0:j9):DW:=fun f ds S Q=>∀R H avs,D4 H→z7 E R S H→A7 E R ds avs→FnW P E (w0.at E R) f avs H (W5 E R Q)
def b1P(E:j2)(w0:j9)(d:D)(S:b8):Prop:=(∃t v,d= .ifc t v)∧w0.X d S
def c1x(o:Oper):Option Operand:=match o.guard with
 |none=>match o.op with
  | .panic x=>some x
  |_=>none
 |some _=>none
def c4R(P:Program)(G:DW)(X:D→b8→Prop)(ops:Array Oper):List Oper→List D→b8→(List D→b8→Prop)→Prop
 | [],T,S,Q=>b5m T fun T=>Q T S
 |o::l,T,S,Q=>b5m T fun T=>match b3P o with
  |some x=>b6P T x fun e=>c4R P G X ops l (c0X T o.dst e) S Q
  |none=>match u7 P o with
  |0|1=>b7 (d2n P ops T S o) fun v=>c4R P G X ops l (c0X T o.dst v) S Q
  |_=>match c1x o with
   |some x=>b6P T x fun e=>X e S
   |none=>d1k P G ops T S o fun v S'=>c4R P G X ops l (c0X T o.dst v) S' Q
def r7(x:D)(S S':b8):Prop:=match b7v x with
 |some k=>S' k=S k
 |none=>True
def c7z(x:D)(S S':b8):Prop:=match b6D x with
 |some k=>S' k=S k
 |none=>True
def b8F(P:Program)(T:List D)(o:Oper)(S S':b8):Prop:=match o.op with
 | .load _ a=>r7 (t7 T a) S S'
 | .convert _ _ x=>r7 (t7 T x) S S'
 | .lookup _ x _ _=>c7z (t7 T x) S S'
 | .call c=>if d5m P c then c7z (c2B T c) S S' else True
 |_=>True
def b8B(P:Program)(o:Oper):Bool:=match o.op with
 | .load .. | .convert .. | .lookup .. =>true
 | .call c=>d5m P c
 |_=>false
def b8o(P:Program)(S':b8)(anc:Nat)(K:Prop):Nat→List (Oper×List D×b8)→Prop
 |_,[]=>K
 |j,d::ds=>if(u7 P d.1==1&&b8B P d.1)&& !anc.testBit j then b8F P d.2.1 d.1 d.2.2 S'∧b8o P S' anc K (j+1) ds else b8o P S' anc K (j+1) ds
def b7j(P:Program)(G:DW)(X:D→b8→Prop)(ops:Array Oper):List s7→List (Oper×List D×b8)→List D→b8→(List D→b8→Prop)→Prop
 | [],_,T,S,Q=>b5m T fun T=>Q T S
 |s::l,ds,T,S,Q=>b5m T fun T=>match b3P s.o with
  |some x=>b6P T x fun e=>b7j P G X ops l (ds++[(s.o,T,S)]) (c0X T s.o.dst e) S Q
  |none=>match u7 P s.o with
  |0|1=>b7 (d2n P ops T S s.o) fun v=>b7j P G X ops l (ds++[(s.o,T,S)]) (c0X T s.o.dst v) S Q
  |_=>match c1x s.o with
   |some x=>b6P T x fun e=>X e S
   |none=>d1k P G ops T S s.o fun v S'=>b8o P S' s.anc (b7j P G X ops l (ds++[(s.o,T,S)]) (c0X T s.o.dst v) S' Q) 0 ds
section
variable{P:Program}{E:j2}{w0:j9}
theorem a8z:∀ {T:List D} {k:List D→Prop},b5m T k=k T
 | [],k=>rfl
 |a::l,k=>by simp only[b5m];rw[a8z]
theorem c9w:∀ {T:List D} {n:Nat} {k:D→Prop},d1Q T n k=k (T.getD n b9)
 | [],n,k=>rfl
 |a::l,0,k=>rfl
 |a::l,n+1,k=>by simp only[d1Q];rw[c9w];simp
theorem c2H{T:List D}{x:Operand}{k:D→Prop}:b6P T x k=k (t7 T x):=by
 cases x<;>first|rfl|exact c9w
theorem b9G(T:List D)(dst:Option Tmp)(v:D):(c0X T dst v).length=T.length:=by
 cases dst with
 |none=>rfl
 |some d=>exact List.length_set
theorem d1v{R:Fz}{T:List D}{avs:List AV}(h:A7 E R T avs)(dst:Option Tmp){d:D}{v:AV}(hd:Rp E R d v):A7 E R (c0X T dst d) (a3c avs dst v):=by
 cases dst with
 |none=>exact h
 |some t=>exact h.set t hd
theorem b9f{R:Fz}{v:AV}:Rp E R .any v:=by simp only[Rp]
theorem d3K{F:FW}(hF:d4M F){T:List AV}{H:AHeap}{o:Oper}{K K':AV→AHeap→Prop}(hk:∀v H',K v H'→K' v H')(h:opW P E F T H o K):opW P E F T H o K':=by
 have o1:∀ {α:Type} {r:Option α} {f g:α→Prop},(∀x,f x→g x)→b7 r f→b7 r g:=by
  intro α r f g hfg h
  cases r with
  |none=>exact h
  |some x=>exact hfg x h
 have o2:∀ {r:Option (AV×AHeap)},a4T r K→a4T r K':=by
  intro r h
  cases r with
  |none=>exact h
  |some x=>exact hk _ _ h
 have rf:∀ {r:Option a1v},b5U F r K→b5U F r K':=by
  intro r h
  unfold b5U at*
  split
  ·exact hk _ _ h
  ·exact hF _ _ _ _ _ h hk
  ·exact h
 obtain⟨dst,op,type,pos,after,guard⟩:=o
 cases op<;>simp only[opW]at h ⊢ <;>try (first|exact o1 (fun v hv=>hk _ _ hv) h|exact o2 h)
 case box e x=>exact hk _ _ h
 case range t x=>exact b9x hk h
 case next it s=>exact c1Z hk h
 case entry it=>exact b9I hk h
 case store t a x=>
  unfold c7E at*
  split at h
  ·split at h
   ·rename_i hs
    rw[if_pos hs]
    exact o1 (fun v hv=>hk _ _ hv) h
   ·exact h.elim
  ·exact h.elim
 case makeMap t r=>
  cases r with
  |none=>exact hk _ _ h
  |some x=>exact h
 case call c=>
  cases hc:c.callee with
  |value f=>
   simp only[hc]at h ⊢
   cases f with
   |func g=>
    simp only at h ⊢
    split at h
    ·rename_i hb;rw[if_pos hb];exact hF _ _ _ _ _ h hk
    ·exact h.elim
   |tmp t=>exact rf h
   |const v=>exact rf h
   |global g=>exact rf h
  |invoke r m=>
   simp only[hc]at h ⊢
   exact rf h
  |builtin b=>
   simp only[hc]at h ⊢
   generalize c.args.toList.map (l9 T)=as1 at h ⊢
   generalize c.argTypes.toList=ts at h ⊢
   cases b<;>(try simp only at h ⊢)<;>try (exact o1 (fun v hv=>hk _ _ hv) h)
   case append=>
    rcases as1 with _|⟨s,_|⟨x,_|⟨y,as1⟩⟩⟩<;>rcases ts with _|⟨sT,_|⟨xT,_|⟨u,ts⟩⟩⟩<;>first|exact o2 h|exact o1 (fun v hv=>hk _ _ hv) h
   case copy=>
    rcases as1 with _|⟨s,_|⟨x,_|⟨y,as1⟩⟩⟩<;>rcases ts with _|⟨sT,ts⟩<;>first|exact o2 h|exact o1 (fun v hv=>hk _ _ hv) h
theorem c6b.weak{w:World}{X X':AV→AHeap→Prop}(hX:∀v H,X v H→X' v H){ρ:B2}{H:AHeap}{Q:AV→AHeap→Prop}{e:Ending}{w':World}(h:c6b E ⟨w,X⟩ ρ H Q e w'):c6b E ⟨w,X'⟩ ρ H Q e w':=by
 cases e with
 |returned u=>exact h
 |panicked c=>
  obtain⟨u,ρ',v,H',h1,h2,h3⟩:=h
  exact⟨u,ρ',v,H',h1,hX _ _ h2,h3⟩
 |outgrown=>exact h
theorem FnW.weak{w:World}{X X':AV→AHeap→Prop}(hX:∀v H,X v H→X' v H){f:FuncId}{args:List AV}{H:AHeap}{Q:AV→AHeap→Prop}(h:FnW P E ⟨w,X⟩ f args H Q):FnW P E ⟨w,X'⟩ f args H Q:=
 fun w ρ vargs R hf hr=>Calls.mono (h w ρ vargs R hf hr) fun e w' he=>he.weak hX
theorem M1.weak{w:World}{X X':AV→AHeap→Prop}(hX:∀v H,X v H→X' v H){c:Code}{T:List AV}{H:AHeap}{Q:o8→List AV→AHeap→Prop}(h:M1 P E ⟨w,X⟩ c T H Q):M1 P E ⟨w,X'⟩ c T H Q:=
 fun w ρ a R hR hf hT hk hp=>h w ρ a R hR hf hT hk fun u v ρ' H' a' w' hx=>hp u v ρ' H' a' w' (hX _ _ hx)
theorem j9.at_le{R R':Fz}(h:R.le R'):∀v H,(w0.at E R').X v H→(w0.at E R).X v H:=fun v H ⟨F,R1,S,d,a,b⟩=>⟨F,R1,S,d,Fz.le_trans h a,b⟩
theorem FnW.at_le{R R':Fz}(h:R.le R'){f:FuncId}{args:List AV}{H:AHeap}{Q:AV→AHeap→Prop}(hf:FnW P E (w0.at E R') f args H Q):FnW P E (w0.at E R) f args H Q:=FnW.weak (j9.at_le h) hf
theorem M1.at_le{R R':Fz}(h:R.le R'){c:Code}{T:List AV}{H:AHeap}{Q:o8→List AV→AHeap→Prop}(hf:M1 P E (w0.at E R') c T H Q):M1 P E (w0.at E R) c T H Q:=M1.weak (j9.at_le h) hf
theorem goF{R0 R:Fz}(h:R0.le R){S:b8}{H:AHeap}(F:D4 H)(hC:z7 E R S H):GoF E (FnW P E (w0.at E R0)) (j8 P E w0) R S H:=fun f ds avs K ha hf=>FnW.at_le h (hf R H avs F hC ha)
theorem c2a{w0:a8D}:d4M (FnW P E w0):=fun f args H Q Q' h hq=>h.mono hq
theorem b3z{R:Fz}{T:List D}{avs:List AV}(h:A7 E R T avs){ops:Array Oper}{o:Oper}{b:Bool}(hw:c1q ops T o=some b):a1e ops avs o=some b:=by
 unfold c1q at hw
 unfold a1e
 cases hg:o.guard with
 |none=>rw[hg]at hw;exact hw
 |some jw=>
  obtain⟨j,want⟩:=jw
  simp only[hg]at hw ⊢
  cases hd:(ops[j]?).bind (·.dst) with
  |none=>simp only[hd]at hw ⊢;exact hw
  |some d=>
   simp only[hd]at hw ⊢
   cases hx:T[d]? with
   |none=>
    have:avs[d]? =none:=List.getElem?_eq_none (by rw[h.length];exact List.getElem?_eq_none_iff.1 hx)
    simp only[hx]at hw
    simp only[this]
    exact hw
   |some x=>
    simp only[hx]at hw
    obtain⟨v,h1,h2⟩:=a5M h hx
    simp only[h1]
    cases x<;>simp only[d6]at hw<;>try (cases hw;done)
    all_goals
     simp only[Rp]at h2
     first
      |(subst h2;exact hw)
      |(rcases h2 with ⟨_,rfl⟩|⟨o,j,cap,ex,z,rfl,_⟩<;>exact hw)
      |(obtain⟨o,j,cap,ex,z,all,rfl,_⟩:=h2;exact hw)
      |(obtain⟨o,j,all,rfl,_⟩:=h2;exact hw)
      |(obtain⟨a',b',rfl,_⟩:=h2;exact hw)
      |(obtain⟨v',rfl,_⟩:=h2;exact hw)
      |(obtain⟨_,rfl⟩:=(h2:_∧_);exact hw)
      |(obtain⟨_,j,cap,ex,all,rfl,_⟩:=(h2:_∧_);exact hw)
theorem c5x{T:List D}{o:Oper}{S S':b8}(h:b8F P T o S S'){k:Nat}(hk:b1G P T o=some k):S' k=S k:=by
 unfold b1G at hk
 unfold b8F at h
 split at hk
 ·rename_i e;simp only[e,r7,hk]at h;exact h
 ·rename_i e;simp only[e,r7,hk]at h;exact h
 ·rename_i e;simp only[e,c7z,hk]at h;exact h
 ·rename_i e
  simp only[e]at h
  split at hk
  ·rename_i hl;rw[if_pos hl]at h;simp only[c7z,hk]at h;exact h
  ·cases hk
 ·cases hk
theorem c9F{T:List D}{o:Oper}{S S':b8}(h:b8B P o=false):b8F P T o S S':=by
 unfold b8F
 split
 ·rename_i e;simp[b8B,e]at h
 ·rename_i e;simp[b8B,e]at h
 ·rename_i e;simp[b8B,e]at h
 ·rename_i e;simp only[b8B,e]at h;rw[h,if_neg (by decide)];trivial
 ·trivial
theorem d1h{R:Fz}{S:b8}{H:AHeap}{T:List D}{avs:List AV}(hT:A7 E R T avs)(hC:z7 E R S H){ops:Array Oper}{o:Oper}{d:D}(h:d2n P ops T S o=some d):
  ∃v,Rp E R d v∧∀H,Agr R S (b1G P T o) H→d0Z P E ops avs H o=some v:=by
 unfold d2n f9 at h
 split at h
 ·rename_i hw
  obtain⟨v,h1,h2⟩:=d5K hT hC h
  exact⟨v,h1,fun H hA=>by unfold d0Z;rw[b3z hT hw];exact h2 H hA⟩
 ·rename_i hw
  cases h
  exact⟨C1,a1s,fun H hA=>by unfold d0Z;rw[b3z hT hw];rfl⟩
 ·cases h
theorem c7Y{F:FW}{G:DW}{R:Fz}{S:b8}{H:AHeap}(hG:GoF E F G R S H)(hF:D4 H)(hC:z7 E R S H){T:List D}{avs:List AV}(hT:A7 E R T avs){ops:Array Oper}{o:Oper}{K:D→b8→Prop}(h:d1k P G ops T S o K):c2S P E F ops avs H o (W5 E R K):=by
 unfold d1k at h
 rw[d2q]at h
 unfold c2S
 split at h
 ·rename_i hw
  rw[b3z hT hw]
  exact d5i hG hF hC hT h
 ·rename_i hw
  rw[b3z hT hw]
  exact⟨hF,R,S,b9,Fz.le_refl R,hC,a1s,h⟩
 ·exact h.elim
theorem c2r{F:FW}(hF:d4M F){ops:Array Oper}{T:List AV}{H:AHeap}{o:Oper}{K K':AV→AHeap→Prop}(h:c2S P E F ops T H o K)(hk:∀v H',K v H'→K' v H'):c2S P E F ops T H o K':=by
 unfold c2S a9S at*
 split<;>rename_i e<;>rw[e]at h
 ·exact d3K hF hk h
 ·exact hk _ _ h
 ·exact h
def a7H(E:j2)(R:Fz)(n:Nat)(Q:List D→b8→Prop)(avs':List AV)(H':AHeap):Prop:=D4 H'∧∃R' S' T',R.le R'∧z7 E R' S' H'∧A7 E R' T' avs'∧T'.length=n∧Q T' S'
theorem a7H.le{R R1:Fz}(h:R.le R1){n:Nat}{Q:List D→b8→Prop}{avs':List AV}{H':AHeap}(hp:a7H E R1 n Q avs' H'):a7H E R n Q avs' H':=by
 obtain⟨F,R',S',T',a,b⟩:=hp
 exact⟨F,R',S',T',Fz.le_trans h a,b⟩
theorem d1w{R0 R:Fz}(hle:R0.le R){S:b8}{H:AHeap}{T:List D}{avs:List AV}{ops:Array Oper}(F:D4 H)(hC:z7 E R S H)(hT:A7 E R T avs){o:Oper}{x:Operand}(hx:c1x o=some x)(h:b1P E w0 (t7 T x) S){Q:AV→AHeap→Prop}:a5g P E (w0.at E R0) ops avs H o Q:=by
 obtain⟨hp,h⟩:=h
 have hr:=q7 hT x
 obtain⟨dst,op,type,pos,after,guard⟩:=o
 unfold c1x at hx
 split at hx
 ·rename_i hg
  simp only at hg
  subst hg
  split at hx
  ·rename_i y hy
   simp only at hy
   subst hy
   cases hx
   unfold a5g a1e a9S c4I
   simp only[opA]
   unfold d2z
   refine .inl ⟨?_,F,R,S,t7 T x,hle,hC,hr,h⟩
   obtain⟨t,v,e⟩:=hp
   rw[e]at hr
   simp only[Rp]at hr
   obtain⟨v',e',_⟩:=hr
   exact⟨t,v',e'⟩
  ·cases hx
 ·cases hx
theorem d3U{R0:Fz}{ops:Array Oper}:∀ {l:List Oper} {T:List D} {avs:List AV} {S:b8} {H:AHeap} {R:Fz} {Q:List D→b8→Prop},R0.le R→D4 H→z7 E R S H→A7 E R T avs→c4R P (j8 P E w0) (b1P E w0) ops l T S Q→b8k P E (w0.at E R0) ops l avs H (a7H E R T.length Q)
 | [],T,avs,S,H,R,Q,h0,F,hC,hT,h=>by
  simp only[c4R,a8z]at h
  exact⟨F,R,S,T,Fz.le_refl R,hC,hT,rfl,h⟩
 |o::l,T,avs,S,H,R,Q,h0,F,hC,hT,h=>by
  simp only[c4R,a8z,c2H]at h
  have next:∀ {d:D} {v:AV} {R':Fz} {S':b8} {H':AHeap},R.le R'→D4 H'→z7 E R' S' H'→Rp E R' d v→c4R P (j8 P E w0) (b1P E w0) ops l (c0X T o.dst d) S' Q→b8k P E (w0.at E R0) ops l (a3c avs o.dst v) H' (a7H E R T.length Q):=by
   intro d v R' S' H' hle F' hC' hd h'
   have:=d3U (Fz.le_trans h0 hle) F' hC' (d1v (A7.le hle _ _ hT) o.dst hd) h'
   rw[b9G]at this
   exact b9p (fun _ _=>a7H.le hle) this
  have val:u7 P o≤1→(b7 (d2n P ops T S o) fun v=>c4R P (j8 P E w0) (b1P E w0) ops l (c0X T o.dst v) S Q)→b8k P E (w0.at E R0) ops (o::l) avs H (a7H E R T.length Q):=by
   intro hk h
   unfold b7 at h
   split at h
   ·rename_i d hd
    obtain⟨v,h1,h2⟩:=d1h hT hC hd
    rw[b8k,if_pos hk]
    exact⟨v,by rw[b7c hk];exact h2 H (hC.agr _),next (Fz.le_refl R) F hC h1 h⟩
   ·exact h.elim
  cases ha:b3P o with
  |some x=>
   simp only[ha]at h
   obtain⟨hk,hv⟩:=c1K (P:=P) (E:=E) ha
   rw[b8k,if_pos (by omega)]
   exact⟨_,by rw[b7c (by omega)];exact hv ops avs H,next (Fz.le_refl R) F hC (q7 hT _) h⟩
  |none=>
   simp only[ha]at h
   rcases hk:u7 P o with _|_|k
   ·simp only[hk]at h;exact val (by omega) h
   ·simp only[hk]at h;exact val (by omega) h
   ·simp only[hk]at h
    rw[b8k,if_neg (by omega)]
    split at h
    ·rename_i x hx;exact d1w h0 F hC hT hx h
    ·refine a4o (d1Z (c2r c2a (c7Y (goF h0 F hC) F hC hT h) fun v H' hq=>hq)) ?_
     rintro v H' ⟨F',R',S',d,hle,hC',hd,h'⟩
     exact next hle F' hC' hd h'
def d6C(P:Program)(E:j2)(ops:Array Oper)(R:Fz)(x:Oper×List D×b8)(y:s7):Prop:=
 x.1=y.o∧(u7 P y.o=1→∃Rd:Fz,Rd.le R∧∀H',Agr Rd x.2.2 (b1G P x.2.1 x.1) H'→d0Z P E ops y.T H' y.o=some y.v)
def DsC(P:Program)(E:j2)(ops:Array Oper)(R:Fz):List (Oper×List D×b8)→List s7→Prop
 | [],[]=>True
 |x::xs,y::ys=>d6C P E ops R x y∧DsC P E ops R xs ys
 |_,_=>False
theorem DsC.le{ops:Array Oper}{R R':Fz}(hle:R.le R'):∀ {xs:List (Oper×List D×b8)} {ys:List s7},DsC P E ops R xs ys→DsC P E ops R' xs ys
 | [],[],h=>h
 |x::xs,y::ys,h=>⟨⟨h.1.1,fun k=>let ⟨Rd,a,b⟩:=h.1.2 k;⟨Rd,Fz.le_trans a hle,b⟩⟩,DsC.le hle h.2⟩
 | [],_::_,h=>h.elim
 |_::_,[],h=>h.elim
theorem DsC.snoc{ops:Array Oper}{R:Fz}{x:Oper×List D×b8}{y:s7}(h1:d6C P E ops R x y):∀ {xs:List (Oper×List D×b8)} {ys:List s7},DsC P E ops R xs ys→DsC P E ops R (xs++[x]) (ys++[y])
 | [],[],h=>⟨h1,trivial⟩
 |x::xs,y::ys,h=>⟨h.1,DsC.snoc h1 h.2⟩
 | [],_::_,h=>h.elim
 |_::_,[],h=>h.elim
theorem c5B{ops:Array Oper}{R R':Fz}(hle:R.le R'){S':b8}{H':AHeap}(hC:z7 E R' S' H'){anc:Nat}{K:Prop}:∀ {xs:List (Oper×List D×b8)} {ys:List s7} {j:Nat},DsC P E ops R xs ys→b8o P S' anc K j xs→
  K∧∀(i:Nat) (d:s7),ys[i]? =some d→u7 P d.o=1→anc.testBit (j+i)=false→b5s P E ops d.T H' d.o=some d.v
 | [],[],j,_,h=>⟨h,fun i d e=>by simp at e⟩
 |x::xs,y::ys,j,⟨⟨e1,e2⟩,hd⟩,h=>by
  have step:∀(hK:b8o P S' anc K (j+1) xs),(u7 P y.o=1→anc.testBit j=false→b8F P x.2.1 x.1 x.2.2 S')→K∧∀(i:Nat) (d:s7),(y::ys)[i]? =some d→u7 P d.o=1→anc.testBit (j+i)=false→b5s P E ops d.T H' d.o=some d.v:=fun hK hf=>by
   obtain⟨k1,k2⟩:=c5B hle hC hd hK
   refine⟨k1,fun i d hi hk ha=> ?_⟩
   cases i with
   |zero=>
    simp at hi
    subst hi
    obtain⟨Rd,g1,g2⟩:=e2 hk
    have hft:=hf hk (by simpa using ha)
    rw[b7c (by omega)]
    exact g2 H' ⟨fun j cs e=>let ⟨w,pre,g⟩:=hC.frozen j cs (hle _ _ (g1 _ _ e));⟨w,pre,g⟩,fun j o' hj hjS hoc=>by
     rw[←c5x hft hj]at hjS
     obtain⟨_,⟨pre,g⟩,_⟩:=hC.cells hjS hoc
     exact⟨_,pre,g⟩,fun j o' rows hj hjS hm=>by
     rw[←c5x hft hj]at hjS
     obtain⟨_,es,cl,a,g,_⟩:=hC.mapAt hjS hm
     exact⟨es,cl,a,g⟩⟩
   |succ i=>exact k2 i d (by simpa using hi) hk (by rw[Nat.add_assoc,Nat.add_comm 1 i];exact ha)
  simp only[b8o]at h
  split at h
  ·exact step h.2 fun _ _=>h.1
  ·rename_i hc
   refine step h fun hk ha=>c9F ?_
   rw[e1]at hc ⊢
   simp only[hk,ha,Bool.not_false,Bool.and_true,beq_self_eq_true,Bool.true_and,Bool.not_eq_true]at hc
   exact hc
 | [],_::_,_,h,_=>h.elim
 |_::_,[],_,h,_=>h.elim
theorem c9Q{R0:Fz}{ops:Array Oper}:∀ {l:List s7} {xs:List (Oper×List D×b8)} {ys:List s7} {T:List D} {avs:List AV} {S:b8} {H:AHeap} {R:Fz} {Q:List D→b8→Prop},R0.le R→D4 H→z7 E R S H→A7 E R T avs→DsC P E ops R xs ys→b7j P (j8 P E w0) (b1P E w0) ops l xs T S Q→a9D P E (w0.at E R0) ops l ys avs H (a7H E R T.length Q)
 | [],xs,ys,T,avs,S,H,R,Q,h0,F,hC,hT,hD,h=>by
  simp only[b7j,a8z]at h
  exact⟨F,R,S,T,Fz.le_refl R,hC,hT,rfl,h⟩
 |s::l,xs,ys,T,avs,S,H,R,Q,h0,F,hC,hT,hD,h=>by
  simp only[b7j,a8z,c2H]at h
  have next:∀ {d:D} {v:AV} {R':Fz} {S':b8} {H':AHeap},R.le R'→D4 H'→z7 E R' S' H'→Rp E R' d v→d6C P E ops R' (s.o,T,S) ⟨s.o,s.anc,avs,v,0,0,s.wr,[]⟩→b7j P (j8 P E w0) (b1P E w0) ops l (xs++[(s.o,T,S)]) (c0X T s.o.dst d) S' Q→a9D P E (w0.at E R0) ops l (ys++[⟨s.o,s.anc,avs,v,0,0,s.wr,[]⟩]) (a3c avs s.o.dst v) H' (a7H E R T.length Q):=by
   intro d v R' S' H' hle F' hC' hd he h'
   have:=c9Q (Fz.le_trans h0 hle) F' hC' (d1v (A7.le hle _ _ hT) s.o.dst hd) ((hD.le hle).snoc he) h'
   rw[b9G]at this
   exact b8Y (fun _ _=>a7H.le hle) this
  have val:u7 P s.o≤1→(b7 (d2n P ops T S s.o) fun v=>b7j P (j8 P E w0) (b1P E w0) ops l (xs++[(s.o,T,S)]) (c0X T s.o.dst v) S Q)→a9D P E (w0.at E R0) ops (s::l) ys avs H (a7H E R T.length Q):=by
   intro hk h
   unfold b7 at h
   split at h
   ·rename_i d hd
    obtain⟨v,h1,h2⟩:=d1h hT hC hd
    rw[a9D,if_pos hk]
    exact⟨v,by rw[b7c hk];exact h2 H (hC.agr _),next (Fz.le_refl R) F hC h1 ⟨rfl,fun _=>⟨R,Fz.le_refl R,h2⟩⟩ h⟩
   ·exact h.elim
  cases ha:b3P s.o with
  |some x=>
   simp only[ha]at h
   obtain⟨hk,hv⟩:=c1K (P:=P) (E:=E) ha
   rw[a9D,if_pos (by omega)]
   exact⟨_,by rw[b7c (by omega)];exact hv ops avs H,next (Fz.le_refl R) F hC (q7 hT _) ⟨rfl,fun hk1=>by simp only at hk1;omega⟩ h⟩
  |none=>
   simp only[ha]at h
   rcases hk:u7 P s.o with _|_|k
   ·simp only[hk]at h;exact val (by omega) h
   ·simp only[hk]at h;exact val (by omega) h
   ·simp only[hk]at h
    rw[a9D,if_neg (by omega)]
    split at h
    ·rename_i x hx;exact d1w h0 F hC hT hx h
    ·refine a4o (d1Z (c2r c2a (c7Y (goF h0 F hC) F hC hT h) fun v H' hq=>hq)) ?_
     rintro v H' ⟨F',R',S',d,hle,hC',hd,h'⟩
     obtain⟨k1,k2⟩:=c5B hle hC' hD h'
     exact⟨fun i d hi hk1 ha=>k2 i d hi hk1 (by rw[Nat.zero_add];exact ha),next hle F' hC' hd ⟨rfl,fun hk1=>by simp only at hk1;omega⟩ k1⟩
end
end
section
section
variable(P:Program)(E:j2)(w0:j9)
def d6m(E:j2)(R:Fz)(n:Nat)(Q:o8→List D→b8→Prop)(ex:o8)(avs':List AV)(H':AHeap):Prop:=a7H E R n (Q ex) avs' H'
def j1(c:Code)(T:List D)(S:b8)(Q:o8→List D→b8→Prop):Prop:=
 ∀R H avs,D4 H→z7 E R S H→A7 E R T avs→M1 P E (w0.at E R) c avs H (d6m E R T.length Q)
end
def a9z:List D→List Nat→List D→List D
 |T,i::L,v::vs=>a9z (T.set i v) L vs
 |T,_,_=>T
def m6(n:Nat)(L:List Nat)(vs:List D):List D:=a9z (List.replicate n .any) L vs
def a9y(T:List D):List Nat→List D
 | []=>[]
 |i::L=>T.getD i b9::a9y T L
def i6(c:D)(a b:Prop):Prop:=match c with
 | .bool true=>a
 | .bool false=>b
 |_=>False
def q8(id:Nat)(Q:o8→List D→b8→Prop):o8→List D→b8→Prop
 | .exit id',T,S=>if id'=id then Q .normal T S else Q (.exit id') T S
 |e,T,S=>Q e T S
def d1i{α:Type}(k:Nat):List (Nat×α)→Option α
 | []=>none
 |(i,L)::l=>if i=k then some L else d1i k l
def hdD:Code→Option Nat
 | .region id _ _=>some (2*id)
 | .seq a b=>match hdD a with
  |some k=>some k
  |none=>hdD b
 | .cond _ a b=>match hdD a with
  |some k=>some (2*k+1)
  |none=>match hdD b with
   |some k=>some (2*k+1)
   |none=>none
 | .block _ c| .loop c=>hdD c
 |_=>none
def d8y(cuts:List (Nat×List Nat))(c:Code):Option (List Nat):=match hdD c with
 |some id=>d1i id cuts
 |none=>none
section
variable(P:Program)(E:j2)(w0:j9)(loops cuts:List (Nat×List Nat))(arrs:List (Nat×O6))
def vcD:Code→List D→b8→(o8→List D→b8→Prop)→Prop
 | .skip,T,S,Q=>Q .normal T S
 | .label _,T,S,Q=>Q .normal T S
 | .ret,T,S,Q=>Q .ret T S
 | .exit id,T,S,Q=>Q (.exit id) T S
 | .region id ops draw,T,S,Q=>match draw with
  |false=>c4R P (j8 P E w0) (b1P E w0) ops ops.toList T S (Q .normal)
  |true=>match d1i id arrs with
   |some t=>if a9h ops&&c1P ops then b3g P ops (fun ops' sd=>b7j P (j8 P E w0) (b1P E w0) ops' sd [] T S (Q .normal)) t []else False
   |none=>match b2u P ops ops.toList []with
    |some sd=>b7j P (j8 P E w0) (b1P E w0) ops sd [] T S (Q .normal)
    |none=>False
 | .seq a b,T,S,Q=>match d8y cuts b with
  |some L=>vcD a T S fun ex T' S'=>match ex with
   | .normal=>j1 P E w0 b (m6 T.length L (a9y T' L)) S' Q
   |e=>Q e T' S'
  |none=>vcD a T S fun ex T' S'=>match ex with
   | .normal=>vcD b T' S' Q
   |e=>Q e T' S'
 | .cond c a b,T,S,Q=>i6 (t7 T c) (vcD a T S Q) (vcD b T S Q)
 | .block id c,T,S,Q=>vcD c T S (q8 id Q)
 | .loop c,T,S,Q=>match d8y loops c with
  |some L=>j1 P E w0 (.loop c) (m6 T.length L (a9y T L)) S Q
  |none=>j1 P E w0 (.loop c) T S Q
 |_,_,_,_=>False
end
section
variable(P:Program)(E:j2)(w0:j9)(loops cuts:List (Nat×List Nat))(arrs:List (Nat×O6))
def H4(b:Code)(Q:o8→List D→b8→Prop)(ex:o8)(T:List D)(S:b8):Prop:=match ex with
 | .normal=>vcD P E w0 loops cuts arrs b T S Q
 |e=>Q e T S
def d3A(n:Nat)(L:List Nat)(b:Code)(Q:o8→List D→b8→Prop)(ex:o8)(T:List D)(S:b8):Prop:=match ex with
 | .normal=>j1 P E w0 b (m6 n L (a9y T L)) S Q
 |e=>Q e T S
end
def B0(N:List D→b8→Prop)(Q:o8→List D→b8→Prop)(ex:o8)(T:List D)(S:b8):Prop:=match ex with
 | .normal=>N T S
 |e=>Q e T S
def b3F(P:Program)(S:b8)(T:List D):List ResultVar→(List D→Prop)→Prop
 | [],K=>K []
 | .tmp t::l,K=>b3F P S T l fun vs=>K (T.getD t b9::vs)
 | .cell a t::l,K=>b7 (d1j P S t (T.getD a b9)) fun v=>b3F P S T l fun vs=>K (v::vs)
def d4x:List D→D
 | [v]=>v
 |vs=> .tup vs
def F5(P:Program)(fn:Func)(Q:D→b8→Prop):o8→List D→b8→Prop
 | .exit _,_,_=>False
 |_,T,S=>b3F P S T fn.results.toList fun vs=>Q (d4x vs) S
def d9(E:j2)(Q:D→b8→Prop)(d:D)(S:b8):Prop:=
 ∀R H v,z7 E R S H→Rp E R d v→∃R' S' d',R.le R'∧z7 E R' S' H∧Rp E R' d' v∧Q d' S'
section
variable{P:Program}{E:j2}{w0:j9}
theorem j1.mono{c:Code}{T:List D}{S:b8}{Q Q':o8→List D→b8→Prop}(h:j1 P E w0 c T S Q)(hq:∀ex T' S',T'.length=T.length→Q ex T' S'→Q' ex T' S'):j1 P E w0 c T S Q':=fun R H avs F hC hT=>
 (h R H avs F hC hT).mono fun ex T' H' ⟨F',R',S',T1,a,b,c,d,e⟩=>⟨F',R',S',T1,a,b,c,d,hq _ _ _ d e⟩
theorem j8.use{f:FuncId}{ds:List D}{S:b8}{Q Q':D→b8→Prop}(h:j8 P E w0 f ds S Q)(hq:∀d S',Q d S'→Q' d S'):j8 P E w0 f ds S Q':=fun R H avs hFi hC ha=>
 (h R H avs hFi hC ha).mono fun v H' ⟨F',R',S',d,a,b,c,e⟩=>⟨F',R',S',d,a,b,c,hq _ _ e⟩
theorem b4D:∀(T:List D) (L:List Nat) (vs:List D),(a9z T L vs).length=T.length
 |T,i::L,v::vs=>by rw[a9z,b4D,List.length_set]
 |T,[],_=>by simp[a9z]
 |T,_::_,[]=>by simp[a9z]
theorem m7(n:Nat)(L:List Nat)(vs:List D):(m6 n L vs).length=n:=by rw[m6,b4D,List.length_replicate]
theorem d1z{R:Fz}:∀ {avs:List AV},A7 E R (List.replicate avs.length .any) avs
 | []=>D6
 |v::avs=>s9 b9f d1z
theorem d5O{R:Fz}{T:List D}{avs:List AV}(h:A7 E R T avs)(L:List Nat):A7 E R (m6 T.length L (a9y T L)) avs:=by
 have main:∀(L:List Nat) (T0:List D),T0.length=T.length→A7 E R T0 avs→A7 E R (a9z T0 L (a9y T L)) avs:=by
  intro L
  induction L with
  |nil=>intro T0 hl h0;simpa [a9z,a9y]using h0
  |cons i L ih=>
   intro T0 hl h0
   simp only[a9y,a9z]
   refine ih _ (by rw[List.length_set,hl]) ?_
   by_cases hi:i<T.length
   ·have hlen:=h.length
    have:=h0.set i (b6n h i)
    rw[List.getD_eq_getElem?_getD (l:=avs),List.getElem?_eq_getElem (by omega),Option.getD_some,List.set_getElem_self]at this
    exact this
   ·rw[List.set_eq_of_length_le (by omega)]
    exact h0
 refine main L _ (by rw[List.length_replicate]) ?_
 rw[←h.length]
 exact d1z
theorem p8{c:Code}{T:List D}{S:b8}{Q:o8→List D→b8→Prop}{n:Nat}(L:List Nat)(hn:T.length=n)(h:j1 P E w0 c (m6 n L (a9y T L)) S Q):j1 P E w0 c T S Q:=fun R H avs F hC hT=>by
 have:=h R H avs F hC (by rw[←hn];exact d5O hT L)
 rw[m7, ←hn]at this
 exact this
theorem o7{c:Code}{Q:o8→List D→b8→Prop}{I:Nat→List D→b8→Prop}{k:Nat}
  (step:∀n T S,T.length=k→I n T S→j1 P E w0 c T S fun ex T' S'=>match ex with| .normal=>∃m,m<n∧I m T' S'|e=>Q e T' S')
  {n:Nat} {T:List D} {S:b8} (hk:T.length=k) (h:I n T S):j1 P E w0 (.loop c) T S Q:=fun R H avs F hC hT=>by
 refine d0C (I:=fun n avs H=>a7H E R k (I n) avs H) (fun n avs H hI=> ?_) (n:=n) ⟨F,R,S,T,Fz.le_refl R,hC,hT,hk,h⟩
 obtain⟨F1,R1,S1,T1,a,b,c1,d,e⟩:=hI
 refine(M1.at_le a (step n T1 S1 d e R1 H avs F1 b c1)).mono fun ex T' H' hq=> ?_
 cases ex with
 |normal=>
  obtain⟨F2,R2,S2,T2,a2,b2,c2,d2,m,hm,e2⟩:=hq
  exact⟨m,hm,F2,R2,S2,T2,Fz.le_trans a a2,b2,c2,by rw[d2,d],e2⟩
 |exit id=>
  obtain⟨F2,R2,S2,T2,a2,b2,c2,d2,e2⟩:=hq
  exact⟨F2,R2,S2,T2,Fz.le_trans a a2,b2,c2,by rw[d2,d,hk],e2⟩
 |ret=>
  obtain⟨F2,R2,S2,T2,a2,b2,c2,d2,e2⟩:=hq
  exact⟨F2,R2,S2,T2,Fz.le_trans a a2,b2,c2,by rw[d2,d,hk],e2⟩
theorem d2r{id:Nat}{ops:Array Oper}{T:List D}{S:b8}{Q:o8→List D→b8→Prop}(h:c4R P (j8 P E w0) (b1P E w0) ops ops.toList T S (Q .normal)):j1 P E w0 (.region id ops false) T S Q:=fun R H avs F hC hT=>c7k (c6j (d3U (Fz.le_refl R) F hC hT h))
theorem c9L(hm:P.follows .mixedOrders=true){id:Nat}{ops:Array Oper}{sd:List s7}(hB:b2u P ops ops.toList []=some sd){T:List D}{S:b8}{Q:o8→List D→b8→Prop}(h:b7j P (j8 P E w0) (b1P E w0) ops sd [] T S (Q .normal)):j1 P E w0 (.region id ops true) T S Q:=fun R H avs F hC hT=>d0T hm hB (c9Q (xs:=[]) (ys:=[]) (Fz.le_refl R) F hC hT trivial h)
theorem c8g(hm:P.follows .mixedOrders=true){id:Nat}{ops:Array Oper}{t:O6}{T:List D}{S:b8}{Q:o8→List D→b8→Prop}(h:if a9h ops&&c1P ops then b3g P ops (fun ops' sd=>b7j P (j8 P E w0) (b1P E w0) ops' sd [] T S (Q .normal)) t []else False):j1 P E w0 (.region id ops true) T S Q:=fun R H avs F hC hT=>by
 split at h
 ·rename_i hok
  simp only[Bool.and_eq_true]at hok
  exact c9t hm hok.1 hok.2 (h.mono fun ops' sd ho=>c9Q (xs:=[]) (ys:=[]) (Fz.le_refl R) F hC hT trivial ho)
 ·exact h.elim
variable{loops cuts:List (Nat×List Nat)}{arrs:List (Nat×O6)}
theorem b2W(hm:P.follows .mixedOrders=true):∀(c:Code) (T:List D) (S:b8) (Q:o8→List D→b8→Prop),vcD P E w0 loops cuts arrs c T S Q→j1 P E w0 c T S Q
 | .skip,T,S,Q,h=>fun R H avs F hC hT=>d0S ⟨F,R,S,T,Fz.le_refl R,hC,hT,rfl,h⟩
 | .label _,T,S,Q,h=>fun R H avs F hC hT=>c9x ⟨F,R,S,T,Fz.le_refl R,hC,hT,rfl,h⟩
 | .ret,T,S,Q,h=>fun R H avs F hC hT=>d2H ⟨F,R,S,T,Fz.le_refl R,hC,hT,rfl,h⟩
 | .exit id,T,S,Q,h=>fun R H avs F hC hT=>d0P ⟨F,R,S,T,Fz.le_refl R,hC,hT,rfl,h⟩
 | .region _ ops false,T,S,Q,h=>d2r h
 | .region id ops true,T,S,Q,h=>by
  change (match d1i id arrs with
   |some t=>if a9h ops&&c1P ops then b3g P ops (fun ops' sd=>b7j P (j8 P E w0) (b1P E w0) ops' sd [] T S (Q .normal)) t []else False
   |none=>match b2u P ops ops.toList []with
    |some sd=>b7j P (j8 P E w0) (b1P E w0) ops sd [] T S (Q .normal)
    |none=>False)at h
  split at h
  ·exact c8g hm h
  ·split at h
   ·rename_i sd hB;exact c9L hm hB h
   ·exact h.elim
 | .seq a b,T,S,Q,h=>fun R H avs F hC hT=>by
  simp only[vcD]at h
  have fin:j1 P E w0 a T S (fun ex T' S'=>match ex with| .normal=>j1 P E w0 b T' S' Q|e=>Q e T' S')→M1 P E (w0.at E R) (.seq a b) avs H (d6m E R T.length Q):=by
   intro h
   refine d2P ((h R H avs F hC hT).mono fun ex T' H' hq=> ?_)
   cases ex with
   |normal=>
    obtain⟨F2,R2,S2,T2,a2,b2,c2,d2,e2⟩:=hq
    have:=e2 R2 H' T' F2 b2 c2
    rw[d2]at this
    exact(M1.at_le a2 this).mono fun ex T' H' hq=>a7H.le a2 hq
   |exit id=>exact hq
   |ret=>exact hq
  split at h
  ·rename_i L hL
   refine fin ((b2W hm a T S _ h).mono fun ex T' S' hl hq=> ?_)
   cases ex with
   |normal=>exact p8 L hl hq
   |exit id=>exact hq
   |ret=>exact hq
  ·refine fin ((b2W hm a T S _ h).mono fun ex T' S' hl hq=> ?_)
   cases ex with
   |normal=>exact b2W hm b T' S' Q hq
   |exit id=>exact hq
   |ret=>exact hq
 | .cond c a b,T,S,Q,h=>fun R H avs F hC hT=>by
  simp only[vcD]at h
  have hr:=q7 hT c
  unfold i6 at h
  split at h
  ·rename_i e
   rw[e]at hr
   simp only[Rp]at hr
   exact c3x (by rw[hr];exact b2W hm a T S Q h R H avs F hC hT)
  ·rename_i e
   rw[e]at hr
   simp only[Rp]at hr
   exact c3x (by rw[hr];exact b2W hm b T S Q h R H avs F hC hT)
  ·exact h.elim
 | .block id c,T,S,Q,h=>fun R H avs F hC hT=>by
  refine c8H ((b2W hm c T S _ h R H avs F hC hT).mono fun ex T' H' hq=> ?_)
  cases ex with
  |normal=>exact hq
  |ret=>exact hq
  |exit id'=>
   obtain⟨F2,R2,S2,T2,a2,b2,c2,d2,e2⟩:=hq
   simp only[q8]at e2
   simp only[d0V]
   split at e2
   ·rename_i e;rw[if_pos e];exact⟨F2,R2,S2,T2,a2,b2,c2,d2,e2⟩
   ·rename_i e;rw[if_neg e];exact⟨F2,R2,S2,T2,a2,b2,c2,d2,e2⟩
 | .loop c,T,S,Q,h=>by
  simp only[vcD]at h
  split at h
  ·rename_i L hL;exact p8 L rfl h
  ·exact h
 | .rangeFunc ..,T,S,Q,h=>h.elim
 | .scope ..,T,S,Q,h=>h.elim
 | .goto ..,T,S,Q,h=>h.elim
 | .refuse ..,T,S,Q,h=>h.elim
theorem b5p{R:Fz}{S:b8}{H:AHeap}{T:List D}{avs:List AV}(hC:z7 E R S H)(hT:A7 E R T avs):∀ {l:List ResultVar} {K:List D→Prop} {K':List AV→Prop},(∀ds vs,A7 E R ds vs→K ds→K' vs)→b3F P S T l K→a4z P E H avs l K'
 | [],K,K',hk,h=>hk [] [] D6 h
 | .tmp t::l,K,K',hk,h=>by
  have:=b5p (l:=l) (K':=fun vs=>K' (avs.getD t C1::vs)) hC hT (fun ds vs hr hK=>hk (T.getD t b9::ds) (avs.getD t C1::vs) (s9 (b6n hT t) hr) hK) h
  exact this
 | .cell a t::l,K,K',hk,h=>by
  simp only[b3F]at h
  unfold b7 at h
  split at h
  ·rename_i d hd
   have ha:=b6n hT a
   obtain⟨v,h1,h2⟩:=d1Y hC ha hd
   have h2:=h2 H (hC.agr _)
   have:=b5p (l:=l) (K':=fun vs=>K' (v::vs)) hC hT (fun ds vs hr hK=>hk (d::ds) (v::vs) (s9 h1 hr) hK) h
   simp only[a4z]
   unfold d1C at h2
   split at h2
   ·rename_i o i e
    simp only[e,h2,b3J]
    exact this
   ·cases h2
  ·exact h.elim
theorem d5E{R:Fz}{ds:List D}{vs:List AV}(h:A7 E R ds vs):Rp E R (d4x ds) (c5R vs):=by
 rcases ds with _|⟨d,_|⟨d',ds⟩⟩
 ·simp only[A7]at h;subst h;exact a1s
 ·simp only[A7]at h
  obtain⟨v,_,rfl,h1,rfl⟩:=h
  exact h1
 ·have h':=h
  simp only[A7]at h
  obtain⟨v,_,rfl,h1,v2,vs',rfl,h2,h3⟩:=h
  show Rp E R (.tup (d::d'::ds)) (.tup (v::v2::vs'))
  simp only[Rp]
  exact⟨_,rfl,h'⟩
theorem c9e{f:FuncId}{fn:Func}{c:Code}(hfn:P.funcs[f]? =some fn)(hb:fn.body=some c){ds:List D}{S:b8}{Q:D→b8→Prop}
  (h:j1 P E w0 c (ds++List.replicate (fn.ntmps - ds.length) b9) S (F5 P fn (d9 E Q))):j8 P E w0 f ds S Q:=fun R H avs F hC ha=>by
 have hrow:A7 E R (ds++List.replicate (fn.ntmps - ds.length) b9) (avs++List.replicate (fn.ntmps - avs.length) C1):=by
  refine ha.append ?_
  rw[ha.length]
  generalize fn.ntmps - ds.length=m
  induction m with
  |zero=>exact D6
  |succ m ih=>exact s9 a1s ih
 have h':M1 P E (w0.at E R) c (avs++List.replicate (fn.ntmps - avs.length) C1) H (d8C P E fn (W5 E R Q)):=by
  refine(h R H _ F hC hrow).mono fun ex T' H' hq=> ?_
  obtain⟨F2,R2,S2,T2,a2,b2,c2,d2,e2⟩:=hq
  have go:∀ {l:List ResultVar},b3F P S2 T2 l (fun vs=>d9 E Q (d4x vs) S2)→a4z P E H' T' l fun vs=>W5 E R Q (c5R vs) H':=fun h=>b5p b2 c2 (fun ds vs hr hK=>by
   obtain⟨R',S',d',k1,k2,k3,k4⟩:=hK R2 H' _ b2 (d5E hr)
   exact⟨F2,R',S',d',Fz.le_trans a2 k1,k2,k3,k4⟩) h
  cases ex with
  |normal=>exact go e2
  |ret=>exact go e2
  |exit id=>exact e2
 exact c8X hfn hb h'
theorem j0(loops cuts:List (Nat×List Nat))(arrs:List (Nat×O6))(hm:P.follows .mixedOrders=true){f:FuncId}{fn:Func}{c:Code}(hfn:P.funcs[f]? =some fn)(hb:fn.body=some c){ds:List D}{S:b8}{Q:D→b8→Prop}{V:Prop}
  (e:vcD P E w0 loops cuts arrs c (ds++List.replicate (fn.ntmps - ds.length) b9) S (F5 P fn (d9 E Q))=V) (h:V):j8 P E w0 f ds S Q:=
 c9e hfn hb (b2W hm _ _ _ _ (e▸h))
theorem j3(loops cuts:List (Nat×List Nat))(arrs:List (Nat×O6))(hm:P.follows .mixedOrders=true){c:Code}{T:List D}{S:b8}{Q:o8→List D→b8→Prop}{V:Prop}(e:vcD P E w0 loops cuts arrs c T S Q=V)(h:V):j1 P E w0 c T S Q:=
 b2W hm _ _ _ _ (e▸h)
theorem d9.here{Q:D→b8→Prop}{d:D}{S:b8}(h:Q d S):d9 E Q d S:=fun R H v hC hd=>⟨R,S,d,Fz.le_refl R,hC,hd,h⟩
theorem d9.less{Q:D→b8→Prop}{d:D}{S S':b8}(hs:S'.le S)(h:d9 E Q d S'):d9 E Q d S:=fun R H v hC hd=>h R H v (hC.less hs) hd
theorem d9.mono{Q Q':D→b8→Prop}{d:D}{S:b8}(h:d9 E Q d S)(hq:∀d S,Q d S→Q' d S):d9 E Q' d S:=fun R H v hC hd=>by
 obtain⟨R',S',d',a,b,c,e⟩:=h R H v hC hd
 exact⟨R',S',d',a,b,c,hq _ _ e⟩
theorem d9.freeze{Q:D→b8→Prop}{S:b8}{k:Nat}{o:D5}(hk:S k=some o){i len cap:Nat}{ex:Bool}{sz:Nat}(hsz:o.sz=sz)(hl:i+len≤o.rows.length)(hc:len≤cap)
  (h:d9 E Q (.lst ((o.rows.drop i).take len) sz) (S.erase k)):d9 E Q (.raw k i len cap ex sz) S:=fun R H v hC hd=>by
 have hzm:sz<Q3:=by simp only[Rp]at hd;exact hd.1
 obtain⟨h1,h2⟩:=hC.freeze hk (.inl (by rw[hsz];exact hzm))
 obtain⟨R',S',d',a,b,c,e⟩:=h _ H v h1 (b3G hC hk hd hsz hl hc)
 exact⟨R',S',d',Fz.le_trans h2 a,b,c,e⟩
theorem d9.freezeT{Q:D→b8→Prop}{S:b8}{k:Nat}{o:D5}(hk:S k=some o){i len cap:Nat}{ex:Bool}{sz:Nat}(hsz:o.sz=sz)(hl:i+len≤o.rows.length)(hc:len≤cap){lp lq:List D}
  (h:d9 E Q (.tup (lp++ .lst ((o.rows.drop i).take len) sz::lq)) (S.erase k)):d9 E Q (.tup (lp++ .raw k i len cap ex sz::lq)) S:=fun R H v hC hd=>by
 simp only[Rp]at hd
 obtain⟨vs,rfl,hv⟩:=hd
 obtain⟨v1,v2,rfl,g1,g2⟩:=a5V hv
 simp only[A7]at g2
 obtain⟨w,ws,rfl,g3,g4⟩:=g2
 have hzm:sz<Q3:=by simp only[Rp]at g3;exact g3.1
 obtain⟨h1,h2⟩:=hC.freeze hk (.inl (by rw[hsz];exact hzm))
 obtain⟨R',S',d',a,b,c,e⟩:=h _ H (.tup (v1++w::ws)) h1 (by
  simp only[Rp]
  exact⟨_,rfl,(A7.le h2 _ _ g1).append (s9 (b3G hC hk g3 hsz hl hc) (A7.le h2 _ _ g4))⟩)
 exact⟨R',S',d',Fz.le_trans h2 a,b,c,e⟩
theorem d9.nil{Q:D→b8→Prop}{S:b8}{sz:Nat}(h:d9 E Q (.lst [] sz) S):d9 E Q .nilSlc S:=fun R H v hC hd=>h R H v hC (by simp only[Rp]at hd ⊢;exact .inl ⟨trivial,hd⟩)
theorem d9.nilT{Q:D→b8→Prop}{S:b8}{sz:Nat}{lp lq:List D}(h:d9 E Q (.tup (lp++ .lst [] sz::lq)) S):d9 E Q (.tup (lp++ .nilSlc::lq)) S:=fun R H v hC hd=>h R H v hC (by
 simp only[Rp]at hd ⊢
 obtain⟨vs,rfl,hv⟩:=hd
 obtain⟨v1,v2,rfl,g1,g2⟩:=a5V hv
 simp only[A7]at g2
 obtain⟨w,ws,rfl,g3,g4⟩:=g2
 exact⟨_,rfl,g1.append (s9 (by simp only[Rp]at g3 ⊢;exact .inl ⟨trivial,g3⟩) g4)⟩)
def K9(P:Program)(E:j2)(w0:j9)(f:FuncId)(ds:List D)(d:D):Prop:=∀S,j8 P E w0 f ds S fun d' S'=>d'=d∧S'=S
theorem K9.use{f:FuncId}{ds:List D}{d:D}(h:K9 P E w0 f ds d){S:b8}{K:D→b8→Prop}(hk:K d S):j8 P E w0 f ds S K:=(h S).use fun d' S' ⟨a,b⟩=>by subst a b;exact hk
end
end
end Go.Am
end
section
open Go.Proofs Go Go.Am
namespace Go.Proofs.YtdkidgkiplcggaaGreat.d
theorem mixed:Tryz.prog.follows .mixedOrders=true:=by kernel_rfl
abbrev a3V:FuncId:=4
abbrev a4v:FuncId:=5
abbrev O0:FuncId:=6
abbrev I0:FuncId:=10
abbrev O5:FuncId:=12
abbrev a2r:FuncId:=18
abbrev a2s:FuncId:=19
abbrev b0s:FuncId:=20
abbrev a3d:FuncId:=21
abbrev Z0:FuncId:=22
abbrev a3l:FuncId:=31
abbrev a5X:FuncId:=32
abbrev E5:FuncId:=33
abbrev A2:FuncId:=34
abbrev X2:FuncId:=35
abbrev a4k:FuncId:=36
abbrev a8w:FuncId:=39
abbrev W9:FuncId:=43
abbrev B7:FuncId:=44
abbrev U2:FuncId:=45
abbrev C0:FuncId:=46
abbrev E3:FuncId:=47
abbrev a1O:FuncId:=52
abbrev C4:FuncId:=53
abbrev a5H:FuncId:=54
abbrev a6y:FuncId:=55
abbrev a0r:FuncId:=56
abbrev a1n:FuncId:=57
abbrev a0G:FuncId:=58
abbrev F9:FuncId:=59
abbrev a3x:FuncId:=60
abbrev a1z:FuncId:=61
abbrev a3b:FuncId:=66
abbrev H6:FuncId:=69
abbrev D1:FuncId:=70
abbrev a2b:FuncId:=71
abbrev a0e:FuncId:=78
abbrev a5U:FuncId:=79
abbrev B9:FuncId:=80
abbrev s5:FuncId:=81
abbrev D3:FuncId:=82
abbrev a2q:FuncId:=83
abbrev b5O:FuncId:=84
abbrev p6:FuncId:=85
abbrev i9:FuncId:=86
abbrev o5:FuncId:=87
abbrev b5i:FuncId:=88
abbrev b2n:FuncId:=89
abbrev a3g:FuncId:=94
abbrev a9J:FuncId:=95
abbrev K1:FuncId:=96
abbrev a1R:FuncId:=97
abbrev b5u:FuncId:=98
abbrev b2s:FuncId:=107
abbrev a0B:FuncId:=108
abbrev a3w:FuncId:=109
abbrev b2V:FuncId:=110
abbrev a9W:FuncId:=111
abbrev Z2:FuncId:=112
abbrev B3:FuncId:=124
abbrev a2c:FuncId:=125
abbrev a2u:FuncId:=126
abbrev L4:FuncId:=127
abbrev a1W:FuncId:=128
abbrev a2t:FuncId:=129
abbrev p9:FuncId:=130
abbrev J2:FuncId:=131
abbrev E6:FuncId:=132
abbrev N4:FuncId:=133
abbrev a2B:FuncId:=134
abbrev b2t:FuncId:=139
abbrev b2p:FuncId:=140
abbrev a8E:FuncId:=141
abbrev a1K:FuncId:=142
abbrev b0v:FuncId:=143
abbrev X4:FuncId:=144
abbrev L1:FuncId:=150
abbrev V9:FuncId:=151
abbrev a1g:FuncId:=152
abbrev R5:FuncId:=153
abbrev a3E:FuncId:=154
abbrev I1:FuncId:=155
abbrev a3D:FuncId:=156
abbrev b5w:FuncId:=157
abbrev a1C:FuncId:=158
abbrev L7:FuncId:=160
end Go.Proofs.YtdkidgkiplcggaaGreat.d
end
