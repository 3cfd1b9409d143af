/-
  ImageSpoiltSaid: part Paq of its proof.
-/
import Derived.Test.YtchnpgddpaonhaaPap
import Derived.Test.YtchnpgddpaonhaaRows
import Derived.KernelRfl
set_option linter.unusedVariables false
set_option linter.unusedSimpArgs false
set_option maxRecDepth 100000
section
namespace Go.Am
section
def b8j(T:List D)(dst:Option Tmp)(v:D):List D:=match dst with
 |some d=>T.set d v
 |none=>T
def b4v:List D→(List D→Prop)→Prop
 | [],k=>k []
 |a::l,k=>b4v l fun l'=>k (a::l')
def c9a:List D→Nat→(D→Prop)→Prop
 | [],_,k=>k b8
 |a::l,n,k=>match n with
  |0=>k a
  |n+1=>c9a l n k
def b6q(T:List D)(x:Operand)(k:D→Prop):Prop:=match x with
 | .tmp t=>c9a T t k
 |x=>k (B0 T x)
def d6(g:D)(want:Bool):Option Bool:=match g with
 | .bool b=>some (b==want)
 | .any=>none
 |_=>some false
def b9t(ops:Array Oper)(T:List D)(o:Oper):Option Bool:=
 match o.guard with
 |none=>some true
 |some (j,want)=>match (ops[j]?).bind (·.dst) with
  |none=>some false
  |some d=>match T[d]? with
   |some x=>d6 x want
   |none=>some false
def j9(g:Option Bool)(r:Option D):Option D:=match g with
 |some true=>r
 |some false=>some b8
 |none=>none
def a6e(r:Option Bool)(s:(D→b7→Prop)→Prop)(S:b7)(Q:D→b7→Prop):Prop:=match r with
 |some true=>s Q
 |some false=>Q b8 S
 |none=>False
def c9N(P:Program)(ops:Array Oper)(T:List D)(S:b7)(o:Oper):Option D:=j9 (b9t ops T o) (d4p P T S o)
def c8B(P:Program)(G:DW)(ops:Array Oper)(T:List D)(S:b7)(o:Oper)(K:D→b7→Prop):Prop:=a6e (b9t ops T o) (d4y P G T S o) S K
structure o3 where
 w:World
 X:D→b7→Prop
instance:Coe o3 World:=⟨o3.w⟩
def b1p(w:World):o3:=⟨w,fun _ _=>False⟩
def o3.at(E:m6)(w0:o3)(R:Fz):a5P:=⟨w0.w,fun v H'=>L8 H'∧∃R' S' d,R.le R'∧D5 E R' S' H'∧Rp E R' d v∧w0.X d S'⟩
def o4(P:Program)(E:m6)(w0:o3):DW:=fun f ds S Q=>∀R H avs,L8 H→D5 E R S H→A3 E R ds avs→FnW P E (w0.at E R) f avs H (Q9 E R Q)
def a0S(E:m6)(w0:o3)(d:D)(S:b7):Prop:=(∃t v,d= .ifc t v)∧w0.X d S
def b9u(o:Oper):Option Operand:=match o.guard with
 |none=>match o.op with
  | .panic x=>some x
  |_=>none
 |some _=>none
def b8x(P:Program)(G:DW)(X:D→b7→Prop)(ops:Array Oper):List Oper→List D→b7→(List D→b7→Prop)→Prop
 | [],T,S,Q=>b4v T fun T=>Q T S
 |o::l,T,S,Q=>b4v T fun T=>match b2A o with
  |some x=>b6q T x fun e=>b8x P G X ops l (b8j T o.dst e) S Q
  |none=>match y8 P o with
  |0|1=>a9 (c9N P ops T S o) fun v=>b8x P G X ops l (b8j T o.dst v) S Q
  |_=>match b9u o with
   |some x=>b6q T x fun e=>X e S
   |none=>c8B P G ops T S o fun v S'=>b8x P G X ops l (b8j T o.dst v) S' Q
def t6(x:D)(S S':b7):Prop:=match b6h x with
 |some k=>S' k=S k
 |none=>True
def b7m(T:List D)(o:Oper)(S S':b7):Prop:=match o.op with
 | .load _ a=>t6 (B0 T a) S S'
 | .convert _ _ x=>t6 (B0 T x) S S'
 |_=>True
def c8g(o:Oper):Bool:=match o.op with
 | .load .. | .convert .. =>true
 |_=>false
def b7h(P:Program)(S':b7)(anc:Nat)(K:Prop):Nat→List (Oper×List D×b7)→Prop
 |_,[]=>K
 |j,d::ds=>if(y8 P d.1==1&&c8g d.1)&& !anc.testBit j then b7m d.2.1 d.1 d.2.2 S'∧b7h P S' anc K (j+1) ds else b7h P S' anc K (j+1) ds
def b6f(P:Program)(G:DW)(X:D→b7→Prop)(ops:Array Oper):List u9→List (Oper×List D×b7)→List D→b7→(List D→b7→Prop)→Prop
 | [],_,T,S,Q=>b4v T fun T=>Q T S
 |s::l,ds,T,S,Q=>b4v T fun T=>match b2A s.o with
  |some x=>b6q T x fun e=>b6f P G X ops l (ds++[(s.o,T,S)]) (b8j T s.o.dst e) S Q
  |none=>match y8 P s.o with
  |0|1=>a9 (c9N P ops T S s.o) fun v=>b6f P G X ops l (ds++[(s.o,T,S)]) (b8j T s.o.dst v) S Q
  |_=>match b9u s.o with
   |some x=>b6q T x fun e=>X e S
   |none=>c8B P G ops T S s.o fun v S'=>b7h P S' s.anc (b6f P G X ops l (ds++[(s.o,T,S)]) (b8j T s.o.dst v) S' Q) 0 ds
section
variable{P:Program}{E:m6}{w0:o3}
theorem a7N:∀ {T:List D} {k:List D→Prop},b4v T k=k T
 | [],k=>rfl
 |a::l,k=>by simp only[b4v];rw[a7N]
theorem c6W:∀ {T:List D} {n:Nat} {k:D→Prop},c9a T n k=k (T.getD n b8)
 | [],n,k=>rfl
 |a::l,0,k=>rfl
 |a::l,n+1,k=>by simp only[c9a];rw[c6W];simp
theorem c0J{T:List D}{x:Operand}{k:D→Prop}:b6q T x k=k (B0 T x):=by
 cases x<;>first|rfl|exact c6W
theorem b7Q(T:List D)(dst:Option Tmp)(v:D):(b8j T dst v).length=T.length:=by
 cases dst with
 |none=>rfl
 |some d=>exact List.length_set
theorem c9x{R:Fz}{T:List D}{avs:List AV}(h:A3 E R T avs)(dst:Option Tmp){d:D}{v:AV}(hd:Rp E R d v):A3 E R (b8j T dst d) (a2T avs dst v):=by
 cases dst with
 |none=>exact h
 |some t=>exact h.set t hd
theorem b3G{R:Fz}{v:AV}:Rp E R .any v:=by simp only[Rp]
theorem d1h{F:FW}(hF:d1n F){T:List AV}{H:AHeap}{o:Oper}{K K':AV→AHeap→Prop}(hk:∀v H',K v H'→K' v H')(h:opW P E F T H o K):opW P E F T H o K':=by
 have o1:∀ {α:Type} {r:Option α} {f g:α→Prop},(∀x,f x→g x)→a9 r f→a9 r g:=by
  intro α r f g hfg h
  cases r with
  |none=>exact h
  |some x=>exact hfg x h
 have o2:∀ {r:Option (AV×AHeap)},a4F r K→a4F r K':=by
  intro r h
  cases r with
  |none=>exact h
  |some x=>exact hk _ _ h
 have rf:∀ {r:Option a0Y},b3T F r K→b3T F r K':=by
  intro r h
  unfold b3T at*
  split
  ·exact hk _ _ h
  ·exact hF _ _ _ _ _ h hk
  ·exact h
 obtain⟨dst,op,type,pos,after,guard⟩:=o
 cases op<;>simp only[opW]at h ⊢ <;>try (first|exact o1 (fun v hv=>hk _ _ hv) h|exact o2 h)
 case box e x=>exact hk _ _ h
 case store t a x=>
  unfold c4G at*
  split at h
  ·split at h
   ·rename_i hs
    rw[if_pos hs]
    exact o1 (fun v hv=>hk _ _ hv) h
   ·exact h.elim
  ·exact h.elim
 case makeMap t r=>
  cases r with
  |none=>exact hk _ _ h
  |some x=>exact h
 case call c=>
  cases hc:c.callee with
  |value f=>
   simp only[hc]at h ⊢
   cases f with
   |func g=>
    simp only at h ⊢
    split at h
    ·rename_i hb;rw[if_pos hb];exact hF _ _ _ _ _ h hk
    ·exact h.elim
   |tmp t=>exact rf h
   |const v=>exact rf h
   |global g=>exact rf h
  |invoke r m=>
   simp only[hc]at h ⊢
   exact rf h
  |builtin b=>
   simp only[hc]at h ⊢
   generalize c.args.toList.map (o0 T)=as1 at h ⊢
   generalize c.argTypes.toList=ts at h ⊢
   cases b<;>(try simp only at h ⊢)<;>try (exact o1 (fun v hv=>hk _ _ hv) h)
   case append=>
    rcases as1 with _|⟨s,_|⟨x,_|⟨y,as1⟩⟩⟩<;>rcases ts with _|⟨sT,_|⟨xT,_|⟨u,ts⟩⟩⟩<;>first|exact o2 h|exact o1 (fun v hv=>hk _ _ hv) h
   case copy=>
    rcases as1 with _|⟨s,_|⟨x,_|⟨y,as1⟩⟩⟩<;>rcases ts with _|⟨sT,ts⟩<;>first|exact o2 h|exact o1 (fun v hv=>hk _ _ hv) h
theorem b3W.weak{w:World}{X X':AV→AHeap→Prop}(hX:∀v H,X v H→X' v H){ρ:B4}{H:AHeap}{Q:AV→AHeap→Prop}{e:Ending}{w':World}(h:b3W E ⟨w,X⟩ ρ H Q e w'):b3W E ⟨w,X'⟩ ρ H Q e w':=by
 cases e with
 |returned u=>exact h
 |panicked c=>
  obtain⟨u,ρ',v,H',h1,h2,h3⟩:=h
  exact⟨u,ρ',v,H',h1,hX _ _ h2,h3⟩
 |outgrown=>exact h
theorem FnW.weak{w:World}{X X':AV→AHeap→Prop}(hX:∀v H,X v H→X' v H){f:FuncId}{args:List AV}{H:AHeap}{Q:AV→AHeap→Prop}(h:FnW P E ⟨w,X⟩ f args H Q):FnW P E ⟨w,X'⟩ f args H Q:=
 fun w ρ vargs R hf hr=>Calls.mono (h w ρ vargs R hf hr) fun e w' he=>he.weak hX
theorem G8.weak{w:World}{X X':AV→AHeap→Prop}(hX:∀v H,X v H→X' v H){c:Code}{T:List AV}{H:AHeap}{Q:r4→List AV→AHeap→Prop}(h:G8 P E ⟨w,X⟩ c T H Q):G8 P E ⟨w,X'⟩ c T H Q:=
 fun w ρ a R hR hf hT hk hp=>h w ρ a R hR hf hT hk fun u v ρ' H' a' w' hx=>hp u v ρ' H' a' w' (hX _ _ hx)
theorem o3.at_le{R R':Fz}(h:R.le R'):∀v H,(w0.at E R').X v H→(w0.at E R).X v H:=fun v H ⟨F,R1,S,d,a,b⟩=>⟨F,R1,S,d,Fz.le_trans h a,b⟩
theorem FnW.at_le{R R':Fz}(h:R.le R'){f:FuncId}{args:List AV}{H:AHeap}{Q:AV→AHeap→Prop}(hf:FnW P E (w0.at E R') f args H Q):FnW P E (w0.at E R) f args H Q:=FnW.weak (o3.at_le h) hf
theorem G8.at_le{R R':Fz}(h:R.le R'){c:Code}{T:List AV}{H:AHeap}{Q:r4→List AV→AHeap→Prop}(hf:G8 P E (w0.at E R') c T H Q):G8 P E (w0.at E R) c T H Q:=G8.weak (o3.at_le h) hf
theorem goF{R0 R:Fz}(h:R0.le R){S:b7}{H:AHeap}(F:L8 H)(hC:D5 E R S H):GoF E (FnW P E (w0.at E R0)) (o4 P E w0) R S H:=fun f ds avs K ha hf=>FnW.at_le h (hf R H avs F hC ha)
theorem c1M{w0:a5P}:d1n (FnW P E w0):=fun f args H Q Q' h hq=>h.mono hq
theorem b2C{R:Fz}{T:List D}{avs:List AV}(h:A3 E R T avs){ops:Array Oper}{o:Oper}{b:Bool}(hw:b9t ops T o=some b):a0M ops avs o=some b:=by
 unfold b9t at hw
 unfold a0M
 cases hg:o.guard with
 |none=>rw[hg]at hw;exact hw
 |some jw=>
  obtain⟨j,want⟩:=jw
  simp only[hg]at hw ⊢
  cases hd:(ops[j]?).bind (·.dst) with
  |none=>simp only[hd]at hw ⊢;exact hw
  |some d=>
   simp only[hd]at hw ⊢
   cases hx:T[d]? with
   |none=>
    have:avs[d]? =none:=List.getElem?_eq_none (by rw[h.length];exact List.getElem?_eq_none_iff.1 hx)
    simp only[hx]at hw
    simp only[this]
    exact hw
   |some x=>
    simp only[hx]at hw
    obtain⟨v,h1,h2⟩:=a5h h hx
    simp only[h1]
    cases x<;>simp only[d6]at hw<;>try (cases hw;done)
    all_goals
     simp only[Rp]at h2
     first
      |(subst h2;exact hw)
      |(rcases h2 with ⟨_,rfl⟩|⟨o,j,cap,ex,z,rfl,_⟩<;>exact hw)
      |(obtain⟨o,j,cap,ex,z,all,rfl,_⟩:=h2;exact hw)
      |(obtain⟨o,j,all,rfl,_⟩:=h2;exact hw)
      |(obtain⟨a',b',rfl,_⟩:=h2;exact hw)
      |(obtain⟨v',rfl,_⟩:=h2;exact hw)
theorem d0m{T:List D}{o:Oper}{S S':b7}(h:b7m T o S S'){k:Nat}(hk:b7n T o=some k):S' k=S k:=by
 unfold b7n at hk
 unfold b7m at h
 split at hk
 ·rename_i e;simp only[e,t6,hk]at h;exact h
 ·rename_i e;simp only[e,t6,hk]at h;exact h
 ·cases hk
theorem c7I{T:List D}{o:Oper}{S S':b7}(h:c8g o=false):b7m T o S S':=by
 unfold c8g at h
 unfold b7m
 split at h<;>first|(cases h;done)|trivial
theorem c8K{R:Fz}{S:b7}{H:AHeap}{T:List D}{avs:List AV}(hT:A3 E R T avs)(hC:D5 E R S H){ops:Array Oper}{o:Oper}{d:D}(h:c9N P ops T S o=some d):
  ∃v,Rp E R d v∧∀H,Agr R S (b7n T o) H→c8a P E ops avs H o=some v:=by
 unfold c9N j9 at h
 split at h
 ·rename_i hw
  obtain⟨v,h1,h2⟩:=d2T hT hC h
  exact⟨v,h1,fun H hA=>by unfold c8a;rw[b2C hT hw];exact h2 H hA⟩
 ·rename_i hw
  cases h
  exact⟨A0,a2G,fun H hA=>by unfold c8a;rw[b2C hT hw];rfl⟩
 ·cases h
theorem c5R{F:FW}{G:DW}{R:Fz}{S:b7}{H:AHeap}(hG:GoF E F G R S H)(hF:L8 H)(hC:D5 E R S H){T:List D}{avs:List AV}(hT:A3 E R T avs){ops:Array Oper}{o:Oper}{K:D→b7→Prop}(h:c8B P G ops T S o K):b9V P E F ops avs H o (Q9 E R K):=by
 unfold c8B a6e at h
 unfold b9V
 split at h
 ·rename_i hw
  rw[b2C hT hw]
  exact d2x hG hF hC hT h
 ·rename_i hw
  rw[b2C hT hw]
  exact⟨hF,R,S,b8,Fz.le_refl R,hC,a2G,h⟩
 ·exact h.elim
theorem c1E{F:FW}(hF:d1n F){ops:Array Oper}{T:List AV}{H:AHeap}{o:Oper}{K K':AV→AHeap→Prop}(h:b9V P E F ops T H o K)(hk:∀v H',K v H'→K' v H'):b9V P E F ops T H o K':=by
 unfold b9V a7F at*
 split<;>rename_i e<;>rw[e]at h
 ·exact d1h hF hk h
 ·exact hk _ _ h
 ·exact h
def a6U(E:m6)(R:Fz)(n:Nat)(Q:List D→b7→Prop)(avs':List AV)(H':AHeap):Prop:=L8 H'∧∃R' S' T',R.le R'∧D5 E R' S' H'∧A3 E R' T' avs'∧T'.length=n∧Q T' S'
theorem a6U.le{R R1:Fz}(h:R.le R1){n:Nat}{Q:List D→b7→Prop}{avs':List AV}{H':AHeap}(hp:a6U E R1 n Q avs' H'):a6U E R n Q avs' H':=by
 obtain⟨F,R',S',T',a,b⟩:=hp
 exact⟨F,R',S',T',Fz.le_trans h a,b⟩
theorem c9w{R0 R:Fz}(hle:R0.le R){S:b7}{H:AHeap}{T:List D}{avs:List AV}{ops:Array Oper}(F:L8 H)(hC:D5 E R S H)(hT:A3 E R T avs){o:Oper}{x:Operand}(hx:b9u o=some x)(h:a0S E w0 (B0 T x) S){Q:AV→AHeap→Prop}:a2M P E (w0.at E R0) ops avs H o Q:=by
 obtain⟨hp,h⟩:=h
 have hr:=A1 hT x
 obtain⟨dst,op,type,pos,after,guard⟩:=o
 unfold b9u at hx
 split at hx
 ·rename_i hg
  simp only at hg
  subst hg
  split at hx
  ·rename_i y hy
   simp only at hy
   subst hy
   cases hx
   unfold a2M a0M a7F c2r
   simp only[opA]
   unfold c7P
   refine⟨?_,F,R,S,B0 T x,hle,hC,hr,h⟩
   obtain⟨t,v,e⟩:=hp
   rw[e]at hr
   simp only[Rp]at hr
   obtain⟨v',e',_⟩:=hr
   exact⟨t,v',e'⟩
  ·cases hx
 ·cases hx
theorem c7z{R0:Fz}{ops:Array Oper}:∀ {l:List Oper} {T:List D} {avs:List AV} {S:b7} {H:AHeap} {R:Fz} {Q:List D→b7→Prop},R0.le R→L8 H→D5 E R S H→A3 E R T avs→b8x P (o4 P E w0) (a0S E w0) ops l T S Q→b6u P E (w0.at E R0) ops l avs H (a6U E R T.length Q)
 | [],T,avs,S,H,R,Q,h0,F,hC,hT,h=>by
  simp only[b8x,a7N]at h
  exact⟨F,R,S,T,Fz.le_refl R,hC,hT,rfl,h⟩
 |o::l,T,avs,S,H,R,Q,h0,F,hC,hT,h=>by
  simp only[b8x,a7N,c0J]at h
  have next:∀ {d:D} {v:AV} {R':Fz} {S':b7} {H':AHeap},R.le R'→L8 H'→D5 E R' S' H'→Rp E R' d v→b8x P (o4 P E w0) (a0S E w0) ops l (b8j T o.dst d) S' Q→b6u P E (w0.at E R0) ops l (a2T avs o.dst v) H' (a6U E R T.length Q):=by
   intro d v R' S' H' hle F' hC' hd h'
   have:=c7z (Fz.le_trans h0 hle) F' hC' (c9x (A3.le hle _ _ hT) o.dst hd) h'
   rw[b7Q]at this
   exact b2H (fun _ _=>a6U.le hle) this
  have val:y8 P o≤1→(a9 (c9N P ops T S o) fun v=>b8x P (o4 P E w0) (a0S E w0) ops l (b8j T o.dst v) S Q)→b6u P E (w0.at E R0) ops (o::l) avs H (a6U E R T.length Q):=by
   intro hk h
   unfold a9 at h
   split at h
   ·rename_i d hd
    obtain⟨v,h1,h2⟩:=c8K hT hC hd
    rw[b6u,if_pos hk]
    exact⟨v,by rw[b4V hk];exact h2 H (hC.agr _),next (Fz.le_refl R) F hC h1 h⟩
   ·exact h.elim
  cases ha:b2A o with
  |some x=>
   simp only[ha]at h
   obtain⟨hk,hv⟩:=c0z (P:=P) (E:=E) ha
   rw[b6u,if_pos (by omega)]
   exact⟨_,by rw[b4V (by omega)];exact hv ops avs H,next (Fz.le_refl R) F hC (A1 hT _) h⟩
  |none=>
   simp only[ha]at h
   rcases hk:y8 P o with _|_|k
   ·simp only[hk]at h;exact val (by omega) h
   ·simp only[hk]at h;exact val (by omega) h
   ·simp only[hk]at h
    rw[b6u,if_neg (by omega)]
    split at h
    ·rename_i x hx;exact c9w h0 F hC hT hx h
    ·refine a3N (c8S (c1E c1M (c5R (goF h0 F hC) F hC hT h) fun v H' hq=>hq)) ?_
     rintro v H' ⟨F',R',S',d,hle,hC',hd,h'⟩
     exact next hle F' hC' hd h'
def d3O(P:Program)(E:m6)(ops:Array Oper)(R:Fz)(x:Oper×List D×b7)(y:u9):Prop:=
 x.1=y.o∧(y8 P y.o=1→∃Rd:Fz,Rd.le R∧∀H',Agr Rd x.2.2 (b7n x.2.1 x.1) H'→c8a P E ops y.T H' y.o=some y.v)
def DsC(P:Program)(E:m6)(ops:Array Oper)(R:Fz):List (Oper×List D×b7)→List u9→Prop
 | [],[]=>True
 |x::xs,y::ys=>d3O P E ops R x y∧DsC P E ops R xs ys
 |_,_=>False
theorem DsC.le{ops:Array Oper}{R R':Fz}(hle:R.le R'):∀ {xs:List (Oper×List D×b7)} {ys:List u9},DsC P E ops R xs ys→DsC P E ops R' xs ys
 | [],[],h=>h
 |x::xs,y::ys,h=>⟨⟨h.1.1,fun k=>let ⟨Rd,a,b⟩:=h.1.2 k;⟨Rd,Fz.le_trans a hle,b⟩⟩,DsC.le hle h.2⟩
 | [],_::_,h=>h.elim
 |_::_,[],h=>h.elim
theorem DsC.snoc{ops:Array Oper}{R:Fz}{x:Oper×List D×b7}{y:u9}(h1:d3O P E ops R x y):∀ {xs:List (Oper×List D×b7)} {ys:List u9},DsC P E ops R xs ys→DsC P E ops R (xs++[x]) (ys++[y])
 | [],[],h=>⟨h1,trivial⟩
 |x::xs,y::ys,h=>⟨h.1,DsC.snoc h1 h.2⟩
 | [],_::_,h=>h.elim
 |_::_,[],h=>h.elim
theorem c2Z{ops:Array Oper}{R R':Fz}(hle:R.le R'){S':b7}{H':AHeap}(hC:D5 E R' S' H'){anc:Nat}{K:Prop}:∀ {xs:List (Oper×List D×b7)} {ys:List u9} {j:Nat},DsC P E ops R xs ys→b7h P S' anc K j xs→
  K∧∀(i:Nat) (d:u9),ys[i]? =some d→y8 P d.o=1→anc.testBit (j+i)=false→b4w P E ops d.T H' d.o=some d.v
 | [],[],j,_,h=>⟨h,fun i d e=>by simp at e⟩
 |x::xs,y::ys,j,⟨⟨e1,e2⟩,hd⟩,h=>by
  have step:∀(hK:b7h P S' anc K (j+1) xs),(y8 P y.o=1→anc.testBit j=false→b7m x.2.1 x.1 x.2.2 S')→K∧∀(i:Nat) (d:u9),(y::ys)[i]? =some d→y8 P d.o=1→anc.testBit (j+i)=false→b4w P E ops d.T H' d.o=some d.v:=fun hK hf=>by
   obtain⟨k1,k2⟩:=c2Z hle hC hd hK
   refine⟨k1,fun i d hi hk ha=> ?_⟩
   cases i with
   |zero=>
    simp at hi
    subst hi
    obtain⟨Rd,g1,g2⟩:=e2 hk
    have hft:=hf hk (by simpa using ha)
    rw[b4V (by omega)]
    exact g2 H' ⟨fun j cs e=>let ⟨pre,g⟩:=hC.frozen j cs (hle _ _ (g1 _ _ e));⟨_,pre,g⟩,fun j o' hj hjS=>by
     rw[←d0m hft hj]at hjS
     obtain⟨_,⟨pre,g⟩,_⟩:=hC.own j o' hjS
     exact⟨_,pre,g⟩⟩
   |succ i=>exact k2 i d (by simpa using hi) hk (by rw[Nat.add_assoc,Nat.add_comm 1 i];exact ha)
  simp only[b7h]at h
  split at h
  ·exact step h.2 fun _ _=>h.1
  ·rename_i hc
   refine step h fun hk ha=>c7I ?_
   rw[e1]at hc ⊢
   simp only[hk,ha,Bool.not_false,Bool.and_true,beq_self_eq_true,Bool.true_and,Bool.not_eq_true]at hc
   exact hc
 | [],_::_,_,h,_=>h.elim
 |_::_,[],_,h,_=>h.elim
theorem c8j{R0:Fz}{ops:Array Oper}:∀ {l:List u9} {xs:List (Oper×List D×b7)} {ys:List u9} {T:List D} {avs:List AV} {S:b7} {H:AHeap} {R:Fz} {Q:List D→b7→Prop},R0.le R→L8 H→D5 E R S H→A3 E R T avs→DsC P E ops R xs ys→b6f P (o4 P E w0) (a0S E w0) ops l xs T S Q→a8M P E (w0.at E R0) ops l ys avs H (a6U E R T.length Q)
 | [],xs,ys,T,avs,S,H,R,Q,h0,F,hC,hT,hD,h=>by
  simp only[b6f,a7N]at h
  exact⟨F,R,S,T,Fz.le_refl R,hC,hT,rfl,h⟩
 |s::l,xs,ys,T,avs,S,H,R,Q,h0,F,hC,hT,hD,h=>by
  simp only[b6f,a7N,c0J]at h
  have next:∀ {d:D} {v:AV} {R':Fz} {S':b7} {H':AHeap},R.le R'→L8 H'→D5 E R' S' H'→Rp E R' d v→d3O P E ops R' (s.o,T,S) ⟨s.o,s.anc,avs,v,0,0,s.wr,[]⟩→b6f P (o4 P E w0) (a0S E w0) ops l (xs++[(s.o,T,S)]) (b8j T s.o.dst d) S' Q→a8M P E (w0.at E R0) ops l (ys++[⟨s.o,s.anc,avs,v,0,0,s.wr,[]⟩]) (a2T avs s.o.dst v) H' (a6U E R T.length Q):=by
   intro d v R' S' H' hle F' hC' hd he h'
   have:=c8j (Fz.le_trans h0 hle) F' hC' (c9x (A3.le hle _ _ hT) s.o.dst hd) ((hD.le hle).snoc he) h'
   rw[b7Q]at this
   exact b7d (fun _ _=>a6U.le hle) this
  have val:y8 P s.o≤1→(a9 (c9N P ops T S s.o) fun v=>b6f P (o4 P E w0) (a0S E w0) ops l (xs++[(s.o,T,S)]) (b8j T s.o.dst v) S Q)→a8M P E (w0.at E R0) ops (s::l) ys avs H (a6U E R T.length Q):=by
   intro hk h
   unfold a9 at h
   split at h
   ·rename_i d hd
    obtain⟨v,h1,h2⟩:=c8K hT hC hd
    rw[a8M,if_pos hk]
    exact⟨v,by rw[b4V hk];exact h2 H (hC.agr _),next (Fz.le_refl R) F hC h1 ⟨rfl,fun _=>⟨R,Fz.le_refl R,h2⟩⟩ h⟩
   ·exact h.elim
  cases ha:b2A s.o with
  |some x=>
   simp only[ha]at h
   obtain⟨hk,hv⟩:=c0z (P:=P) (E:=E) ha
   rw[a8M,if_pos (by omega)]
   exact⟨_,by rw[b4V (by omega)];exact hv ops avs H,next (Fz.le_refl R) F hC (A1 hT _) ⟨rfl,fun hk1=>by simp only at hk1;omega⟩ h⟩
  |none=>
   simp only[ha]at h
   rcases hk:y8 P s.o with _|_|k
   ·simp only[hk]at h;exact val (by omega) h
   ·simp only[hk]at h;exact val (by omega) h
   ·simp only[hk]at h
    rw[a8M,if_neg (by omega)]
    split at h
    ·rename_i x hx;exact c9w h0 F hC hT hx h
    ·refine a3N (c8S (c1E c1M (c5R (goF h0 F hC) F hC hT h) fun v H' hq=>hq)) ?_
     rintro v H' ⟨F',R',S',d,hle,hC',hd,h'⟩
     obtain⟨k1,k2⟩:=c2Z hle hC' hD h'
     exact⟨fun i d hi hk1 ha=>k2 i d hi hk1 (by rw[Nat.zero_add];exact ha),next hle F' hC' hd ⟨rfl,fun hk1=>by simp only at hk1;omega⟩ k1⟩
end
end
section
section
variable(P:Program)(E:m6)(w0:o3)
def d1G(E:m6)(R:Fz)(n:Nat)(Q:r4→List D→b7→Prop)(ex:r4)(avs':List AV)(H':AHeap):Prop:=a6U E R n (Q ex) avs' H'
def k9(c:Code)(T:List D)(S:b7)(Q:r4→List D→b7→Prop):Prop:=
 ∀R H avs,L8 H→D5 E R S H→A3 E R T avs→G8 P E (w0.at E R) c avs H (d1G E R T.length Q)
end
def a8B:List D→List Nat→List D→List D
 |T,i::L,v::vs=>a8B (T.set i v) L vs
 |T,_,_=>T
def n9(n:Nat)(L:List Nat)(vs:List D):List D:=a8B (List.replicate n .any) L vs
def a2R(T:List D):List Nat→List D
 | []=>[]
 |i::L=>T.getD i b8::a2R T L
def i9(c:D)(a b:Prop):Prop:=match c with
 | .bool true=>a
 | .bool false=>b
 |_=>False
def t7(id:Nat)(Q:r4→List D→b7→Prop):r4→List D→b7→Prop
 | .exit id',T,S=>if id'=id then Q .normal T S else Q (.exit id') T S
 |e,T,S=>Q e T S
def c9b{α:Type}(k:Nat):List (Nat×α)→Option α
 | []=>none
 |(i,L)::l=>if i=k then some L else c9b k l
def hdD:Code→Option Nat
 | .region id _ _=>some (2*id)
 | .seq a b=>match hdD a with
  |some k=>some k
  |none=>hdD b
 | .cond _ a b=>match hdD a with
  |some k=>some (2*k+1)
  |none=>match hdD b with
   |some k=>some (2*k+1)
   |none=>none
 | .block _ c| .loop c=>hdD c
 |_=>none
def d5b(cuts:List (Nat×List Nat))(c:Code):Option (List Nat):=match hdD c with
 |some id=>c9b id cuts
 |none=>none
section
variable(P:Program)(E:m6)(w0:o3)(loops cuts:List (Nat×List Nat))(arrs:List (Nat×Arr))
def vcD:Code→List D→b7→(r4→List D→b7→Prop)→Prop
 | .skip,T,S,Q=>Q .normal T S
 | .label _,T,S,Q=>Q .normal T S
 | .ret,T,S,Q=>Q .ret T S
 | .exit id,T,S,Q=>Q (.exit id) T S
 | .region id ops draw,T,S,Q=>match draw with
  |false=>b8x P (o4 P E w0) (a0S E w0) ops ops.toList T S (Q .normal)
  |true=>match c9b id arrs with
   |some t=>if a7S ops&&c1A ops then b2d P ops (fun ops' sd=>b6f P (o4 P E w0) (a0S E w0) ops' sd [] T S (Q .normal)) t []else False
   |none=>match b1j P ops ops.toList []with
    |some sd=>b6f P (o4 P E w0) (a0S E w0) ops sd [] T S (Q .normal)
    |none=>False
 | .seq a b,T,S,Q=>match d5b cuts b with
  |some L=>vcD a T S fun ex T' S'=>match ex with
   | .normal=>k9 P E w0 b (n9 T.length L (a2R T' L)) S' Q
   |e=>Q e T' S'
  |none=>vcD a T S fun ex T' S'=>match ex with
   | .normal=>vcD b T' S' Q
   |e=>Q e T' S'
 | .cond c a b,T,S,Q=>i9 (B0 T c) (vcD a T S Q) (vcD b T S Q)
 | .block id c,T,S,Q=>vcD c T S (t7 id Q)
 | .loop c,T,S,Q=>match d5b loops c with
  |some L=>k9 P E w0 (.loop c) (n9 T.length L (a2R T L)) S Q
  |none=>k9 P E w0 (.loop c) T S Q
 |_,_,_,_=>False
end
section
variable(P:Program)(E:m6)(w0:o3)(loops cuts:List (Nat×List Nat))(arrs:List (Nat×Arr))
def I5(b:Code)(Q:r4→List D→b7→Prop)(ex:r4)(T:List D)(S:b7):Prop:=match ex with
 | .normal=>vcD P E w0 loops cuts arrs b T S Q
 |e=>Q e T S
def d5g(n:Nat)(L:List Nat)(b:Code)(Q:r4→List D→b7→Prop)(ex:r4)(T:List D)(S:b7):Prop:=match ex with
 | .normal=>k9 P E w0 b (n9 n L (a2R T L)) S Q
 |e=>Q e T S
end
def C0(N:List D→b7→Prop)(Q:r4→List D→b7→Prop)(ex:r4)(T:List D)(S:b7):Prop:=match ex with
 | .normal=>N T S
 |e=>Q e T S
def a3V(P:Program)(S:b7)(T:List D):List ResultVar→(List D→Prop)→Prop
 | [],K=>K []
 | .tmp t::l,K=>a3V P S T l fun vs=>K (T.getD t b8::vs)
 | .cell a t::l,K=>a9 (c9p P S t (T.getD a b8)) fun v=>a3V P S T l fun vs=>K (v::vs)
def b9R:List D→D
 | [v]=>v
 |vs=> .tup vs
def I4(P:Program)(fn:Func)(Q:D→b7→Prop):r4→List D→b7→Prop
 | .exit _,_,_=>False
 |_,T,S=>a3V P S T fn.results.toList fun vs=>Q (b9R vs) S
def d9(E:m6)(Q:D→b7→Prop)(d:D)(S:b7):Prop:=
 ∀R H v,D5 E R S H→Rp E R d v→∃R' S' d',R.le R'∧D5 E R' S' H∧Rp E R' d' v∧Q d' S'
section
variable{P:Program}{E:m6}{w0:o3}
theorem k9.mono{c:Code}{T:List D}{S:b7}{Q Q':r4→List D→b7→Prop}(h:k9 P E w0 c T S Q)(hq:∀ex T' S',T'.length=T.length→Q ex T' S'→Q' ex T' S'):k9 P E w0 c T S Q':=fun R H avs F hC hT=>
 (h R H avs F hC hT).mono fun ex T' H' ⟨F',R',S',T1,a,b,c,d,e⟩=>⟨F',R',S',T1,a,b,c,d,hq _ _ _ d e⟩
theorem o4.use{f:FuncId}{ds:List D}{S:b7}{Q Q':D→b7→Prop}(h:o4 P E w0 f ds S Q)(hq:∀d S',Q d S'→Q' d S'):o4 P E w0 f ds S Q':=fun R H avs hFi hC ha=>
 (h R H avs hFi hC ha).mono fun v H' ⟨F',R',S',d,a,b,c,e⟩=>⟨F',R',S',d,a,b,c,hq _ _ e⟩
theorem b3m:∀(T:List D) (L:List Nat) (vs:List D),(a8B T L vs).length=T.length
 |T,i::L,v::vs=>by rw[a8B,b3m,List.length_set]
 |T,[],_=>by simp[a8B]
 |T,_::_,[]=>by simp[a8B]
theorem o7(n:Nat)(L:List Nat)(vs:List D):(n9 n L vs).length=n:=by rw[n9,b3m,List.length_replicate]
theorem c8G{R:Fz}:∀ {avs:List AV},A3 E R (List.replicate avs.length .any) avs
 | []=>G4
 |v::avs=>A2 b3G c8G
theorem c3G{R:Fz}{T:List D}{avs:List AV}(h:A3 E R T avs)(L:List Nat):A3 E R (n9 T.length L (a2R T L)) avs:=by
 have main:∀(L:List Nat) (T0:List D),T0.length=T.length→A3 E R T0 avs→A3 E R (a8B T0 L (a2R T L)) avs:=by
  intro L
  induction L with
  |nil=>intro T0 hl h0;simpa [a8B,a2R]using h0
  |cons i L ih=>
   intro T0 hl h0
   simp only[a2R,a8B]
   refine ih _ (by rw[List.length_set,hl]) ?_
   by_cases hi:i<T.length
   ·have hlen:=h.length
    have:=h0.set i (b5c h i)
    rw[List.getD_eq_getElem?_getD (l:=avs),List.getElem?_eq_getElem (by omega),Option.getD_some,List.set_getElem_self]at this
    exact this
   ·rw[List.set_eq_of_length_le (by omega)]
    exact h0
 refine main L _ (by rw[List.length_replicate]) ?_
 rw[←h.length]
 exact c8G
theorem s6{c:Code}{T:List D}{S:b7}{Q:r4→List D→b7→Prop}{n:Nat}(L:List Nat)(hn:T.length=n)(h:k9 P E w0 c (n9 n L (a2R T L)) S Q):k9 P E w0 c T S Q:=fun R H avs F hC hT=>by
 have:=h R H avs F hC (by rw[←hn];exact c3G hT L)
 rw[o7, ←hn]at this
 exact this
theorem r8{c:Code}{Q:r4→List D→b7→Prop}{I:Nat→List D→b7→Prop}{k:Nat}
  (step:∀n T S,T.length=k→I n T S→k9 P E w0 c T S fun ex T' S'=>match ex with| .normal=>∃m,m<n∧I m T' S'|e=>Q e T' S')
  {n:Nat} {T:List D} {S:b7} (hk:T.length=k) (h:I n T S):k9 P E w0 (.loop c) T S Q:=fun R H avs F hC hT=>by
 refine c8c (I:=fun n avs H=>a6U E R k (I n) avs H) (fun n avs H hI=> ?_) (n:=n) ⟨F,R,S,T,Fz.le_refl R,hC,hT,hk,h⟩
 obtain⟨F1,R1,S1,T1,a,b,c1,d,e⟩:=hI
 refine(G8.at_le a (step n T1 S1 d e R1 H avs F1 b c1)).mono fun ex T' H' hq=> ?_
 cases ex with
 |normal=>
  obtain⟨F2,R2,S2,T2,a2,b2,c2,d2,m,hm,e2⟩:=hq
  exact⟨m,hm,F2,R2,S2,T2,Fz.le_trans a a2,b2,c2,by rw[d2,d],e2⟩
 |exit id=>
  obtain⟨F2,R2,S2,T2,a2,b2,c2,d2,e2⟩:=hq
  exact⟨F2,R2,S2,T2,Fz.le_trans a a2,b2,c2,by rw[d2,d,hk],e2⟩
 |ret=>
  obtain⟨F2,R2,S2,T2,a2,b2,c2,d2,e2⟩:=hq
  exact⟨F2,R2,S2,T2,Fz.le_trans a a2,b2,c2,by rw[d2,d,hk],e2⟩
theorem d0a{id:Nat}{ops:Array Oper}{T:List D}{S:b7}{Q:r4→List D→b7→Prop}(h:b8x P (o4 P E w0) (a0S E w0) ops ops.toList T S (Q .normal)):k9 P E w0 (.region id ops false) T S Q:=fun R H avs F hC hT=>c4d (b9l (c7z (Fz.le_refl R) F hC hT h))
theorem c8h(hm:P.follows .mixedOrders=true){id:Nat}{ops:Array Oper}{sd:List u9}(hB:b1j P ops ops.toList []=some sd){T:List D}{S:b7}{Q:r4→List D→b7→Prop}(h:b6f P (o4 P E w0) (a0S E w0) ops sd [] T S (Q .normal)):k9 P E w0 (.region id ops true) T S Q:=fun R H avs F hC hT=>c7u hm hB (c8j (xs:=[]) (ys:=[]) (Fz.le_refl R) F hC hT trivial h)
theorem c5U(hm:P.follows .mixedOrders=true){id:Nat}{ops:Array Oper}{t:Arr}{T:List D}{S:b7}{Q:r4→List D→b7→Prop}(h:if a7S ops&&c1A ops then b2d P ops (fun ops' sd=>b6f P (o4 P E w0) (a0S E w0) ops' sd [] T S (Q .normal)) t []else False):k9 P E w0 (.region id ops true) T S Q:=fun R H avs F hC hT=>by
 split at h
 ·rename_i hok
  simp only[Bool.and_eq_true]at hok
  exact c5O hm hok.1 hok.2 (h.mono fun ops' sd ho=>c8j (xs:=[]) (ys:=[]) (Fz.le_refl R) F hC hT trivial ho)
 ·exact h.elim
variable{loops cuts:List (Nat×List Nat)}{arrs:List (Nat×Arr)}
theorem b2c(hm:P.follows .mixedOrders=true):∀(c:Code) (T:List D) (S:b7) (Q:r4→List D→b7→Prop),vcD P E w0 loops cuts arrs c T S Q→k9 P E w0 c T S Q
 | .skip,T,S,Q,h=>fun R H avs F hC hT=>c7n ⟨F,R,S,T,Fz.le_refl R,hC,hT,rfl,h⟩
 | .label _,T,S,Q,h=>fun R H avs F hC hT=>c5v ⟨F,R,S,T,Fz.le_refl R,hC,hT,rfl,h⟩
 | .ret,T,S,Q,h=>fun R H avs F hC hT=>c9X ⟨F,R,S,T,Fz.le_refl R,hC,hT,rfl,h⟩
 | .exit id,T,S,Q,h=>fun R H avs F hC hT=>c7r ⟨F,R,S,T,Fz.le_refl R,hC,hT,rfl,h⟩
 | .region _ ops false,T,S,Q,h=>d0a h
 | .region id ops true,T,S,Q,h=>by
  change (match c9b id arrs with
   |some t=>if a7S ops&&c1A ops then b2d P ops (fun ops' sd=>b6f P (o4 P E w0) (a0S E w0) ops' sd [] T S (Q .normal)) t []else False
   |none=>match b1j P ops ops.toList []with
    |some sd=>b6f P (o4 P E w0) (a0S E w0) ops sd [] T S (Q .normal)
    |none=>False)at h
  split at h
  ·exact c5U hm h
  ·split at h
   ·rename_i sd hB;exact c8h hm hB h
   ·exact h.elim
 | .seq a b,T,S,Q,h=>fun R H avs F hC hT=>by
  simp only[vcD]at h
  have fin:k9 P E w0 a T S (fun ex T' S'=>match ex with| .normal=>k9 P E w0 b T' S' Q|e=>Q e T' S')→G8 P E (w0.at E R) (.seq a b) avs H (d1G E R T.length Q):=by
   intro h
   refine d0q ((h R H avs F hC hT).mono fun ex T' H' hq=> ?_)
   cases ex with
   |normal=>
    obtain⟨F2,R2,S2,T2,a2,b2,c2,d2,e2⟩:=hq
    have:=e2 R2 H' T' F2 b2 c2
    rw[d2]at this
    exact(G8.at_le a2 this).mono fun ex T' H' hq=>a6U.le a2 hq
   |exit id=>exact hq
   |ret=>exact hq
  split at h
  ·rename_i L hL
   refine fin ((b2c hm a T S _ h).mono fun ex T' S' hl hq=> ?_)
   cases ex with
   |normal=>exact s6 L hl hq
   |exit id=>exact hq
   |ret=>exact hq
  ·refine fin ((b2c hm a T S _ h).mono fun ex T' S' hl hq=> ?_)
   cases ex with
   |normal=>exact b2c hm b T' S' Q hq
   |exit id=>exact hq
   |ret=>exact hq
 | .cond c a b,T,S,Q,h=>fun R H avs F hC hT=>by
  simp only[vcD]at h
  have hr:=A1 hT c
  unfold i9 at h
  split at h
  ·rename_i e
   rw[e]at hr
   simp only[Rp]at hr
   exact c0L (by rw[hr];exact b2c hm a T S Q h R H avs F hC hT)
  ·rename_i e
   rw[e]at hr
   simp only[Rp]at hr
   exact c0L (by rw[hr];exact b2c hm b T S Q h R H avs F hC hT)
  ·exact h.elim
 | .block id c,T,S,Q,h=>fun R H avs F hC hT=>by
  refine c6v ((b2c hm c T S _ h R H avs F hC hT).mono fun ex T' H' hq=> ?_)
  cases ex with
  |normal=>exact hq
  |ret=>exact hq
  |exit id'=>
   obtain⟨F2,R2,S2,T2,a2,b2,c2,d2,e2⟩:=hq
   simp only[t7]at e2
   simp only[c7Y]
   split at e2
   ·rename_i e;rw[if_pos e];exact⟨F2,R2,S2,T2,a2,b2,c2,d2,e2⟩
   ·rename_i e;rw[if_neg e];exact⟨F2,R2,S2,T2,a2,b2,c2,d2,e2⟩
 | .loop c,T,S,Q,h=>by
  simp only[vcD]at h
  split at h
  ·rename_i L hL;exact s6 L rfl h
  ·exact h
 | .rangeFunc ..,T,S,Q,h=>h.elim
 | .scope ..,T,S,Q,h=>h.elim
 | .goto ..,T,S,Q,h=>h.elim
 | .refuse ..,T,S,Q,h=>h.elim
theorem a8C{R:Fz}{S:b7}{H:AHeap}{T:List D}{avs:List AV}(hC:D5 E R S H)(hT:A3 E R T avs):∀ {l:List ResultVar} {K:List D→Prop} {K':List AV→Prop},(∀ds vs,A3 E R ds vs→K ds→K' vs)→a3V P S T l K→R9 P E H avs l K'
 | [],K,K',hk,h=>hk [] [] G4 h
 | .tmp t::l,K,K',hk,h=>by
  have:=a8C (l:=l) (K':=fun vs=>K' (avs.getD t A0::vs)) hC hT (fun ds vs hr hK=>hk (T.getD t b8::ds) (avs.getD t A0::vs) (A2 (b5c hT t) hr) hK) h
  exact this
 | .cell a t::l,K,K',hk,h=>by
  simp only[a3V]at h
  unfold a9 at h
  split at h
  ·rename_i d hd
   have ha:=b5c hT a
   obtain⟨v,h1,h2⟩:=c8I hC ha hd
   have h2:=h2 H (hC.agr _)
   have:=a8C (l:=l) (K':=fun vs=>K' (v::vs)) hC hT (fun ds vs hr hK=>hk (d::ds) (v::vs) (A2 h1 hr) hK) h
   simp only[R9]
   unfold c8M at h2
   split at h2
   ·rename_i o i e
    simp only[e,h2,d0D]
    exact this
   ·cases h2
  ·exact h.elim
theorem c8W{R:Fz}{ds:List D}{vs:List AV}(h:A3 E R ds vs):Rp E R (b9R ds) (b3y vs):=by
 rcases ds with _|⟨d,_|⟨d',ds⟩⟩
 ·simp only[A3]at h;subst h;exact a2G
 ·simp only[A3]at h
  obtain⟨v,_,rfl,h1,rfl⟩:=h
  exact h1
 ·have h':=h
  simp only[A3]at h
  obtain⟨v,_,rfl,h1,v2,vs',rfl,h2,h3⟩:=h
  show Rp E R (.tup (d::d'::ds)) (.tup (v::v2::vs'))
  simp only[Rp]
  exact⟨_,rfl,h'⟩
theorem c6k{f:FuncId}{fn:Func}{c:Code}(hfn:P.funcs[f]? =some fn)(hb:fn.body=some c){ds:List D}{S:b7}{Q:D→b7→Prop}
  (h:k9 P E w0 c (ds++List.replicate (fn.ntmps - ds.length) b8) S (I4 P fn (d9 E Q))):o4 P E w0 f ds S Q:=fun R H avs F hC ha=>by
 have hrow:A3 E R (ds++List.replicate (fn.ntmps - ds.length) b8) (avs++List.replicate (fn.ntmps - avs.length) A0):=by
  refine ha.append ?_
  rw[ha.length]
  generalize fn.ntmps - ds.length=m
  induction m with
  |zero=>exact G4
  |succ m ih=>exact A2 a2G ih
 have h':G8 P E (w0.at E R) c (avs++List.replicate (fn.ntmps - avs.length) A0) H (d5s P E fn (Q9 E R Q)):=by
  refine(h R H _ F hC hrow).mono fun ex T' H' hq=> ?_
  obtain⟨F2,R2,S2,T2,a2,b2,c2,d2,e2⟩:=hq
  have go:∀ {l:List ResultVar},a3V P S2 T2 l (fun vs=>d9 E Q (b9R vs) S2)→R9 P E H' T' l fun vs=>Q9 E R Q (b3y vs) H':=fun h=>a8C b2 c2 (fun ds vs hr hK=>by
   obtain⟨R',S',d',k1,k2,k3,k4⟩:=hK R2 H' _ b2 (c8W hr)
   exact⟨F2,R',S',d',Fz.le_trans a2 k1,k2,k3,k4⟩) h
  cases ex with
  |normal=>exact go e2
  |ret=>exact go e2
  |exit id=>exact e2
 exact c5q hfn hb h'
theorem m9(loops cuts:List (Nat×List Nat))(arrs:List (Nat×Arr))(hm:P.follows .mixedOrders=true){f:FuncId}{fn:Func}{c:Code}(hfn:P.funcs[f]? =some fn)(hb:fn.body=some c){ds:List D}{S:b7}{Q:D→b7→Prop}{V:Prop}
  (e:vcD P E w0 loops cuts arrs c (ds++List.replicate (fn.ntmps - ds.length) b8) S (I4 P fn (d9 E Q))=V) (h:V):o4 P E w0 f ds S Q:=
 c6k hfn hb (b2c hm _ _ _ _ (e▸h))
theorem l8(loops cuts:List (Nat×List Nat))(arrs:List (Nat×Arr))(hm:P.follows .mixedOrders=true){c:Code}{T:List D}{S:b7}{Q:r4→List D→b7→Prop}{V:Prop}(e:vcD P E w0 loops cuts arrs c T S Q=V)(h:V):k9 P E w0 c T S Q:=
 b2c hm _ _ _ _ (e▸h)
theorem d9.here{Q:D→b7→Prop}{d:D}{S:b7}(h:Q d S):d9 E Q d S:=fun R H v hC hd=>⟨R,S,d,Fz.le_refl R,hC,hd,h⟩
theorem d9.less{Q:D→b7→Prop}{d:D}{S S':b7}(hs:S'.le S)(h:d9 E Q d S'):d9 E Q d S:=fun R H v hC hd=>h R H v (hC.less hs) hd
theorem d9.mono{Q Q':D→b7→Prop}{d:D}{S:b7}(h:d9 E Q d S)(hq:∀d S,Q d S→Q' d S):d9 E Q' d S:=fun R H v hC hd=>by
 obtain⟨R',S',d',a,b,c,e⟩:=h R H v hC hd
 exact⟨R',S',d',a,b,c,hq _ _ e⟩
theorem d9.freeze{Q:D→b7→Prop}{S:b7}{k:Nat}{o:L7}(hk:S k=some o){i len cap:Nat}{ex:Bool}{sz:Nat}(hsz:o.sz=sz)(hl:i+len≤o.rows.length)(hc:len≤cap)
  (h:d9 E Q (.lst ((o.rows.drop i).take len) sz) (S.erase k)):d9 E Q (.raw k i len cap ex sz) S:=fun R H v hC hd=>by
 obtain⟨h1,h2⟩:=hC.freeze hk
 obtain⟨R',S',d',a,b,c,e⟩:=h _ H v h1 (a5m hC hk hd hsz hl hc)
 exact⟨R',S',d',Fz.le_trans h2 a,b,c,e⟩
theorem d9.freezeT{Q:D→b7→Prop}{S:b7}{k:Nat}{o:L7}(hk:S k=some o){i len cap:Nat}{ex:Bool}{sz:Nat}(hsz:o.sz=sz)(hl:i+len≤o.rows.length)(hc:len≤cap){lp lq:List D}
  (h:d9 E Q (.tup (lp++ .lst ((o.rows.drop i).take len) sz::lq)) (S.erase k)):d9 E Q (.tup (lp++ .raw k i len cap ex sz::lq)) S:=fun R H v hC hd=>by
 obtain⟨h1,h2⟩:=hC.freeze hk
 simp only[Rp]at hd
 obtain⟨vs,rfl,hv⟩:=hd
 obtain⟨v1,v2,rfl,g1,g2⟩:=a3E hv
 simp only[A3]at g2
 obtain⟨w,ws,rfl,g3,g4⟩:=g2
 obtain⟨R',S',d',a,b,c,e⟩:=h _ H (.tup (v1++w::ws)) h1 (by
  simp only[Rp]
  exact⟨_,rfl,(A3.le h2 _ _ g1).append (A2 (a5m hC hk g3 hsz hl hc) (A3.le h2 _ _ g4))⟩)
 exact⟨R',S',d',Fz.le_trans h2 a,b,c,e⟩
theorem d9.nil{Q:D→b7→Prop}{S:b7}{sz:Nat}(h:d9 E Q (.lst [] sz) S):d9 E Q .nilSlc S:=fun R H v hC hd=>h R H v hC (by simp only[Rp]at hd ⊢;exact .inl ⟨trivial,hd⟩)
theorem d9.nilT{Q:D→b7→Prop}{S:b7}{sz:Nat}{lp lq:List D}(h:d9 E Q (.tup (lp++ .lst [] sz::lq)) S):d9 E Q (.tup (lp++ .nilSlc::lq)) S:=fun R H v hC hd=>h R H v hC (by
 simp only[Rp]at hd ⊢
 obtain⟨vs,rfl,hv⟩:=hd
 obtain⟨v1,v2,rfl,g1,g2⟩:=a3E hv
 simp only[A3]at g2
 obtain⟨w,ws,rfl,g3,g4⟩:=g2
 exact⟨_,rfl,g1.append (A2 (by simp only[Rp]at g3 ⊢;exact .inl ⟨trivial,g3⟩) g4)⟩)
def Y7(P:Program)(E:m6)(w0:o3)(f:FuncId)(ds:List D)(d:D):Prop:=∀S,o4 P E w0 f ds S fun d' S'=>d'=d∧S'=S
theorem Y7.use{f:FuncId}{ds:List D}{d:D}(h:Y7 P E w0 f ds d){S:b7}{K:D→b7→Prop}(hk:K d S):o4 P E w0 f ds S K:=(h S).use fun d' S' ⟨a,b⟩=>by subst a b;exact hk
end
end
end Go.Am
end
section
open Go.Proofs Go Go.Am
namespace Go.Proofs.Ytchnpgddpaonhaa.d
theorem o9:Try.prog.follows .mixedOrders=true:=by kernel_rfl
abbrev a7p:TypeId:=76
abbrev a4K:FuncId:=6
abbrev b3K:FuncId:=9
abbrev a0D:FuncId:=10
abbrev a0W:FuncId:=11
abbrev a1t:FuncId:=15
abbrev b3U:FuncId:=16
abbrev R6:FuncId:=22
abbrev b0h:FuncId:=23
abbrev L0:FuncId:=24
abbrev a1q:FuncId:=25
abbrev a9m:FuncId:=26
abbrev a4C:FuncId:=39
abbrev a0H:FuncId:=41
abbrev a9n:FuncId:=42
abbrev B8:FuncId:=43
abbrev a1K:FuncId:=44
abbrev a1Y:FuncId:=45
abbrev M3:FuncId:=46
abbrev a1J:FuncId:=47
abbrev a1X:FuncId:=48
abbrev s5:FuncId:=49
abbrev K0:FuncId:=50
abbrev F5:FuncId:=51
abbrev N7:FuncId:=52
abbrev a2c:FuncId:=53
abbrev a4y:FuncId:=56
abbrev B5:FuncId:=57
abbrev a2d:FuncId:=58
abbrev I2:FuncId:=59
abbrev N8:FuncId:=60
abbrev z4:FuncId:=61
abbrev a3Q:FuncId:=62
abbrev J1:FuncId:=63
abbrev a5f:FuncId:=64
abbrev a8a:FuncId:=65
abbrev a1p:FuncId:=66
abbrev a9K:FuncId:=67
abbrev M2:FuncId:=68
abbrev W8:FuncId:=69
abbrev a0O:FuncId:=70
abbrev Q4:FuncId:=71
abbrev a3c:FuncId:=72
abbrev I8:FuncId:=73
abbrev b6M:FuncId:=74
abbrev I7:FuncId:=75
abbrev a2Q:FuncId:=76
abbrev a7h:FuncId:=77
abbrev b4g:FuncId:=78
abbrev b3Z:FuncId:=79
abbrev u5:FuncId:=80
abbrev E0:FuncId:=81
abbrev a0p:FuncId:=82
abbrev a5d:FuncId:=83
abbrev M0:FuncId:=84
abbrev b4s:FuncId:=85
abbrev r9:FuncId:=86
abbrev j8:FuncId:=87
abbrev q9:FuncId:=88
abbrev O7:FuncId:=89
abbrev b4D:FuncId:=90
abbrev b2m:FuncId:=91
abbrev a0x:FuncId:=92
abbrev a2V:FuncId:=93
abbrev b2i:FuncId:=94
abbrev C2:FuncId:=95
abbrev a0b:FuncId:=96
abbrev b0R:FuncId:=97
abbrev b1c:FuncId:=98
abbrev Y5:FuncId:=99
abbrev a1g:FuncId:=100
end Go.Proofs.Ytchnpgddpaonhaa.d
end
