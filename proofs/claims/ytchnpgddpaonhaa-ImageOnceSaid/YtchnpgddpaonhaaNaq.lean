/-
  ImageOnceSaid: part Naq of its proof.
-/
import Derived.Test.YtchnpgddpaonhaaNap
import Derived.Test.YtchnpgddpaonhaaRows
import Derived.KernelRfl
set_option linter.unusedVariables false
set_option linter.unusedSimpArgs false
set_option maxRecDepth 100000
section
namespace Go.Am
section
def b7p(T:List D)(dst:Option Tmp)(v:D):List D:=match dst with
 |some d=>T.set d v
 |none=>T
def b3r:List D→(List D→Prop)→Prop
 | [],k=>k []
 |a::l,k=>b3r l fun l'=>k (a::l')
def c7A:List D→Nat→(D→Prop)→Prop
 | [],_,k=>k b8
 |a::l,n,k=>match n with
  |0=>k a
  |n+1=>c7A l n k
def b5w(T:List D)(x:Operand)(k:D→Prop):Prop:=match x with
 | .tmp t=>c7A T t k
 |x=>k (A5 T x)
def d6(g:D)(want:Bool):Option Bool:=match g with
 | .bool b=>some (b==want)
 | .any=>none
 |_=>some false
def b8l(ops:Array Oper)(T:List D)(o:Oper):Option Bool:=
 match o.guard with
 |none=>some true
 |some (j,want)=>match (ops[j]?).bind (·.dst) with
  |none=>some false
  |some d=>match T[d]? with
   |some x=>d6 x want
   |none=>some false
def j8(g:Option Bool)(r:Option D):Option D:=match g with
 |some true=>r
 |some false=>some b8
 |none=>none
def a4g(r:Option Bool)(s:(D→b7→Prop)→Prop)(S:b7)(Q:D→b7→Prop):Prop:=match r with
 |some true=>s Q
 |some false=>Q b8 S
 |none=>False
def c8p(P:Program)(ops:Array Oper)(T:List D)(S:b7)(o:Oper):Option D:=j8 (b8l ops T o) (d2B P T S o)
def c7j(P:Program)(G:DW)(ops:Array Oper)(T:List D)(S:b7)(o:Oper)(K:D→b7→Prop):Prop:=a4g (b8l ops T o) (d1T P G T S o) S K
structure o0 where
 w:World
 X:D→b7→Prop
instance:Coe o0 World:=⟨o0.w⟩
def b0E(w:World):o0:=⟨w,fun _ _=>False⟩
def o0.at(E:l9)(w0:o0)(R:Fz):a5H:=⟨w0.w,fun v H'=>L0 H'∧∃R' S' d,R.le R'∧C8 E R' S' H'∧Rp E R' d v∧w0.X d S'⟩
def n9(P:Program)(E:l9)(w0:o0):DW:=fun f ds S Q=>∀R H avs,L0 H→C8 E R S H→A2 E R ds avs→FnW P E (w0.at E R) f avs H (P5 E R Q)
def a0M(E:l9)(w0:o0)(d:D)(S:b7):Prop:=(∃t v,d= .ifc t v)∧w0.X d S
def b8o(o:Oper):Option Operand:=match o.guard with
 |none=>match o.op with
  | .panic x=>some x
  |_=>none
 |some _=>none
def b7C(P:Program)(G:DW)(X:D→b7→Prop)(ops:Array Oper):List Oper→List D→b7→(List D→b7→Prop)→Prop
 | [],T,S,Q=>b3r T fun T=>Q T S
 |o::l,T,S,Q=>b3r T fun T=>match b1O o with
  |some x=>b5w T x fun e=>b7C P G X ops l (b7p T o.dst e) S Q
  |none=>match w7 P o with
  |0|1=>a9 (c8p P ops T S o) fun v=>b7C P G X ops l (b7p T o.dst v) S Q
  |_=>match b8o o with
   |some x=>b5w T x fun e=>X e S
   |none=>c7j P G ops T S o fun v S'=>b7C P G X ops l (b7p T o.dst v) S' Q
def r9(x:D)(S S':b7):Prop:=match b4G x with
 |some k=>S' k=S k
 |none=>True
def b5M(T:List D)(o:Oper)(S S':b7):Prop:=match o.op with
 | .load _ a=>r9 (A5 T a) S S'
 | .convert _ _ x=>r9 (A5 T x) S S'
 |_=>True
def c6p(o:Oper):Bool:=match o.op with
 | .load .. | .convert .. =>true
 |_=>false
def b6q(P:Program)(S':b7)(anc:Nat)(K:Prop):Nat→List (Oper×List D×b7)→Prop
 |_,[]=>K
 |j,d::ds=>if(w7 P d.1==1&&c6p d.1)&& !anc.testBit j then b5M d.2.1 d.1 d.2.2 S'∧b6q P S' anc K (j+1) ds else b6q P S' anc K (j+1) ds
def b4M(P:Program)(G:DW)(X:D→b7→Prop)(ops:Array Oper):List t9→List (Oper×List D×b7)→List D→b7→(List D→b7→Prop)→Prop
 | [],_,T,S,Q=>b3r T fun T=>Q T S
 |s::l,ds,T,S,Q=>b3r T fun T=>match b1O s.o with
  |some x=>b5w T x fun e=>b4M P G X ops l (ds++[(s.o,T,S)]) (b7p T s.o.dst e) S Q
  |none=>match w7 P s.o with
  |0|1=>a9 (c8p P ops T S s.o) fun v=>b4M P G X ops l (ds++[(s.o,T,S)]) (b7p T s.o.dst v) S Q
  |_=>match b8o s.o with
   |some x=>b5w T x fun e=>X e S
   |none=>c7j P G ops T S s.o fun v S'=>b6q P S' s.anc (b4M P G X ops l (ds++[(s.o,T,S)]) (b7p T s.o.dst v) S' Q) 0 ds
section
variable{P:Program}{E:l9}{w0:o0}
theorem a7q:∀ {T:List D} {k:List D→Prop},b3r T k=k T
 | [],k=>rfl
 |a::l,k=>by simp only[b3r];rw[a7q]
theorem c5u:∀ {T:List D} {n:Nat} {k:D→Prop},c7A T n k=k (T.getD n b8)
 | [],n,k=>rfl
 |a::l,0,k=>rfl
 |a::l,n+1,k=>by simp only[c7A];rw[c5u];simp
theorem b8z{T:List D}{x:Operand}{k:D→Prop}:b5w T x k=k (A5 T x):=by
 cases x<;>first|rfl|exact c5u
theorem b6O(T:List D)(dst:Option Tmp)(v:D):(b7p T dst v).length=T.length:=by
 cases dst with
 |none=>rfl
 |some d=>exact List.length_set
theorem c7G{R:Fz}{T:List D}{avs:List AV}(h:A2 E R T avs)(dst:Option Tmp){d:D}{v:AV}(hd:Rp E R d v):A2 E R (b7p T dst d) (a2q avs dst v):=by
 cases dst with
 |none=>exact h
 |some t=>exact h.set t hd
theorem b3u{R:Fz}{v:AV}:Rp E R .any v:=by simp only[Rp]
theorem d0v{F:FW}(hF:c9H F){T:List AV}{H:AHeap}{o:Oper}{K K':AV→AHeap→Prop}(hk:∀v H',K v H'→K' v H')(h:opW P E F T H o K):opW P E F T H o K':=by
 have o1:∀ {α:Type} {r:Option α} {f g:α→Prop},(∀x,f x→g x)→a9 r f→a9 r g:=by
  intro α r f g hfg h
  cases r with
  |none=>exact h
  |some x=>exact hfg x h
 have o2:∀ {r:Option (AV×AHeap)},a4q r K→a4q r K':=by
  intro r h
  cases r with
  |none=>exact h
  |some x=>exact hk _ _ h
 have rf:∀ {r:Option a0S},b3v F r K→b3v F r K':=by
  intro r h
  unfold b3v at*
  split
  ·exact hk _ _ h
  ·exact hF _ _ _ _ _ h hk
  ·exact h
 obtain⟨dst,op,type,pos,after,guard⟩:=o
 cases op<;>simp only[opW]at h ⊢ <;>try (first|exact o1 (fun v hv=>hk _ _ hv) h|exact o2 h)
 case box e x=>exact hk _ _ h
 case store t a x=>
  unfold c3f at*
  split at h
  ·split at h
   ·rename_i hs
    rw[if_pos hs]
    exact o1 (fun v hv=>hk _ _ hv) h
   ·exact h.elim
  ·exact h.elim
 case makeMap t r=>
  cases r with
  |none=>exact hk _ _ h
  |some x=>exact h
 case call c=>
  cases hc:c.callee with
  |value f=>
   simp only[hc]at h ⊢
   cases f with
   |func g=>
    simp only at h ⊢
    split at h
    ·rename_i hb;rw[if_pos hb];exact hF _ _ _ _ _ h hk
    ·exact h.elim
   |tmp t=>exact rf h
   |const v=>exact rf h
   |global g=>exact rf h
  |invoke r m=>
   simp only[hc]at h ⊢
   exact rf h
  |builtin b=>
   simp only[hc]at h ⊢
   generalize c.args.toList.map (m8 T)=as1 at h ⊢
   generalize c.argTypes.toList=ts at h ⊢
   cases b<;>(try simp only at h ⊢)<;>try (exact o1 (fun v hv=>hk _ _ hv) h)
   case append=>
    rcases as1 with _|⟨s,_|⟨x,_|⟨y,as1⟩⟩⟩<;>rcases ts with _|⟨sT,_|⟨xT,_|⟨u,ts⟩⟩⟩<;>first|exact o2 h|exact o1 (fun v hv=>hk _ _ hv) h
   case copy=>
    rcases as1 with _|⟨s,_|⟨x,_|⟨y,as1⟩⟩⟩<;>rcases ts with _|⟨sT,ts⟩<;>first|exact o2 h|exact o1 (fun v hv=>hk _ _ hv) h
theorem b3p.weak{w:World}{X X':AV→AHeap→Prop}(hX:∀v H,X v H→X' v H){ρ:A6}{H:AHeap}{Q:AV→AHeap→Prop}{e:Ending}{w':World}(h:b3p E ⟨w,X⟩ ρ H Q e w'):b3p E ⟨w,X'⟩ ρ H Q e w':=by
 cases e with
 |returned u=>exact h
 |panicked c=>
  obtain⟨u,ρ',v,H',h1,h2,h3⟩:=h
  exact⟨u,ρ',v,H',h1,hX _ _ h2,h3⟩
 |outgrown=>exact h
theorem FnW.weak{w:World}{X X':AV→AHeap→Prop}(hX:∀v H,X v H→X' v H){f:FuncId}{args:List AV}{H:AHeap}{Q:AV→AHeap→Prop}(h:FnW P E ⟨w,X⟩ f args H Q):FnW P E ⟨w,X'⟩ f args H Q:=
 fun w ρ vargs R hf hr=>Calls.mono (h w ρ vargs R hf hr) fun e w' he=>he.weak hX
theorem G4.weak{w:World}{X X':AV→AHeap→Prop}(hX:∀v H,X v H→X' v H){c:Code}{T:List AV}{H:AHeap}{Q:r0→List AV→AHeap→Prop}(h:G4 P E ⟨w,X⟩ c T H Q):G4 P E ⟨w,X'⟩ c T H Q:=
 fun w ρ a R hR hf hT hk hp=>h w ρ a R hR hf hT hk fun u v ρ' H' a' w' hx=>hp u v ρ' H' a' w' (hX _ _ hx)
theorem o0.at_le{R R':Fz}(h:R.le R'):∀v H,(w0.at E R').X v H→(w0.at E R).X v H:=fun v H ⟨F,R1,S,d,a,b⟩=>⟨F,R1,S,d,Fz.le_trans h a,b⟩
theorem FnW.at_le{R R':Fz}(h:R.le R'){f:FuncId}{args:List AV}{H:AHeap}{Q:AV→AHeap→Prop}(hf:FnW P E (w0.at E R') f args H Q):FnW P E (w0.at E R) f args H Q:=FnW.weak (o0.at_le h) hf
theorem G4.at_le{R R':Fz}(h:R.le R'){c:Code}{T:List AV}{H:AHeap}{Q:r0→List AV→AHeap→Prop}(hf:G4 P E (w0.at E R') c T H Q):G4 P E (w0.at E R) c T H Q:=G4.weak (o0.at_le h) hf
theorem goF{R0 R:Fz}(h:R0.le R){S:b7}{H:AHeap}(F:L0 H)(hC:C8 E R S H):GoF E (FnW P E (w0.at E R0)) (n9 P E w0) R S H:=fun f ds avs K ha hf=>FnW.at_le h (hf R H avs F hC ha)
theorem b9I{w0:a5H}:c9H (FnW P E w0):=fun f args H Q Q' h hq=>h.mono hq
theorem b1H{R:Fz}{T:List D}{avs:List AV}(h:A2 E R T avs){ops:Array Oper}{o:Oper}{b:Bool}(hw:b8l ops T o=some b):a0y ops avs o=some b:=by
 unfold b8l at hw
 unfold a0y
 cases hg:o.guard with
 |none=>rw[hg]at hw;exact hw
 |some jw=>
  obtain⟨j,want⟩:=jw
  simp only[hg]at hw ⊢
  cases hd:(ops[j]?).bind (·.dst) with
  |none=>simp only[hd]at hw ⊢;exact hw
  |some d=>
   simp only[hd]at hw ⊢
   cases hx:T[d]? with
   |none=>
    have:avs[d]? =none:=List.getElem?_eq_none (by rw[h.length];exact List.getElem?_eq_none_iff.1 hx)
    simp only[hx]at hw
    simp only[this]
    exact hw
   |some x=>
    simp only[hx]at hw
    obtain⟨v,h1,h2⟩:=a4D h hx
    simp only[h1]
    cases x<;>simp only[d6]at hw<;>try (cases hw;done)
    all_goals
     simp only[Rp]at h2
     first
      |(subst h2;exact hw)
      |(rcases h2 with ⟨_,rfl⟩|⟨o,j,cap,ex,z,rfl,_⟩<;>exact hw)
      |(obtain⟨o,j,cap,ex,z,all,rfl,_⟩:=h2;exact hw)
      |(obtain⟨o,j,all,rfl,_⟩:=h2;exact hw)
      |(obtain⟨a',b',rfl,_⟩:=h2;exact hw)
      |(obtain⟨v',rfl,_⟩:=h2;exact hw)
theorem c8q{T:List D}{o:Oper}{S S':b7}(h:b5M T o S S'){k:Nat}(hk:b5I T o=some k):S' k=S k:=by
 unfold b5I at hk
 unfold b5M at h
 split at hk
 ·rename_i e;simp only[e,r9,hk]at h;exact h
 ·rename_i e;simp only[e,r9,hk]at h;exact h
 ·cases hk
theorem c6H{T:List D}{o:Oper}{S S':b7}(h:c6p o=false):b5M T o S S':=by
 unfold c6p at h
 unfold b5M
 split at h<;>first|(cases h;done)|trivial
theorem c7L{R:Fz}{S:b7}{H:AHeap}{T:List D}{avs:List AV}(hT:A2 E R T avs)(hC:C8 E R S H){ops:Array Oper}{o:Oper}{d:D}(h:c8p P ops T S o=some d):
  ∃v,Rp E R d v∧∀H,Agr R S (b5I T o) H→c6J P E ops avs H o=some v:=by
 unfold c8p j8 at h
 split at h
 ·rename_i hw
  obtain⟨v,h1,h2⟩:=d0Z hT hC h
  exact⟨v,h1,fun H hA=>by unfold c6J;rw[b1H hT hw];exact h2 H hA⟩
 ·rename_i hw
  cases h
  exact⟨y9,a2L,fun H hA=>by unfold c6J;rw[b1H hT hw];rfl⟩
 ·cases h
theorem c5i{F:FW}{G:DW}{R:Fz}{S:b7}{H:AHeap}(hG:GoF E F G R S H)(hF:L0 H)(hC:C8 E R S H){T:List D}{avs:List AV}(hT:A2 E R T avs){ops:Array Oper}{o:Oper}{K:D→b7→Prop}(h:c7j P G ops T S o K):b8x P E F ops avs H o (P5 E R K):=by
 unfold c7j a4g at h
 unfold b8x
 split at h
 ·rename_i hw
  rw[b1H hT hw]
  exact d1i hG hF hC hT h
 ·rename_i hw
  rw[b1H hT hw]
  exact⟨hF,R,S,b8,Fz.le_refl R,hC,a2L,h⟩
 ·exact h.elim
theorem c0q{F:FW}(hF:c9H F){ops:Array Oper}{T:List AV}{H:AHeap}{o:Oper}{K K':AV→AHeap→Prop}(h:b8x P E F ops T H o K)(hk:∀v H',K v H'→K' v H'):b8x P E F ops T H o K':=by
 unfold b8x a6T at*
 split<;>rename_i e<;>rw[e]at h
 ·exact d0v hF hk h
 ·exact hk _ _ h
 ·exact h
def a6x(E:l9)(R:Fz)(n:Nat)(Q:List D→b7→Prop)(avs':List AV)(H':AHeap):Prop:=L0 H'∧∃R' S' T',R.le R'∧C8 E R' S' H'∧A2 E R' T' avs'∧T'.length=n∧Q T' S'
theorem a6x.le{R R1:Fz}(h:R.le R1){n:Nat}{Q:List D→b7→Prop}{avs':List AV}{H':AHeap}(hp:a6x E R1 n Q avs' H'):a6x E R n Q avs' H':=by
 obtain⟨F,R',S',T',a,b⟩:=hp
 exact⟨F,R',S',T',Fz.le_trans h a,b⟩
theorem c7f{R0 R:Fz}(hle:R0.le R){S:b7}{H:AHeap}{T:List D}{avs:List AV}{ops:Array Oper}(F:L0 H)(hC:C8 E R S H)(hT:A2 E R T avs){o:Oper}{x:Operand}(hx:b8o o=some x)(h:a0M E w0 (A5 T x) S){Q:AV→AHeap→Prop}:a2I P E (w0.at E R0) ops avs H o Q:=by
 obtain⟨hp,h⟩:=h
 have hr:=z7 hT x
 obtain⟨dst,op,type,pos,after,guard⟩:=o
 unfold b8o at hx
 split at hx
 ·rename_i hg
  simp only at hg
  subst hg
  split at hx
  ·rename_i y hy
   simp only at hy
   subst hy
   cases hx
   unfold a2I a0y a6T c0K
   simp only[opA]
   unfold c5W
   refine⟨?_,F,R,S,A5 T x,hle,hC,hr,h⟩
   obtain⟨t,v,e⟩:=hp
   rw[e]at hr
   simp only[Rp]at hr
   obtain⟨v',e',_⟩:=hr
   exact⟨t,v',e'⟩
  ·cases hx
 ·cases hx
theorem c6k{R0:Fz}{ops:Array Oper}:∀ {l:List Oper} {T:List D} {avs:List AV} {S:b7} {H:AHeap} {R:Fz} {Q:List D→b7→Prop},R0.le R→L0 H→C8 E R S H→A2 E R T avs→b7C P (n9 P E w0) (a0M E w0) ops l T S Q→b5Q P E (w0.at E R0) ops l avs H (a6x E R T.length Q)
 | [],T,avs,S,H,R,Q,h0,F,hC,hT,h=>by
  simp only[b7C,a7q]at h
  exact⟨F,R,S,T,Fz.le_refl R,hC,hT,rfl,h⟩
 |o::l,T,avs,S,H,R,Q,h0,F,hC,hT,h=>by
  simp only[b7C,a7q,b8z]at h
  have next:∀ {d:D} {v:AV} {R':Fz} {S':b7} {H':AHeap},R.le R'→L0 H'→C8 E R' S' H'→Rp E R' d v→b7C P (n9 P E w0) (a0M E w0) ops l (b7p T o.dst d) S' Q→b5Q P E (w0.at E R0) ops l (a2q avs o.dst v) H' (a6x E R T.length Q):=by
   intro d v R' S' H' hle F' hC' hd h'
   have:=c6k (Fz.le_trans h0 hle) F' hC' (c7G (A2.le hle _ _ hT) o.dst hd) h'
   rw[b6O]at this
   exact b1V (fun _ _=>a6x.le hle) this
  have val:w7 P o≤1→(a9 (c8p P ops T S o) fun v=>b7C P (n9 P E w0) (a0M E w0) ops l (b7p T o.dst v) S Q)→b5Q P E (w0.at E R0) ops (o::l) avs H (a6x E R T.length Q):=by
   intro hk h
   unfold a9 at h
   split at h
   ·rename_i d hd
    obtain⟨v,h1,h2⟩:=c7L hT hC hd
    rw[b5Q,if_pos hk]
    exact⟨v,by rw[b4N hk];exact h2 H (hC.agr _),next (Fz.le_refl R) F hC h1 h⟩
   ·exact h.elim
  cases ha:b1O o with
  |some x=>
   simp only[ha]at h
   obtain⟨hk,hv⟩:=b9S (P:=P) (E:=E) ha
   rw[b5Q,if_pos (by omega)]
   exact⟨_,by rw[b4N (by omega)];exact hv ops avs H,next (Fz.le_refl R) F hC (z7 hT _) h⟩
  |none=>
   simp only[ha]at h
   rcases hk:w7 P o with _|_|k
   ·simp only[hk]at h;exact val (by omega) h
   ·simp only[hk]at h;exact val (by omega) h
   ·simp only[hk]at h
    rw[b5Q,if_neg (by omega)]
    split at h
    ·rename_i x hx;exact c7f h0 F hC hT hx h
    ·refine a3l (c7d (c0q b9I (c5i (goF h0 F hC) F hC hT h) fun v H' hq=>hq)) ?_
     rintro v H' ⟨F',R',S',d,hle,hC',hd,h'⟩
     exact next hle F' hC' hd h'
def d2b(P:Program)(E:l9)(ops:Array Oper)(R:Fz)(x:Oper×List D×b7)(y:t9):Prop:=
 x.1=y.o∧(w7 P y.o=1→∃Rd:Fz,Rd.le R∧∀H',Agr Rd x.2.2 (b5I x.2.1 x.1) H'→c6J P E ops y.T H' y.o=some y.v)
def DsC(P:Program)(E:l9)(ops:Array Oper)(R:Fz):List (Oper×List D×b7)→List t9→Prop
 | [],[]=>True
 |x::xs,y::ys=>d2b P E ops R x y∧DsC P E ops R xs ys
 |_,_=>False
theorem DsC.le{ops:Array Oper}{R R':Fz}(hle:R.le R'):∀ {xs:List (Oper×List D×b7)} {ys:List t9},DsC P E ops R xs ys→DsC P E ops R' xs ys
 | [],[],h=>h
 |x::xs,y::ys,h=>⟨⟨h.1.1,fun k=>let ⟨Rd,a,b⟩:=h.1.2 k;⟨Rd,Fz.le_trans a hle,b⟩⟩,DsC.le hle h.2⟩
 | [],_::_,h=>h.elim
 |_::_,[],h=>h.elim
theorem DsC.snoc{ops:Array Oper}{R:Fz}{x:Oper×List D×b7}{y:t9}(h1:d2b P E ops R x y):∀ {xs:List (Oper×List D×b7)} {ys:List t9},DsC P E ops R xs ys→DsC P E ops R (xs++[x]) (ys++[y])
 | [],[],h=>⟨h1,trivial⟩
 |x::xs,y::ys,h=>⟨h.1,DsC.snoc h1 h.2⟩
 | [],_::_,h=>h.elim
 |_::_,[],h=>h.elim
theorem c2g{ops:Array Oper}{R R':Fz}(hle:R.le R'){S':b7}{H':AHeap}(hC:C8 E R' S' H'){anc:Nat}{K:Prop}:∀ {xs:List (Oper×List D×b7)} {ys:List t9} {j:Nat},DsC P E ops R xs ys→b6q P S' anc K j xs→
  K∧∀(i:Nat) (d:t9),ys[i]? =some d→w7 P d.o=1→anc.testBit (j+i)=false→b3h P E ops d.T H' d.o=some d.v
 | [],[],j,_,h=>⟨h,fun i d e=>by simp at e⟩
 |x::xs,y::ys,j,⟨⟨e1,e2⟩,hd⟩,h=>by
  have step:∀(hK:b6q P S' anc K (j+1) xs),(w7 P y.o=1→anc.testBit j=false→b5M x.2.1 x.1 x.2.2 S')→K∧∀(i:Nat) (d:t9),(y::ys)[i]? =some d→w7 P d.o=1→anc.testBit (j+i)=false→b3h P E ops d.T H' d.o=some d.v:=fun hK hf=>by
   obtain⟨k1,k2⟩:=c2g hle hC hd hK
   refine⟨k1,fun i d hi hk ha=> ?_⟩
   cases i with
   |zero=>
    simp at hi
    subst hi
    obtain⟨Rd,g1,g2⟩:=e2 hk
    have hft:=hf hk (by simpa using ha)
    rw[b4N (by omega)]
    exact g2 H' ⟨fun j cs e=>let ⟨pre,g⟩:=hC.frozen j cs (hle _ _ (g1 _ _ e));⟨_,pre,g⟩,fun j o' hj hjS=>by
     rw[←c8q hft hj]at hjS
     obtain⟨_,⟨pre,g⟩,_⟩:=hC.own j o' hjS
     exact⟨_,pre,g⟩⟩
   |succ i=>exact k2 i d (by simpa using hi) hk (by rw[Nat.add_assoc,Nat.add_comm 1 i];exact ha)
  simp only[b6q]at h
  split at h
  ·exact step h.2 fun _ _=>h.1
  ·rename_i hc
   refine step h fun hk ha=>c6H ?_
   rw[e1]at hc ⊢
   simp only[hk,ha,Bool.not_false,Bool.and_true,beq_self_eq_true,Bool.true_and,Bool.not_eq_true]at hc
   exact hc
 | [],_::_,_,h,_=>h.elim
 |_::_,[],_,h,_=>h.elim
theorem c6S{R0:Fz}{ops:Array Oper}:∀ {l:List t9} {xs:List (Oper×List D×b7)} {ys:List t9} {T:List D} {avs:List AV} {S:b7} {H:AHeap} {R:Fz} {Q:List D→b7→Prop},R0.le R→L0 H→C8 E R S H→A2 E R T avs→DsC P E ops R xs ys→b4M P (n9 P E w0) (a0M E w0) ops l xs T S Q→a7Z P E (w0.at E R0) ops l ys avs H (a6x E R T.length Q)
 | [],xs,ys,T,avs,S,H,R,Q,h0,F,hC,hT,hD,h=>by
  simp only[b4M,a7q]at h
  exact⟨F,R,S,T,Fz.le_refl R,hC,hT,rfl,h⟩
 |s::l,xs,ys,T,avs,S,H,R,Q,h0,F,hC,hT,hD,h=>by
  simp only[b4M,a7q,b8z]at h
  have next:∀ {d:D} {v:AV} {R':Fz} {S':b7} {H':AHeap},R.le R'→L0 H'→C8 E R' S' H'→Rp E R' d v→d2b P E ops R' (s.o,T,S) ⟨s.o,s.anc,avs,v,0,0,s.wr,[]⟩→b4M P (n9 P E w0) (a0M E w0) ops l (xs++[(s.o,T,S)]) (b7p T s.o.dst d) S' Q→a7Z P E (w0.at E R0) ops l (ys++[⟨s.o,s.anc,avs,v,0,0,s.wr,[]⟩]) (a2q avs s.o.dst v) H' (a6x E R T.length Q):=by
   intro d v R' S' H' hle F' hC' hd he h'
   have:=c6S (Fz.le_trans h0 hle) F' hC' (c7G (A2.le hle _ _ hT) s.o.dst hd) ((hD.le hle).snoc he) h'
   rw[b6O]at this
   exact b6p (fun _ _=>a6x.le hle) this
  have val:w7 P s.o≤1→(a9 (c8p P ops T S s.o) fun v=>b4M P (n9 P E w0) (a0M E w0) ops l (xs++[(s.o,T,S)]) (b7p T s.o.dst v) S Q)→a7Z P E (w0.at E R0) ops (s::l) ys avs H (a6x E R T.length Q):=by
   intro hk h
   unfold a9 at h
   split at h
   ·rename_i d hd
    obtain⟨v,h1,h2⟩:=c7L hT hC hd
    rw[a7Z,if_pos hk]
    exact⟨v,by rw[b4N hk];exact h2 H (hC.agr _),next (Fz.le_refl R) F hC h1 ⟨rfl,fun _=>⟨R,Fz.le_refl R,h2⟩⟩ h⟩
   ·exact h.elim
  cases ha:b1O s.o with
  |some x=>
   simp only[ha]at h
   obtain⟨hk,hv⟩:=b9S (P:=P) (E:=E) ha
   rw[a7Z,if_pos (by omega)]
   exact⟨_,by rw[b4N (by omega)];exact hv ops avs H,next (Fz.le_refl R) F hC (z7 hT _) ⟨rfl,fun hk1=>by simp only at hk1;omega⟩ h⟩
  |none=>
   simp only[ha]at h
   rcases hk:w7 P s.o with _|_|k
   ·simp only[hk]at h;exact val (by omega) h
   ·simp only[hk]at h;exact val (by omega) h
   ·simp only[hk]at h
    rw[a7Z,if_neg (by omega)]
    split at h
    ·rename_i x hx;exact c7f h0 F hC hT hx h
    ·refine a3l (c7d (c0q b9I (c5i (goF h0 F hC) F hC hT h) fun v H' hq=>hq)) ?_
     rintro v H' ⟨F',R',S',d,hle,hC',hd,h'⟩
     obtain⟨k1,k2⟩:=c2g hle hC' hD h'
     exact⟨fun i d hi hk1 ha=>k2 i d hi hk1 (by rw[Nat.zero_add];exact ha),next hle F' hC' hd ⟨rfl,fun hk1=>by simp only at hk1;omega⟩ k1⟩
end
end
section
section
variable(P:Program)(E:l9)(w0:o0)
def d0c(E:l9)(R:Fz)(n:Nat)(Q:r0→List D→b7→Prop)(ex:r0)(avs':List AV)(H':AHeap):Prop:=a6x E R n (Q ex) avs' H'
def j9(c:Code)(T:List D)(S:b7)(Q:r0→List D→b7→Prop):Prop:=
 ∀R H avs,L0 H→C8 E R S H→A2 E R T avs→G4 P E (w0.at E R) c avs H (d0c E R T.length Q)
end
def a8O:List D→List Nat→List D→List D
 |T,i::L,v::vs=>a8O (T.set i v) L vs
 |T,_,_=>T
def m9(n:Nat)(L:List Nat)(vs:List D):List D:=a8O (List.replicate n .any) L vs
def a2k(T:List D):List Nat→List D
 | []=>[]
 |i::L=>T.getD i b8::a2k T L
def j0(c:D)(a b:Prop):Prop:=match c with
 | .bool true=>a
 | .bool false=>b
 |_=>False
def t7(id:Nat)(Q:r0→List D→b7→Prop):r0→List D→b7→Prop
 | .exit id',T,S=>if id'=id then Q .normal T S else Q (.exit id') T S
 |e,T,S=>Q e T S
def c7D{α:Type}(k:Nat):List (Nat×α)→Option α
 | []=>none
 |(i,L)::l=>if i=k then some L else c7D k l
def hdD:Code→Option Nat
 | .region id _ _=>some (2*id)
 | .seq a b=>match hdD a with
  |some k=>some k
  |none=>hdD b
 | .cond _ a b=>match hdD a with
  |some k=>some (2*k+1)
  |none=>match hdD b with
   |some k=>some (2*k+1)
   |none=>none
 | .block _ c| .loop c=>hdD c
 |_=>none
def d2X(cuts:List (Nat×List Nat))(c:Code):Option (List Nat):=match hdD c with
 |some id=>c7D id cuts
 |none=>none
section
variable(P:Program)(E:l9)(w0:o0)(loops cuts:List (Nat×List Nat))(arrs:List (Nat×Arr))
def vcD:Code→List D→b7→(r0→List D→b7→Prop)→Prop
 | .skip,T,S,Q=>Q .normal T S
 | .label _,T,S,Q=>Q .normal T S
 | .ret,T,S,Q=>Q .ret T S
 | .exit id,T,S,Q=>Q (.exit id) T S
 | .region id ops draw,T,S,Q=>match draw with
  |false=>b7C P (n9 P E w0) (a0M E w0) ops ops.toList T S (Q .normal)
  |true=>match c7D id arrs with
   |some t=>if a7y ops&&b9d ops then b1D P ops (fun ops' sd=>b4M P (n9 P E w0) (a0M E w0) ops' sd [] T S (Q .normal)) t []else False
   |none=>match b0T P ops ops.toList []with
    |some sd=>b4M P (n9 P E w0) (a0M E w0) ops sd [] T S (Q .normal)
    |none=>False
 | .seq a b,T,S,Q=>match d2X cuts b with
  |some L=>vcD a T S fun ex T' S'=>match ex with
   | .normal=>j9 P E w0 b (m9 T.length L (a2k T' L)) S' Q
   |e=>Q e T' S'
  |none=>vcD a T S fun ex T' S'=>match ex with
   | .normal=>vcD b T' S' Q
   |e=>Q e T' S'
 | .cond c a b,T,S,Q=>j0 (A5 T c) (vcD a T S Q) (vcD b T S Q)
 | .block id c,T,S,Q=>vcD c T S (t7 id Q)
 | .loop c,T,S,Q=>match d2X loops c with
  |some L=>j9 P E w0 (.loop c) (m9 T.length L (a2k T L)) S Q
  |none=>j9 P E w0 (.loop c) T S Q
 |_,_,_,_=>False
end
section
variable(P:Program)(E:l9)(w0:o0)(loops cuts:List (Nat×List Nat))(arrs:List (Nat×Arr))
def K4(b:Code)(Q:r0→List D→b7→Prop)(ex:r0)(T:List D)(S:b7):Prop:=match ex with
 | .normal=>vcD P E w0 loops cuts arrs b T S Q
 |e=>Q e T S
def d3d(n:Nat)(L:List Nat)(b:Code)(Q:r0→List D→b7→Prop)(ex:r0)(T:List D)(S:b7):Prop:=match ex with
 | .normal=>j9 P E w0 b (m9 n L (a2k T L)) S Q
 |e=>Q e T S
end
def D8(N:List D→b7→Prop)(Q:r0→List D→b7→Prop)(ex:r0)(T:List D)(S:b7):Prop:=match ex with
 | .normal=>N T S
 |e=>Q e T S
def a3F(P:Program)(S:b7)(T:List D):List ResultVar→(List D→Prop)→Prop
 | [],K=>K []
 | .tmp t::l,K=>a3F P S T l fun vs=>K (T.getD t b8::vs)
 | .cell a t::l,K=>a9 (c7x P S t (T.getD a b8)) fun v=>a3F P S T l fun vs=>K (v::vs)
def b9s:List D→D
 | [v]=>v
 |vs=> .tup vs
def J6(P:Program)(fn:Func)(Q:D→b7→Prop):r0→List D→b7→Prop
 | .exit _,_,_=>False
 |_,T,S=>a3F P S T fn.results.toList fun vs=>Q (b9s vs) S
def d8(E:l9)(Q:D→b7→Prop)(d:D)(S:b7):Prop:=
 ∀R H v,C8 E R S H→Rp E R d v→∃R' S' d',R.le R'∧C8 E R' S' H∧Rp E R' d' v∧Q d' S'
section
variable{P:Program}{E:l9}{w0:o0}
theorem j9.mono{c:Code}{T:List D}{S:b7}{Q Q':r0→List D→b7→Prop}(h:j9 P E w0 c T S Q)(hq:∀ex T' S',T'.length=T.length→Q ex T' S'→Q' ex T' S'):j9 P E w0 c T S Q':=fun R H avs F hC hT=>
 (h R H avs F hC hT).mono fun ex T' H' ⟨F',R',S',T1,a,b,c,d,e⟩=>⟨F',R',S',T1,a,b,c,d,hq _ _ _ d e⟩
theorem n9.use{f:FuncId}{ds:List D}{S:b7}{Q Q':D→b7→Prop}(h:n9 P E w0 f ds S Q)(hq:∀d S',Q d S'→Q' d S'):n9 P E w0 f ds S Q':=fun R H avs hFi hC ha=>
 (h R H avs hFi hC ha).mono fun v H' ⟨F',R',S',d,a,b,c,e⟩=>⟨F',R',S',d,a,b,c,hq _ _ e⟩
theorem b2w:∀(T:List D) (L:List Nat) (vs:List D),(a8O T L vs).length=T.length
 |T,i::L,v::vs=>by rw[a8O,b2w,List.length_set]
 |T,[],_=>by simp[a8O]
 |T,_::_,[]=>by simp[a8O]
theorem o8(n:Nat)(L:List Nat)(vs:List D):(m9 n L vs).length=n:=by rw[m9,b2w,List.length_replicate]
theorem c7z{R:Fz}:∀ {avs:List AV},A2 E R (List.replicate avs.length .any) avs
 | []=>F5
 |v::avs=>A7 b3u c7z
theorem c2y{R:Fz}{T:List D}{avs:List AV}(h:A2 E R T avs)(L:List Nat):A2 E R (m9 T.length L (a2k T L)) avs:=by
 have main:∀(L:List Nat) (T0:List D),T0.length=T.length→A2 E R T0 avs→A2 E R (a8O T0 L (a2k T L)) avs:=by
  intro L
  induction L with
  |nil=>intro T0 hl h0;simpa [a8O,a2k]using h0
  |cons i L ih=>
   intro T0 hl h0
   simp only[a2k,a8O]
   refine ih _ (by rw[List.length_set,hl]) ?_
   by_cases hi:i<T.length
   ·have hlen:=h.length
    have:=h0.set i (b4y h i)
    rw[List.getD_eq_getElem?_getD (l:=avs),List.getElem?_eq_getElem (by omega),Option.getD_some,List.set_getElem_self]at this
    exact this
   ·rw[List.set_eq_of_length_le (by omega)]
    exact h0
 refine main L _ (by rw[List.length_replicate]) ?_
 rw[←h.length]
 exact c7z
theorem s5{c:Code}{T:List D}{S:b7}{Q:r0→List D→b7→Prop}{n:Nat}(L:List Nat)(hn:T.length=n)(h:j9 P E w0 c (m9 n L (a2k T L)) S Q):j9 P E w0 c T S Q:=fun R H avs F hC hT=>by
 have:=h R H avs F hC (by rw[←hn];exact c2y hT L)
 rw[o8, ←hn]at this
 exact this
theorem s0{c:Code}{Q:r0→List D→b7→Prop}{I:Nat→List D→b7→Prop}{k:Nat}
  (step:∀n T S,T.length=k→I n T S→j9 P E w0 c T S fun ex T' S'=>match ex with| .normal=>∃m,m<n∧I m T' S'|e=>Q e T' S')
  {n:Nat} {T:List D} {S:b7} (hk:T.length=k) (h:I n T S):j9 P E w0 (.loop c) T S Q:=fun R H avs F hC hT=>by
 refine c6i (I:=fun n avs H=>a6x E R k (I n) avs H) (fun n avs H hI=> ?_) (n:=n) ⟨F,R,S,T,Fz.le_refl R,hC,hT,hk,h⟩
 obtain⟨F1,R1,S1,T1,a,b,c1,d,e⟩:=hI
 refine(G4.at_le a (step n T1 S1 d e R1 H avs F1 b c1)).mono fun ex T' H' hq=> ?_
 cases ex with
 |normal=>
  obtain⟨F2,R2,S2,T2,a2,b2,c2,d2,m,hm,e2⟩:=hq
  exact⟨m,hm,F2,R2,S2,T2,Fz.le_trans a a2,b2,c2,by rw[d2,d],e2⟩
 |exit id=>
  obtain⟨F2,R2,S2,T2,a2,b2,c2,d2,e2⟩:=hq
  exact⟨F2,R2,S2,T2,Fz.le_trans a a2,b2,c2,by rw[d2,d,hk],e2⟩
 |ret=>
  obtain⟨F2,R2,S2,T2,a2,b2,c2,d2,e2⟩:=hq
  exact⟨F2,R2,S2,T2,Fz.le_trans a a2,b2,c2,by rw[d2,d,hk],e2⟩
theorem c8B{id:Nat}{ops:Array Oper}{T:List D}{S:b7}{Q:r0→List D→b7→Prop}(h:b7C P (n9 P E w0) (a0M E w0) ops ops.toList T S (Q .normal)):j9 P E w0 (.region id ops false) T S Q:=fun R H avs F hC hT=>c3u (b8j (c6k (Fz.le_refl R) F hC hT h))
theorem c6h(hm:P.follows .mixedOrders=true){id:Nat}{ops:Array Oper}{sd:List t9}(hB:b0T P ops ops.toList []=some sd){T:List D}{S:b7}{Q:r0→List D→b7→Prop}(h:b4M P (n9 P E w0) (a0M E w0) ops sd [] T S (Q .normal)):j9 P E w0 (.region id ops true) T S Q:=fun R H avs F hC hT=>c6Z hm hB (c6S (xs:=[]) (ys:=[]) (Fz.le_refl R) F hC hT trivial h)
theorem c5d(hm:P.follows .mixedOrders=true){id:Nat}{ops:Array Oper}{t:Arr}{T:List D}{S:b7}{Q:r0→List D→b7→Prop}(h:if a7y ops&&b9d ops then b1D P ops (fun ops' sd=>b4M P (n9 P E w0) (a0M E w0) ops' sd [] T S (Q .normal)) t []else False):j9 P E w0 (.region id ops true) T S Q:=fun R H avs F hC hT=>by
 split at h
 ·rename_i hok
  simp only[Bool.and_eq_true]at hok
  exact c4i hm hok.1 hok.2 (h.mono fun ops' sd ho=>c6S (xs:=[]) (ys:=[]) (Fz.le_refl R) F hC hT trivial ho)
 ·exact h.elim
variable{loops cuts:List (Nat×List Nat)}{arrs:List (Nat×Arr)}
theorem b0Z(hm:P.follows .mixedOrders=true):∀(c:Code) (T:List D) (S:b7) (Q:r0→List D→b7→Prop),vcD P E w0 loops cuts arrs c T S Q→j9 P E w0 c T S Q
 | .skip,T,S,Q,h=>fun R H avs F hC hT=>c5X ⟨F,R,S,T,Fz.le_refl R,hC,hT,rfl,h⟩
 | .label _,T,S,Q,h=>fun R H avs F hC hT=>c4y ⟨F,R,S,T,Fz.le_refl R,hC,hT,rfl,h⟩
 | .ret,T,S,Q,h=>fun R H avs F hC hT=>c8b ⟨F,R,S,T,Fz.le_refl R,hC,hT,rfl,h⟩
 | .exit id,T,S,Q,h=>fun R H avs F hC hT=>c6F ⟨F,R,S,T,Fz.le_refl R,hC,hT,rfl,h⟩
 | .region _ ops false,T,S,Q,h=>c8B h
 | .region id ops true,T,S,Q,h=>by
  change (match c7D id arrs with
   |some t=>if a7y ops&&b9d ops then b1D P ops (fun ops' sd=>b4M P (n9 P E w0) (a0M E w0) ops' sd [] T S (Q .normal)) t []else False
   |none=>match b0T P ops ops.toList []with
    |some sd=>b4M P (n9 P E w0) (a0M E w0) ops sd [] T S (Q .normal)
    |none=>False)at h
  split at h
  ·exact c5d hm h
  ·split at h
   ·rename_i sd hB;exact c6h hm hB h
   ·exact h.elim
 | .seq a b,T,S,Q,h=>fun R H avs F hC hT=>by
  simp only[vcD]at h
  have fin:j9 P E w0 a T S (fun ex T' S'=>match ex with| .normal=>j9 P E w0 b T' S' Q|e=>Q e T' S')→G4 P E (w0.at E R) (.seq a b) avs H (d0c E R T.length Q):=by
   intro h
   refine c8m ((h R H avs F hC hT).mono fun ex T' H' hq=> ?_)
   cases ex with
   |normal=>
    obtain⟨F2,R2,S2,T2,a2,b2,c2,d2,e2⟩:=hq
    have:=e2 R2 H' T' F2 b2 c2
    rw[d2]at this
    exact(G4.at_le a2 this).mono fun ex T' H' hq=>a6x.le a2 hq
   |exit id=>exact hq
   |ret=>exact hq
  split at h
  ·rename_i L hL
   refine fin ((b0Z hm a T S _ h).mono fun ex T' S' hl hq=> ?_)
   cases ex with
   |normal=>exact s5 L hl hq
   |exit id=>exact hq
   |ret=>exact hq
  ·refine fin ((b0Z hm a T S _ h).mono fun ex T' S' hl hq=> ?_)
   cases ex with
   |normal=>exact b0Z hm b T' S' Q hq
   |exit id=>exact hq
   |ret=>exact hq
 | .cond c a b,T,S,Q,h=>fun R H avs F hC hT=>by
  simp only[vcD]at h
  have hr:=z7 hT c
  unfold j0 at h
  split at h
  ·rename_i e
   rw[e]at hr
   simp only[Rp]at hr
   exact c0w (by rw[hr];exact b0Z hm a T S Q h R H avs F hC hT)
  ·rename_i e
   rw[e]at hr
   simp only[Rp]at hr
   exact c0w (by rw[hr];exact b0Z hm b T S Q h R H avs F hC hT)
  ·exact h.elim
 | .block id c,T,S,Q,h=>fun R H avs F hC hT=>by
  refine c5r ((b0Z hm c T S _ h R H avs F hC hT).mono fun ex T' H' hq=> ?_)
  cases ex with
  |normal=>exact hq
  |ret=>exact hq
  |exit id'=>
   obtain⟨F2,R2,S2,T2,a2,b2,c2,d2,e2⟩:=hq
   simp only[t7]at e2
   simp only[c5P]
   split at e2
   ·rename_i e;rw[if_pos e];exact⟨F2,R2,S2,T2,a2,b2,c2,d2,e2⟩
   ·rename_i e;rw[if_neg e];exact⟨F2,R2,S2,T2,a2,b2,c2,d2,e2⟩
 | .loop c,T,S,Q,h=>by
  simp only[vcD]at h
  split at h
  ·rename_i L hL;exact s5 L rfl h
  ·exact h
 | .rangeFunc ..,T,S,Q,h=>h.elim
 | .scope ..,T,S,Q,h=>h.elim
 | .goto ..,T,S,Q,h=>h.elim
 | .refuse ..,T,S,Q,h=>h.elim
theorem a8U{R:Fz}{S:b7}{H:AHeap}{T:List D}{avs:List AV}(hC:C8 E R S H)(hT:A2 E R T avs):∀ {l:List ResultVar} {K:List D→Prop} {K':List AV→Prop},(∀ds vs,A2 E R ds vs→K ds→K' vs)→a3F P S T l K→Q1 P E H avs l K'
 | [],K,K',hk,h=>hk [] [] F5 h
 | .tmp t::l,K,K',hk,h=>by
  have:=a8U (l:=l) (K':=fun vs=>K' (avs.getD t y9::vs)) hC hT (fun ds vs hr hK=>hk (T.getD t b8::ds) (avs.getD t y9::vs) (A7 (b4y hT t) hr) hK) h
  exact this
 | .cell a t::l,K,K',hk,h=>by
  simp only[a3F]at h
  unfold a9 at h
  split at h
  ·rename_i d hd
   have ha:=b4y hT a
   obtain⟨v,h1,h2⟩:=c7C hC ha hd
   have h2:=h2 H (hC.agr _)
   have:=a8U (l:=l) (K':=fun vs=>K' (v::vs)) hC hT (fun ds vs hr hK=>hk (d::ds) (v::vs) (A7 h1 hr) hK) h
   simp only[Q1]
   unfold c7R at h2
   split at h2
   ·rename_i o i e
    simp only[e,h2,c8Y]
    exact this
   ·cases h2
  ·exact h.elim
theorem c7t{R:Fz}{ds:List D}{vs:List AV}(h:A2 E R ds vs):Rp E R (b9s ds) (b2E vs):=by
 rcases ds with _|⟨d,_|⟨d',ds⟩⟩
 ·simp only[A2]at h;subst h;exact a2L
 ·simp only[A2]at h
  obtain⟨v,_,rfl,h1,rfl⟩:=h
  exact h1
 ·have h':=h
  simp only[A2]at h
  obtain⟨v,_,rfl,h1,v2,vs',rfl,h2,h3⟩:=h
  show Rp E R (.tup (d::d'::ds)) (.tup (v::v2::vs'))
  simp only[Rp]
  exact⟨_,rfl,h'⟩
theorem c5B{f:FuncId}{fn:Func}{c:Code}(hfn:P.funcs[f]? =some fn)(hb:fn.body=some c){ds:List D}{S:b7}{Q:D→b7→Prop}
  (h:j9 P E w0 c (ds++List.replicate (fn.ntmps - ds.length) b8) S (J6 P fn (d8 E Q))):n9 P E w0 f ds S Q:=fun R H avs F hC ha=>by
 have hrow:A2 E R (ds++List.replicate (fn.ntmps - ds.length) b8) (avs++List.replicate (fn.ntmps - avs.length) y9):=by
  refine ha.append ?_
  rw[ha.length]
  generalize fn.ntmps - ds.length=m
  induction m with
  |zero=>exact F5
  |succ m ih=>exact A7 a2L ih
 have h':G4 P E (w0.at E R) c (avs++List.replicate (fn.ntmps - avs.length) y9) H (d3B P E fn (P5 E R Q)):=by
  refine(h R H _ F hC hrow).mono fun ex T' H' hq=> ?_
  obtain⟨F2,R2,S2,T2,a2,b2,c2,d2,e2⟩:=hq
  have go:∀ {l:List ResultVar},a3F P S2 T2 l (fun vs=>d8 E Q (b9s vs) S2)→Q1 P E H' T' l fun vs=>P5 E R Q (b2E vs) H':=fun h=>a8U b2 c2 (fun ds vs hr hK=>by
   obtain⟨R',S',d',k1,k2,k3,k4⟩:=hK R2 H' _ b2 (c7t hr)
   exact⟨F2,R',S',d',Fz.le_trans a2 k1,k2,k3,k4⟩) h
  cases ex with
  |normal=>exact go e2
  |ret=>exact go e2
  |exit id=>exact e2
 exact c5w hfn hb h'
theorem m6(loops cuts:List (Nat×List Nat))(arrs:List (Nat×Arr))(hm:P.follows .mixedOrders=true){f:FuncId}{fn:Func}{c:Code}(hfn:P.funcs[f]? =some fn)(hb:fn.body=some c){ds:List D}{S:b7}{Q:D→b7→Prop}{V:Prop}
  (e:vcD P E w0 loops cuts arrs c (ds++List.replicate (fn.ntmps - ds.length) b8) S (J6 P fn (d8 E Q))=V) (h:V):n9 P E w0 f ds S Q:=
 c5B hfn hb (b0Z hm _ _ _ _ (e▸h))
theorem k9(loops cuts:List (Nat×List Nat))(arrs:List (Nat×Arr))(hm:P.follows .mixedOrders=true){c:Code}{T:List D}{S:b7}{Q:r0→List D→b7→Prop}{V:Prop}(e:vcD P E w0 loops cuts arrs c T S Q=V)(h:V):j9 P E w0 c T S Q:=
 b0Z hm _ _ _ _ (e▸h)
theorem d8.here{Q:D→b7→Prop}{d:D}{S:b7}(h:Q d S):d8 E Q d S:=fun R H v hC hd=>⟨R,S,d,Fz.le_refl R,hC,hd,h⟩
theorem d8.less{Q:D→b7→Prop}{d:D}{S S':b7}(hs:S'.le S)(h:d8 E Q d S'):d8 E Q d S:=fun R H v hC hd=>h R H v (hC.less hs) hd
theorem d8.mono{Q Q':D→b7→Prop}{d:D}{S:b7}(h:d8 E Q d S)(hq:∀d S,Q d S→Q' d S):d8 E Q' d S:=fun R H v hC hd=>by
 obtain⟨R',S',d',a,b,c,e⟩:=h R H v hC hd
 exact⟨R',S',d',a,b,c,hq _ _ e⟩
theorem d8.freeze{Q:D→b7→Prop}{S:b7}{k:Nat}{o:L2}(hk:S k=some o){i len cap:Nat}{ex:Bool}{sz:Nat}(hsz:o.sz=sz)(hl:i+len≤o.rows.length)(hc:len≤cap)
  (h:d8 E Q (.lst ((o.rows.drop i).take len) sz) (S.erase k)):d8 E Q (.raw k i len cap ex sz) S:=fun R H v hC hd=>by
 obtain⟨h1,h2⟩:=hC.freeze hk
 obtain⟨R',S',d',a,b,c,e⟩:=h _ H v h1 (a7E hC hk hd hsz hl hc)
 exact⟨R',S',d',Fz.le_trans h2 a,b,c,e⟩
theorem d8.freezeT{Q:D→b7→Prop}{S:b7}{k:Nat}{o:L2}(hk:S k=some o){i len cap:Nat}{ex:Bool}{sz:Nat}(hsz:o.sz=sz)(hl:i+len≤o.rows.length)(hc:len≤cap){lp lq:List D}
  (h:d8 E Q (.tup (lp++ .lst ((o.rows.drop i).take len) sz::lq)) (S.erase k)):d8 E Q (.tup (lp++ .raw k i len cap ex sz::lq)) S:=fun R H v hC hd=>by
 obtain⟨h1,h2⟩:=hC.freeze hk
 simp only[Rp]at hd
 obtain⟨vs,rfl,hv⟩:=hd
 obtain⟨v1,v2,rfl,g1,g2⟩:=a4N hv
 simp only[A2]at g2
 obtain⟨w,ws,rfl,g3,g4⟩:=g2
 obtain⟨R',S',d',a,b,c,e⟩:=h _ H (.tup (v1++w::ws)) h1 (by
  simp only[Rp]
  exact⟨_,rfl,(A2.le h2 _ _ g1).append (A7 (a7E hC hk g3 hsz hl hc) (A2.le h2 _ _ g4))⟩)
 exact⟨R',S',d',Fz.le_trans h2 a,b,c,e⟩
theorem d8.nil{Q:D→b7→Prop}{S:b7}{sz:Nat}(h:d8 E Q (.lst [] sz) S):d8 E Q .nilSlc S:=fun R H v hC hd=>h R H v hC (by simp only[Rp]at hd ⊢;exact .inl ⟨trivial,hd⟩)
theorem d8.nilT{Q:D→b7→Prop}{S:b7}{sz:Nat}{lp lq:List D}(h:d8 E Q (.tup (lp++ .lst [] sz::lq)) S):d8 E Q (.tup (lp++ .nilSlc::lq)) S:=fun R H v hC hd=>h R H v hC (by
 simp only[Rp]at hd ⊢
 obtain⟨vs,rfl,hv⟩:=hd
 obtain⟨v1,v2,rfl,g1,g2⟩:=a4N hv
 simp only[A2]at g2
 obtain⟨w,ws,rfl,g3,g4⟩:=g2
 exact⟨_,rfl,g1.append (A7 (by simp only[Rp]at g3 ⊢;exact .inl ⟨trivial,g3⟩) g4)⟩)
def a0B(P:Program)(E:l9)(w0:o0)(f:FuncId)(ds:List D)(d:D):Prop:=∀S,n9 P E w0 f ds S fun d' S'=>d'=d∧S'=S
theorem a0B.use{f:FuncId}{ds:List D}{d:D}(h:a0B P E w0 f ds d){S:b7}{K:D→b7→Prop}(hk:K d S):n9 P E w0 f ds S K:=(h S).use fun d' S' ⟨a,b⟩=>by subst a b;exact hk
end
end
end Go.Am
end
section
open Go.Proofs Go Go.Am
namespace Go.Proofs.Ytchnpgddpaonhaa.d
theorem o7:Try.prog.follows .mixedOrders=true:=by kernel_rfl
abbrev a6S:TypeId:=76
abbrev a6H:FuncId:=5
abbrev a0m:FuncId:=10
abbrev X7:FuncId:=11
abbrev b5s:FuncId:=15
abbrev P8:FuncId:=22
abbrev a8x:FuncId:=23
abbrev K3:FuncId:=24
abbrev a1g:FuncId:=25
abbrev a8D:FuncId:=26
abbrev a4i:FuncId:=39
abbrev a0r:FuncId:=41
abbrev a9i:FuncId:=42
abbrev B4:FuncId:=43
abbrev a1v:FuncId:=44
abbrev a1H:FuncId:=45
abbrev L4:FuncId:=46
abbrev a1t:FuncId:=47
abbrev a1G:FuncId:=48
abbrev r8:FuncId:=49
abbrev I9:FuncId:=50
abbrev E5:FuncId:=51
abbrev L8:FuncId:=52
abbrev a1O:FuncId:=53
abbrev a3Q:FuncId:=56
abbrev A8:FuncId:=57
abbrev a1M:FuncId:=58
abbrev H6:FuncId:=59
abbrev M4:FuncId:=60
abbrev w9:FuncId:=61
abbrev a3E:FuncId:=62
abbrev I2:FuncId:=63
abbrev a4E:FuncId:=64
abbrev a7v:FuncId:=65
abbrev a1j:FuncId:=66
abbrev a8P:FuncId:=67
abbrev L5:FuncId:=68
abbrev Q5:FuncId:=69
abbrev a0x:FuncId:=70
abbrev O9:FuncId:=71
abbrev a2r:FuncId:=72
abbrev H9:FuncId:=73
abbrev b6d:FuncId:=74
abbrev H8:FuncId:=75
abbrev a2B:FuncId:=76
abbrev a6s:FuncId:=77
abbrev b3N:FuncId:=78
abbrev b3K:FuncId:=79
abbrev t6:FuncId:=80
abbrev D5:FuncId:=81
abbrev Z7:FuncId:=82
abbrev a4A:FuncId:=83
abbrev L3:FuncId:=84
abbrev b2V:FuncId:=85
abbrev r7:FuncId:=86
abbrev f9:FuncId:=87
abbrev p9:FuncId:=88
abbrev N7:FuncId:=89
abbrev b2W:FuncId:=90
abbrev b0L:FuncId:=91
abbrev a0j:FuncId:=92
abbrev a2H:FuncId:=93
abbrev b1b:FuncId:=94
abbrev B5:FuncId:=95
abbrev Y6:FuncId:=96
abbrev b0i:FuncId:=97
abbrev b0U:FuncId:=98
abbrev Y1:FuncId:=99
abbrev a0K:FuncId:=100
end Go.Proofs.Ytchnpgddpaonhaa.d
end
