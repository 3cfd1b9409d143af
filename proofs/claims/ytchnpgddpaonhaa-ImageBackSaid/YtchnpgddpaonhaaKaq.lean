/-
  ImageBackSaid: part Kaq of its proof.
-/
import Derived.Test.YtchnpgddpaonhaaKap
import Derived.Test.YtchnpgddpaonhaaRows
import Derived.KernelRfl
set_option linter.unusedVariables false
set_option linter.unusedSimpArgs false
set_option maxRecDepth 100000
section
namespace Go.Am
section
def b9z(T:List D)(dst:Option Tmp)(v:D):List D:=match dst with
 |some d=>T.set d v
 |none=>T
def b5p:List D→(List D→Prop)→Prop
 | [],k=>k []
 |a::l,k=>b5p l fun l'=>k (a::l')
def c9d:List D→Nat→(D→Prop)→Prop
 | [],_,k=>k b8
 |a::l,n,k=>match n with
  |0=>k a
  |n+1=>c9d l n k
def b7e(T:List D)(x:Operand)(k:D→Prop):Prop:=match x with
 | .tmp t=>c9d T t k
 |x=>k (B5 T x)
def d6(g:D)(want:Bool):Option Bool:=match g with
 | .bool b=>some (b==want)
 | .any=>none
 |_=>some false
def c0q(ops:Array Oper)(T:List D)(o:Oper):Option Bool:=
 match o.guard with
 |none=>some true
 |some (j,want)=>match (ops[j]?).bind (·.dst) with
  |none=>some false
  |some d=>match T[d]? with
   |some x=>d6 x want
   |none=>some false
def f0(g:Option Bool)(r:Option D):Option D:=match g with
 |some true=>r
 |some false=>some b8
 |none=>none
def a0N(r:Option Bool)(s:(D→b7→Prop)→Prop)(S:b7)(Q:D→b7→Prop):Prop:=match r with
 |some true=>s Q
 |some false=>Q b8 S
 |none=>False
def d0T(P:Program)(ops:Array Oper)(T:List D)(S:b7)(o:Oper):Option D:=f0 (c0q ops T o) (d5b P T S o)
def c9q(P:Program)(G:DW)(ops:Array Oper)(T:List D)(S:b7)(o:Oper)(K:D→b7→Prop):Prop:=a0N (c0q ops T o) (d4X P G T S o) S K
structure o0 where
 w:World
 X:D→b7→Prop
instance:Coe o0 World:=⟨o0.w⟩
def b1V(w:World):o0:=⟨w,fun _ _=>False⟩
def o0.at(E:m7)(w0:o0)(R:Fz):a6E:=⟨w0.w,fun v H'=>M1 H'∧∃R' S' d,R.le R'∧D6 E R' S' H'∧Rp E R' d v∧w0.X d S'⟩
def o5(P:Program)(E:m7)(w0:o0):DW:=fun f ds S Q=>∀R H avs,M1 H→D6 E R S H→B0 E R ds avs→FnW P E (w0.at E R) f avs H (R7 E R Q)
def a1m(E:m7)(w0:o0)(d:D)(S:b7):Prop:=(∃t v,d= .ifc t v)∧w0.X d S
def c0k(o:Oper):Option Operand:=match o.guard with
 |none=>match o.op with
  | .panic x=>some x
  |_=>none
 |some _=>none
def c0e(P:Program)(G:DW)(X:D→b7→Prop)(ops:Array Oper):List Oper→List D→b7→(List D→b7→Prop)→Prop
 | [],T,S,Q=>b5p T fun T=>Q T S
 |o::l,T,S,Q=>b5p T fun T=>match b3u o with
  |some x=>b7e T x fun e=>c0e P G X ops l (b9z T o.dst e) S Q
  |none=>match y9 P o with
  |0|1=>a9 (d0T P ops T S o) fun v=>c0e P G X ops l (b9z T o.dst v) S Q
  |_=>match c0k o with
   |some x=>b7e T x fun e=>X e S
   |none=>c9q P G ops T S o fun v S'=>c0e P G X ops l (b9z T o.dst v) S' Q
def t6(x:D)(S S':b7):Prop:=match b6s x with
 |some k=>S' k=S k
 |none=>True
def b7U(T:List D)(o:Oper)(S S':b7):Prop:=match o.op with
 | .load _ a=>t6 (B5 T a) S S'
 | .convert _ _ x=>t6 (B5 T x) S S'
 |_=>True
def c7R(o:Oper):Bool:=match o.op with
 | .load .. | .convert .. =>true
 |_=>false
def b7Z(P:Program)(S':b7)(anc:Nat)(K:Prop):Nat→List (Oper×List D×b7)→Prop
 |_,[]=>K
 |j,d::ds=>if(y9 P d.1==1&&c7R d.1)&& !anc.testBit j then b7U d.2.1 d.1 d.2.2 S'∧b7Z P S' anc K (j+1) ds else b7Z P S' anc K (j+1) ds
def b5N(P:Program)(G:DW)(X:D→b7→Prop)(ops:Array Oper):List u6→List (Oper×List D×b7)→List D→b7→(List D→b7→Prop)→Prop
 | [],_,T,S,Q=>b5p T fun T=>Q T S
 |s::l,ds,T,S,Q=>b5p T fun T=>match b3u s.o with
  |some x=>b7e T x fun e=>b5N P G X ops l (ds++[(s.o,T,S)]) (b9z T s.o.dst e) S Q
  |none=>match y9 P s.o with
  |0|1=>a9 (d0T P ops T S s.o) fun v=>b5N P G X ops l (ds++[(s.o,T,S)]) (b9z T s.o.dst v) S Q
  |_=>match c0k s.o with
   |some x=>b7e T x fun e=>X e S
   |none=>c9q P G ops T S s.o fun v S'=>b7Z P S' s.anc (b5N P G X ops l (ds++[(s.o,T,S)]) (b9z T s.o.dst v) S' Q) 0 ds
section
variable{P:Program}{E:m7}{w0:o0}
theorem a8y:∀ {T:List D} {k:List D→Prop},b5p T k=k T
 | [],k=>rfl
 |a::l,k=>by simp only[b5p];rw[a8y]
theorem c6m:∀ {T:List D} {n:Nat} {k:D→Prop},c9d T n k=k (T.getD n b8)
 | [],n,k=>rfl
 |a::l,0,k=>rfl
 |a::l,n+1,k=>by simp only[c9d];rw[c6m];simp
theorem c1C{T:List D}{x:Operand}{k:D→Prop}:b7e T x k=k (B5 T x):=by
 cases x<;>first|rfl|exact c6m
theorem b8v(T:List D)(dst:Option Tmp)(v:D):(b9z T dst v).length=T.length:=by
 cases dst with
 |none=>rfl
 |some d=>exact List.length_set
theorem c9p{R:Fz}{T:List D}{avs:List AV}(h:B0 E R T avs)(dst:Option Tmp){d:D}{v:AV}(hd:Rp E R d v):B0 E R (b9z T dst d) (a3o avs dst v):=by
 cases dst with
 |none=>exact h
 |some t=>exact h.set t hd
theorem b5a{R:Fz}{v:AV}:Rp E R .any v:=by simp only[Rp]
theorem d2d{F:FW}(hF:d1x F){T:List AV}{H:AHeap}{o:Oper}{K K':AV→AHeap→Prop}(hk:∀v H',K v H'→K' v H')(h:opW P E F T H o K):opW P E F T H o K':=by
 have o1:∀ {α:Type} {r:Option α} {f g:α→Prop},(∀x,f x→g x)→a9 r f→a9 r g:=by
  intro α r f g hfg h
  cases r with
  |none=>exact h
  |some x=>exact hfg x h
 have o2:∀ {r:Option (AV×AHeap)},a5j r K→a5j r K':=by
  intro r h
  cases r with
  |none=>exact h
  |some x=>exact hk _ _ h
 have rf:∀ {r:Option a1o},b4I F r K→b4I F r K':=by
  intro r h
  unfold b4I at*
  split
  ·exact hk _ _ h
  ·exact hF _ _ _ _ _ h hk
  ·exact h
 obtain⟨dst,op,type,pos,after,guard⟩:=o
 cases op<;>simp only[opW]at h ⊢ <;>try (first|exact o1 (fun v hv=>hk _ _ hv) h|exact o2 h)
 case box e x=>exact hk _ _ h
 case store t a x=>
  unfold c4t at*
  split at h
  ·split at h
   ·rename_i hs
    rw[if_pos hs]
    exact o1 (fun v hv=>hk _ _ hv) h
   ·exact h.elim
  ·exact h.elim
 case makeMap t r=>
  cases r with
  |none=>exact hk _ _ h
  |some x=>exact h
 case call c=>
  cases hc:c.callee with
  |value f=>
   simp only[hc]at h ⊢
   cases f with
   |func g=>
    simp only at h ⊢
    split at h
    ·rename_i hb;rw[if_pos hb];exact hF _ _ _ _ _ h hk
    ·exact h.elim
   |tmp t=>exact rf h
   |const v=>exact rf h
   |global g=>exact rf h
  |invoke r m=>
   simp only[hc]at h ⊢
   exact rf h
  |builtin b=>
   simp only[hc]at h ⊢
   generalize c.args.toList.map (o4 T)=as1 at h ⊢
   generalize c.argTypes.toList=ts at h ⊢
   cases b<;>(try simp only at h ⊢)<;>try (exact o1 (fun v hv=>hk _ _ hv) h)
   case append=>
    rcases as1 with _|⟨s,_|⟨x,_|⟨y,as1⟩⟩⟩<;>rcases ts with _|⟨sT,_|⟨xT,_|⟨u,ts⟩⟩⟩<;>first|exact o2 h|exact o1 (fun v hv=>hk _ _ hv) h
   case copy=>
    rcases as1 with _|⟨s,_|⟨x,_|⟨y,as1⟩⟩⟩<;>rcases ts with _|⟨sT,ts⟩<;>first|exact o2 h|exact o1 (fun v hv=>hk _ _ hv) h
theorem b5n.weak{w:World}{X X':AV→AHeap→Prop}(hX:∀v H,X v H→X' v H){ρ:B6}{H:AHeap}{Q:AV→AHeap→Prop}{e:Ending}{w':World}(h:b5n E ⟨w,X⟩ ρ H Q e w'):b5n E ⟨w,X'⟩ ρ H Q e w':=by
 cases e with
 |returned u=>exact h
 |panicked c=>
  obtain⟨u,ρ',v,H',h1,h2,h3⟩:=h
  exact⟨u,ρ',v,H',h1,hX _ _ h2,h3⟩
 |outgrown=>exact h
theorem FnW.weak{w:World}{X X':AV→AHeap→Prop}(hX:∀v H,X v H→X' v H){f:FuncId}{args:List AV}{H:AHeap}{Q:AV→AHeap→Prop}(h:FnW P E ⟨w,X⟩ f args H Q):FnW P E ⟨w,X'⟩ f args H Q:=
 fun w ρ vargs R hf hr=>Calls.mono (h w ρ vargs R hf hr) fun e w' he=>he.weak hX
theorem H8.weak{w:World}{X X':AV→AHeap→Prop}(hX:∀v H,X v H→X' v H){c:Code}{T:List AV}{H:AHeap}{Q:r4→List AV→AHeap→Prop}(h:H8 P E ⟨w,X⟩ c T H Q):H8 P E ⟨w,X'⟩ c T H Q:=
 fun w ρ a R hR hf hT hk hp=>h w ρ a R hR hf hT hk fun u v ρ' H' a' w' hx=>hp u v ρ' H' a' w' (hX _ _ hx)
theorem o0.at_le{R R':Fz}(h:R.le R'):∀v H,(w0.at E R').X v H→(w0.at E R).X v H:=fun v H ⟨F,R1,S,d,a,b⟩=>⟨F,R1,S,d,Fz.le_trans h a,b⟩
theorem FnW.at_le{R R':Fz}(h:R.le R'){f:FuncId}{args:List AV}{H:AHeap}{Q:AV→AHeap→Prop}(hf:FnW P E (w0.at E R') f args H Q):FnW P E (w0.at E R) f args H Q:=FnW.weak (o0.at_le h) hf
theorem H8.at_le{R R':Fz}(h:R.le R'){c:Code}{T:List AV}{H:AHeap}{Q:r4→List AV→AHeap→Prop}(hf:H8 P E (w0.at E R') c T H Q):H8 P E (w0.at E R) c T H Q:=H8.weak (o0.at_le h) hf
theorem goF{R0 R:Fz}(h:R0.le R){S:b7}{H:AHeap}(F:M1 H)(hC:D6 E R S H):GoF E (FnW P E (w0.at E R0)) (o5 P E w0) R S H:=fun f ds avs K ha hf=>FnW.at_le h (hf R H avs F hC ha)
theorem c1y{w0:a6E}:d1x (FnW P E w0):=fun f args H Q Q' h hq=>h.mono hq
theorem b3v{R:Fz}{T:List D}{avs:List AV}(h:B0 E R T avs){ops:Array Oper}{o:Oper}{b:Bool}(hw:c0q ops T o=some b):a0W ops avs o=some b:=by
 unfold c0q at hw
 unfold a0W
 cases hg:o.guard with
 |none=>rw[hg]at hw;exact hw
 |some jw=>
  obtain⟨j,want⟩:=jw
  simp only[hg]at hw ⊢
  cases hd:(ops[j]?).bind (·.dst) with
  |none=>simp only[hd]at hw ⊢;exact hw
  |some d=>
   simp only[hd]at hw ⊢
   cases hx:T[d]? with
   |none=>
    have:avs[d]? =none:=List.getElem?_eq_none (by rw[h.length];exact List.getElem?_eq_none_iff.1 hx)
    simp only[hx]at hw
    simp only[this]
    exact hw
   |some x=>
    simp only[hx]at hw
    obtain⟨v,h1,h2⟩:=a5I h hx
    simp only[h1]
    cases x<;>simp only[d6]at hw<;>try (cases hw;done)
    all_goals
     simp only[Rp]at h2
     first
      |(subst h2;exact hw)
      |(rcases h2 with ⟨_,rfl⟩|⟨o,j,cap,ex,z,rfl,_⟩<;>exact hw)
      |(obtain⟨o,j,cap,ex,z,all,rfl,_⟩:=h2;exact hw)
      |(obtain⟨o,j,all,rfl,_⟩:=h2;exact hw)
      |(obtain⟨a',b',rfl,_⟩:=h2;exact hw)
      |(obtain⟨v',rfl,_⟩:=h2;exact hw)
theorem d0K{T:List D}{o:Oper}{S S':b7}(h:b7U T o S S'){k:Nat}(hk:b7y T o=some k):S' k=S k:=by
 unfold b7y at hk
 unfold b7U at h
 split at hk
 ·rename_i e;simp only[e,t6,hk]at h;exact h
 ·rename_i e;simp only[e,t6,hk]at h;exact h
 ·cases hk
theorem c8M{T:List D}{o:Oper}{S S':b7}(h:c7R o=false):b7U T o S S':=by
 unfold c7R at h
 unfold b7U
 split at h<;>first|(cases h;done)|trivial
theorem c9z{R:Fz}{S:b7}{H:AHeap}{T:List D}{avs:List AV}(hT:B0 E R T avs)(hC:D6 E R S H){ops:Array Oper}{o:Oper}{d:D}(h:d0T P ops T S o=some d):
  ∃v,Rp E R d v∧∀H,Agr R S (b7y T o) H→c8t P E ops avs H o=some v:=by
 unfold d0T f0 at h
 split at h
 ·rename_i hw
  obtain⟨v,h1,h2⟩:=d3w hT hC h
  exact⟨v,h1,fun H hA=>by unfold c8t;rw[b3v hT hw];exact h2 H hA⟩
 ·rename_i hw
  cases h
  exact⟨A3,a2Y,fun H hA=>by unfold c8t;rw[b3v hT hw];rfl⟩
 ·cases h
theorem c7y{F:FW}{G:DW}{R:Fz}{S:b7}{H:AHeap}(hG:GoF E F G R S H)(hF:M1 H)(hC:D6 E R S H){T:List D}{avs:List AV}(hT:B0 E R T avs){ops:Array Oper}{o:Oper}{K:D→b7→Prop}(h:c9q P G ops T S o K):c2r P E F ops avs H o (R7 E R K):=by
 unfold c9q a0N at h
 unfold c2r
 split at h
 ·rename_i hw
  rw[b3v hT hw]
  exact d2V hG hF hC hT h
 ·rename_i hw
  rw[b3v hT hw]
  exact⟨hF,R,S,b8,Fz.le_refl R,hC,a2Y,h⟩
 ·exact h.elim
theorem c2a{F:FW}(hF:d1x F){ops:Array Oper}{T:List AV}{H:AHeap}{o:Oper}{K K':AV→AHeap→Prop}(h:c2r P E F ops T H o K)(hk:∀v H',K v H'→K' v H'):c2r P E F ops T H o K':=by
 unfold c2r a7O at*
 split<;>rename_i e<;>rw[e]at h
 ·exact d2d hF hk h
 ·exact hk _ _ h
 ·exact h
def a7p(E:m7)(R:Fz)(n:Nat)(Q:List D→b7→Prop)(avs':List AV)(H':AHeap):Prop:=M1 H'∧∃R' S' T',R.le R'∧D6 E R' S' H'∧B0 E R' T' avs'∧T'.length=n∧Q T' S'
theorem a7p.le{R R1:Fz}(h:R.le R1){n:Nat}{Q:List D→b7→Prop}{avs':List AV}{H':AHeap}(hp:a7p E R1 n Q avs' H'):a7p E R n Q avs' H':=by
 obtain⟨F,R',S',T',a,b⟩:=hp
 exact⟨F,R',S',T',Fz.le_trans h a,b⟩
theorem c9R{R0 R:Fz}(hle:R0.le R){S:b7}{H:AHeap}{T:List D}{avs:List AV}{ops:Array Oper}(F:M1 H)(hC:D6 E R S H)(hT:B0 E R T avs){o:Oper}{x:Operand}(hx:c0k o=some x)(h:a1m E w0 (B5 T x) S){Q:AV→AHeap→Prop}:a3i P E (w0.at E R0) ops avs H o Q:=by
 obtain⟨hp,h⟩:=h
 have hr:=A4 hT x
 obtain⟨dst,op,type,pos,after,guard⟩:=o
 unfold c0k at hx
 split at hx
 ·rename_i hg
  simp only at hg
  subst hg
  split at hx
  ·rename_i y hy
   simp only at hy
   subst hy
   cases hx
   unfold a3i a0W a7O c2T
   simp only[opA]
   unfold c8W
   refine⟨?_,F,R,S,B5 T x,hle,hC,hr,h⟩
   obtain⟨t,v,e⟩:=hp
   rw[e]at hr
   simp only[Rp]at hr
   obtain⟨v',e',_⟩:=hr
   exact⟨t,v',e'⟩
  ·cases hx
 ·cases hx
theorem c7V{R0:Fz}{ops:Array Oper}:∀ {l:List Oper} {T:List D} {avs:List AV} {S:b7} {H:AHeap} {R:Fz} {Q:List D→b7→Prop},R0.le R→M1 H→D6 E R S H→B0 E R T avs→c0e P (o5 P E w0) (a1m E w0) ops l T S Q→b8j P E (w0.at E R0) ops l avs H (a7p E R T.length Q)
 | [],T,avs,S,H,R,Q,h0,F,hC,hT,h=>by
  simp only[c0e,a8y]at h
  exact⟨F,R,S,T,Fz.le_refl R,hC,hT,rfl,h⟩
 |o::l,T,avs,S,H,R,Q,h0,F,hC,hT,h=>by
  simp only[c0e,a8y,c1C]at h
  have next:∀ {d:D} {v:AV} {R':Fz} {S':b7} {H':AHeap},R.le R'→M1 H'→D6 E R' S' H'→Rp E R' d v→c0e P (o5 P E w0) (a1m E w0) ops l (b9z T o.dst d) S' Q→b8j P E (w0.at E R0) ops l (a3o avs o.dst v) H' (a7p E R T.length Q):=by
   intro d v R' S' H' hle F' hC' hd h'
   have:=c7V (Fz.le_trans h0 hle) F' hC' (c9p (B0.le hle _ _ hT) o.dst hd) h'
   rw[b8v]at this
   exact b3n (fun _ _=>a7p.le hle) this
  have val:y9 P o≤1→(a9 (d0T P ops T S o) fun v=>c0e P (o5 P E w0) (a1m E w0) ops l (b9z T o.dst v) S Q)→b8j P E (w0.at E R0) ops (o::l) avs H (a7p E R T.length Q):=by
   intro hk h
   unfold a9 at h
   split at h
   ·rename_i d hd
    obtain⟨v,h1,h2⟩:=c9z hT hC hd
    rw[b8j,if_pos hk]
    exact⟨v,by rw[b7f hk];exact h2 H (hC.agr _),next (Fz.le_refl R) F hC h1 h⟩
   ·exact h.elim
  cases ha:b3u o with
  |some x=>
   simp only[ha]at h
   obtain⟨hk,hv⟩:=c0M (P:=P) (E:=E) ha
   rw[b8j,if_pos (by omega)]
   exact⟨_,by rw[b7f (by omega)];exact hv ops avs H,next (Fz.le_refl R) F hC (A4 hT _) h⟩
  |none=>
   simp only[ha]at h
   rcases hk:y9 P o with _|_|k
   ·simp only[hk]at h;exact val (by omega) h
   ·simp only[hk]at h;exact val (by omega) h
   ·simp only[hk]at h
    rw[b8j,if_neg (by omega)]
    split at h
    ·rename_i x hx;exact c9R h0 F hC hT hx h
    ·refine a3P (c9I (c2a c1y (c7y (goF h0 F hC) F hC hT h) fun v H' hq=>hq)) ?_
     rintro v H' ⟨F',R',S',d,hle,hC',hd,h'⟩
     exact next hle F' hC' hd h'
def d4z(P:Program)(E:m7)(ops:Array Oper)(R:Fz)(x:Oper×List D×b7)(y:u6):Prop:=
 x.1=y.o∧(y9 P y.o=1→∃Rd:Fz,Rd.le R∧∀H',Agr Rd x.2.2 (b7y x.2.1 x.1) H'→c8t P E ops y.T H' y.o=some y.v)
def DsC(P:Program)(E:m7)(ops:Array Oper)(R:Fz):List (Oper×List D×b7)→List u6→Prop
 | [],[]=>True
 |x::xs,y::ys=>d4z P E ops R x y∧DsC P E ops R xs ys
 |_,_=>False
theorem DsC.le{ops:Array Oper}{R R':Fz}(hle:R.le R'):∀ {xs:List (Oper×List D×b7)} {ys:List u6},DsC P E ops R xs ys→DsC P E ops R' xs ys
 | [],[],h=>h
 |x::xs,y::ys,h=>⟨⟨h.1.1,fun k=>let ⟨Rd,a,b⟩:=h.1.2 k;⟨Rd,Fz.le_trans a hle,b⟩⟩,DsC.le hle h.2⟩
 | [],_::_,h=>h.elim
 |_::_,[],h=>h.elim
theorem DsC.snoc{ops:Array Oper}{R:Fz}{x:Oper×List D×b7}{y:u6}(h1:d4z P E ops R x y):∀ {xs:List (Oper×List D×b7)} {ys:List u6},DsC P E ops R xs ys→DsC P E ops R (xs++[x]) (ys++[y])
 | [],[],h=>⟨h1,trivial⟩
 |x::xs,y::ys,h=>⟨h.1,DsC.snoc h1 h.2⟩
 | [],_::_,h=>h.elim
 |_::_,[],h=>h.elim
theorem c3Q{ops:Array Oper}{R R':Fz}(hle:R.le R'){S':b7}{H':AHeap}(hC:D6 E R' S' H'){anc:Nat}{K:Prop}:∀ {xs:List (Oper×List D×b7)} {ys:List u6} {j:Nat},DsC P E ops R xs ys→b7Z P S' anc K j xs→
  K∧∀(i:Nat) (d:u6),ys[i]? =some d→y9 P d.o=1→anc.testBit (j+i)=false→b5f P E ops d.T H' d.o=some d.v
 | [],[],j,_,h=>⟨h,fun i d e=>by simp at e⟩
 |x::xs,y::ys,j,⟨⟨e1,e2⟩,hd⟩,h=>by
  have step:∀(hK:b7Z P S' anc K (j+1) xs),(y9 P y.o=1→anc.testBit j=false→b7U x.2.1 x.1 x.2.2 S')→K∧∀(i:Nat) (d:u6),(y::ys)[i]? =some d→y9 P d.o=1→anc.testBit (j+i)=false→b5f P E ops d.T H' d.o=some d.v:=fun hK hf=>by
   obtain⟨k1,k2⟩:=c3Q hle hC hd hK
   refine⟨k1,fun i d hi hk ha=> ?_⟩
   cases i with
   |zero=>
    simp at hi
    subst hi
    obtain⟨Rd,g1,g2⟩:=e2 hk
    have hft:=hf hk (by simpa using ha)
    rw[b7f (by omega)]
    exact g2 H' ⟨fun j cs e=>let ⟨pre,g⟩:=hC.frozen j cs (hle _ _ (g1 _ _ e));⟨_,pre,g⟩,fun j o' hj hjS=>by
     rw[←d0K hft hj]at hjS
     obtain⟨_,⟨pre,g⟩,_⟩:=hC.own j o' hjS
     exact⟨_,pre,g⟩⟩
   |succ i=>exact k2 i d (by simpa using hi) hk (by rw[Nat.add_assoc,Nat.add_comm 1 i];exact ha)
  simp only[b7Z]at h
  split at h
  ·exact step h.2 fun _ _=>h.1
  ·rename_i hc
   refine step h fun hk ha=>c8M ?_
   rw[e1]at hc ⊢
   simp only[hk,ha,Bool.not_false,Bool.and_true,beq_self_eq_true,Bool.true_and,Bool.not_eq_true]at hc
   exact hc
 | [],_::_,_,h,_=>h.elim
 |_::_,[],_,h,_=>h.elim
theorem c8c{R0:Fz}{ops:Array Oper}:∀ {l:List u6} {xs:List (Oper×List D×b7)} {ys:List u6} {T:List D} {avs:List AV} {S:b7} {H:AHeap} {R:Fz} {Q:List D→b7→Prop},R0.le R→M1 H→D6 E R S H→B0 E R T avs→DsC P E ops R xs ys→b5N P (o5 P E w0) (a1m E w0) ops l xs T S Q→a9j P E (w0.at E R0) ops l ys avs H (a7p E R T.length Q)
 | [],xs,ys,T,avs,S,H,R,Q,h0,F,hC,hT,hD,h=>by
  simp only[b5N,a8y]at h
  exact⟨F,R,S,T,Fz.le_refl R,hC,hT,rfl,h⟩
 |s::l,xs,ys,T,avs,S,H,R,Q,h0,F,hC,hT,hD,h=>by
  simp only[b5N,a8y,c1C]at h
  have next:∀ {d:D} {v:AV} {R':Fz} {S':b7} {H':AHeap},R.le R'→M1 H'→D6 E R' S' H'→Rp E R' d v→d4z P E ops R' (s.o,T,S) ⟨s.o,s.anc,avs,v,0,0,s.wr,[]⟩→b5N P (o5 P E w0) (a1m E w0) ops l (xs++[(s.o,T,S)]) (b9z T s.o.dst d) S' Q→a9j P E (w0.at E R0) ops l (ys++[⟨s.o,s.anc,avs,v,0,0,s.wr,[]⟩]) (a3o avs s.o.dst v) H' (a7p E R T.length Q):=by
   intro d v R' S' H' hle F' hC' hd he h'
   have:=c8c (Fz.le_trans h0 hle) F' hC' (c9p (B0.le hle _ _ hT) s.o.dst hd) ((hD.le hle).snoc he) h'
   rw[b8v]at this
   exact b7I (fun _ _=>a7p.le hle) this
  have val:y9 P s.o≤1→(a9 (d0T P ops T S s.o) fun v=>b5N P (o5 P E w0) (a1m E w0) ops l (xs++[(s.o,T,S)]) (b9z T s.o.dst v) S Q)→a9j P E (w0.at E R0) ops (s::l) ys avs H (a7p E R T.length Q):=by
   intro hk h
   unfold a9 at h
   split at h
   ·rename_i d hd
    obtain⟨v,h1,h2⟩:=c9z hT hC hd
    rw[a9j,if_pos hk]
    exact⟨v,by rw[b7f hk];exact h2 H (hC.agr _),next (Fz.le_refl R) F hC h1 ⟨rfl,fun _=>⟨R,Fz.le_refl R,h2⟩⟩ h⟩
   ·exact h.elim
  cases ha:b3u s.o with
  |some x=>
   simp only[ha]at h
   obtain⟨hk,hv⟩:=c0M (P:=P) (E:=E) ha
   rw[a9j,if_pos (by omega)]
   exact⟨_,by rw[b7f (by omega)];exact hv ops avs H,next (Fz.le_refl R) F hC (A4 hT _) ⟨rfl,fun hk1=>by simp only at hk1;omega⟩ h⟩
  |none=>
   simp only[ha]at h
   rcases hk:y9 P s.o with _|_|k
   ·simp only[hk]at h;exact val (by omega) h
   ·simp only[hk]at h;exact val (by omega) h
   ·simp only[hk]at h
    rw[a9j,if_neg (by omega)]
    split at h
    ·rename_i x hx;exact c9R h0 F hC hT hx h
    ·refine a3P (c9I (c2a c1y (c7y (goF h0 F hC) F hC hT h) fun v H' hq=>hq)) ?_
     rintro v H' ⟨F',R',S',d,hle,hC',hd,h'⟩
     obtain⟨k1,k2⟩:=c3Q hle hC' hD h'
     exact⟨fun i d hi hk1 ha=>k2 i d hi hk1 (by rw[Nat.zero_add];exact ha),next hle F' hC' hd ⟨rfl,fun hk1=>by simp only at hk1;omega⟩ k1⟩
end
end
section
section
variable(P:Program)(E:m7)(w0:o0)
def d1W(E:m7)(R:Fz)(n:Nat)(Q:r4→List D→b7→Prop)(ex:r4)(avs':List AV)(H':AHeap):Prop:=a7p E R n (Q ex) avs' H'
def j9(c:Code)(T:List D)(S:b7)(Q:r4→List D→b7→Prop):Prop:=
 ∀R H avs,M1 H→D6 E R S H→B0 E R T avs→H8 P E (w0.at E R) c avs H (d1W E R T.length Q)
end
def a9J:List D→List Nat→List D→List D
 |T,i::L,v::vs=>a9J (T.set i v) L vs
 |T,_,_=>T
def n9(n:Nat)(L:List Nat)(vs:List D):List D:=a9J (List.replicate n .any) L vs
def a2W(T:List D):List Nat→List D
 | []=>[]
 |i::L=>T.getD i b8::a2W T L
def j8(c:D)(a b:Prop):Prop:=match c with
 | .bool true=>a
 | .bool false=>b
 |_=>False
def s8(id:Nat)(Q:r4→List D→b7→Prop):r4→List D→b7→Prop
 | .exit id',T,S=>if id'=id then Q .normal T S else Q (.exit id') T S
 |e,T,S=>Q e T S
def c9j{α:Type}(k:Nat):List (Nat×α)→Option α
 | []=>none
 |(i,L)::l=>if i=k then some L else c9j k l
def hdD:Code→Option Nat
 | .region id _ _=>some (2*id)
 | .seq a b=>match hdD a with
  |some k=>some k
  |none=>hdD b
 | .cond _ a b=>match hdD a with
  |some k=>some (2*k+1)
  |none=>match hdD b with
   |some k=>some (2*k+1)
   |none=>none
 | .block _ c| .loop c=>hdD c
 |_=>none
def d5q(cuts:List (Nat×List Nat))(c:Code):Option (List Nat):=match hdD c with
 |some id=>c9j id cuts
 |none=>none
section
variable(P:Program)(E:m7)(w0:o0)(loops cuts:List (Nat×List Nat))(arrs:List (Nat×X6))
def vcD:Code→List D→b7→(r4→List D→b7→Prop)→Prop
 | .skip,T,S,Q=>Q .normal T S
 | .label _,T,S,Q=>Q .normal T S
 | .ret,T,S,Q=>Q .ret T S
 | .exit id,T,S,Q=>Q (.exit id) T S
 | .region id ops draw,T,S,Q=>match draw with
  |false=>c0e P (o5 P E w0) (a1m E w0) ops ops.toList T S (Q .normal)
  |true=>match c9j id arrs with
   |some t=>if a8F ops&&c0U ops then b2s P ops (fun ops' sd=>b5N P (o5 P E w0) (a1m E w0) ops' sd [] T S (Q .normal)) t []else False
   |none=>match b1G P ops ops.toList []with
    |some sd=>b5N P (o5 P E w0) (a1m E w0) ops sd [] T S (Q .normal)
    |none=>False
 | .seq a b,T,S,Q=>match d5q cuts b with
  |some L=>vcD a T S fun ex T' S'=>match ex with
   | .normal=>j9 P E w0 b (n9 T.length L (a2W T' L)) S' Q
   |e=>Q e T' S'
  |none=>vcD a T S fun ex T' S'=>match ex with
   | .normal=>vcD b T' S' Q
   |e=>Q e T' S'
 | .cond c a b,T,S,Q=>j8 (B5 T c) (vcD a T S Q) (vcD b T S Q)
 | .block id c,T,S,Q=>vcD c T S (s8 id Q)
 | .loop c,T,S,Q=>match d5q loops c with
  |some L=>j9 P E w0 (.loop c) (n9 T.length L (a2W T L)) S Q
  |none=>j9 P E w0 (.loop c) T S Q
 |_,_,_,_=>False
end
section
variable(P:Program)(E:m7)(w0:o0)(loops cuts:List (Nat×List Nat))(arrs:List (Nat×X6))
def G8(b:Code)(Q:r4→List D→b7→Prop)(ex:r4)(T:List D)(S:b7):Prop:=match ex with
 | .normal=>vcD P E w0 loops cuts arrs b T S Q
 |e=>Q e T S
def d5K(n:Nat)(L:List Nat)(b:Code)(Q:r4→List D→b7→Prop)(ex:r4)(T:List D)(S:b7):Prop:=match ex with
 | .normal=>j9 P E w0 b (n9 n L (a2W T L)) S Q
 |e=>Q e T S
end
def A8(N:List D→b7→Prop)(Q:r4→List D→b7→Prop)(ex:r4)(T:List D)(S:b7):Prop:=match ex with
 | .normal=>N T S
 |e=>Q e T S
def a4s(P:Program)(S:b7)(T:List D):List ResultVar→(List D→Prop)→Prop
 | [],K=>K []
 | .tmp t::l,K=>a4s P S T l fun vs=>K (T.getD t b8::vs)
 | .cell a t::l,K=>a9 (c9x P S t (T.getD a b8)) fun v=>a4s P S T l fun vs=>K (v::vs)
def c1D:List D→D
 | [v]=>v
 |vs=> .tup vs
def G7(P:Program)(fn:Func)(Q:D→b7→Prop):r4→List D→b7→Prop
 | .exit _,_,_=>False
 |_,T,S=>a4s P S T fn.results.toList fun vs=>Q (c1D vs) S
def d9(E:m7)(Q:D→b7→Prop)(d:D)(S:b7):Prop:=
 ∀R H v,D6 E R S H→Rp E R d v→∃R' S' d',R.le R'∧D6 E R' S' H∧Rp E R' d' v∧Q d' S'
section
variable{P:Program}{E:m7}{w0:o0}
theorem j9.mono{c:Code}{T:List D}{S:b7}{Q Q':r4→List D→b7→Prop}(h:j9 P E w0 c T S Q)(hq:∀ex T' S',T'.length=T.length→Q ex T' S'→Q' ex T' S'):j9 P E w0 c T S Q':=fun R H avs F hC hT=>
 (h R H avs F hC hT).mono fun ex T' H' ⟨F',R',S',T1,a,b,c,d,e⟩=>⟨F',R',S',T1,a,b,c,d,hq _ _ _ d e⟩
theorem o5.use{f:FuncId}{ds:List D}{S:b7}{Q Q':D→b7→Prop}(h:o5 P E w0 f ds S Q)(hq:∀d S',Q d S'→Q' d S'):o5 P E w0 f ds S Q':=fun R H avs hFi hC ha=>
 (h R H avs hFi hC ha).mono fun v H' ⟨F',R',S',d,a,b,c,e⟩=>⟨F',R',S',d,a,b,c,hq _ _ e⟩
theorem b4p:∀(T:List D) (L:List Nat) (vs:List D),(a9J T L vs).length=T.length
 |T,i::L,v::vs=>by rw[a9J,b4p,List.length_set]
 |T,[],_=>by simp[a9J]
 |T,_::_,[]=>by simp[a9J]
theorem o3(n:Nat)(L:List Nat)(vs:List D):(n9 n L vs).length=n:=by rw[n9,b4p,List.length_replicate]
theorem c9h{R:Fz}:∀ {avs:List AV},B0 E R (List.replicate avs.length .any) avs
 | []=>G5
 |v::avs=>B7 b5a c9h
theorem c5r{R:Fz}{T:List D}{avs:List AV}(h:B0 E R T avs)(L:List Nat):B0 E R (n9 T.length L (a2W T L)) avs:=by
 have main:∀(L:List Nat) (T0:List D),T0.length=T.length→B0 E R T0 avs→B0 E R (a9J T0 L (a2W T L)) avs:=by
  intro L
  induction L with
  |nil=>intro T0 hl h0;simpa [a9J,a2W]using h0
  |cons i L ih=>
   intro T0 hl h0
   simp only[a2W,a9J]
   refine ih _ (by rw[List.length_set,hl]) ?_
   by_cases hi:i<T.length
   ·have hlen:=h.length
    have:=h0.set i (b6q h i)
    rw[List.getD_eq_getElem?_getD (l:=avs),List.getElem?_eq_getElem (by omega),Option.getD_some,List.set_getElem_self]at this
    exact this
   ·rw[List.set_eq_of_length_le (by omega)]
    exact h0
 refine main L _ (by rw[List.length_replicate]) ?_
 rw[←h.length]
 exact c9h
theorem r9{c:Code}{T:List D}{S:b7}{Q:r4→List D→b7→Prop}{n:Nat}(L:List Nat)(hn:T.length=n)(h:j9 P E w0 c (n9 n L (a2W T L)) S Q):j9 P E w0 c T S Q:=fun R H avs F hC hT=>by
 have:=h R H avs F hC (by rw[←hn];exact c5r hT L)
 rw[o3, ←hn]at this
 exact this
theorem r7{c:Code}{Q:r4→List D→b7→Prop}{I:Nat→List D→b7→Prop}{k:Nat}
  (step:∀n T S,T.length=k→I n T S→j9 P E w0 c T S fun ex T' S'=>match ex with| .normal=>∃m,m<n∧I m T' S'|e=>Q e T' S')
  {n:Nat} {T:List D} {S:b7} (hk:T.length=k) (h:I n T S):j9 P E w0 (.loop c) T S Q:=fun R H avs F hC hT=>by
 refine c7O (I:=fun n avs H=>a7p E R k (I n) avs H) (fun n avs H hI=> ?_) (n:=n) ⟨F,R,S,T,Fz.le_refl R,hC,hT,hk,h⟩
 obtain⟨F1,R1,S1,T1,a,b,c1,d,e⟩:=hI
 refine(H8.at_le a (step n T1 S1 d e R1 H avs F1 b c1)).mono fun ex T' H' hq=> ?_
 cases ex with
 |normal=>
  obtain⟨F2,R2,S2,T2,a2,b2,c2,d2,m,hm,e2⟩:=hq
  exact⟨m,hm,F2,R2,S2,T2,Fz.le_trans a a2,b2,c2,by rw[d2,d],e2⟩
 |exit id=>
  obtain⟨F2,R2,S2,T2,a2,b2,c2,d2,e2⟩:=hq
  exact⟨F2,R2,S2,T2,Fz.le_trans a a2,b2,c2,by rw[d2,d,hk],e2⟩
 |ret=>
  obtain⟨F2,R2,S2,T2,a2,b2,c2,d2,e2⟩:=hq
  exact⟨F2,R2,S2,T2,Fz.le_trans a a2,b2,c2,by rw[d2,d,hk],e2⟩
theorem d0S{id:Nat}{ops:Array Oper}{T:List D}{S:b7}{Q:r4→List D→b7→Prop}(h:c0e P (o5 P E w0) (a1m E w0) ops ops.toList T S (Q .normal)):j9 P E w0 (.region id ops false) T S Q:=fun R H avs F hC hT=>c4s (c0j (c7V (Fz.le_refl R) F hC hT h))
theorem c8s(hm:P.follows .mixedOrders=true){id:Nat}{ops:Array Oper}{sd:List u6}(hB:b1G P ops ops.toList []=some sd){T:List D}{S:b7}{Q:r4→List D→b7→Prop}(h:b5N P (o5 P E w0) (a1m E w0) ops sd [] T S (Q .normal)):j9 P E w0 (.region id ops true) T S Q:=fun R H avs F hC hT=>c8k hm hB (c8c (xs:=[]) (ys:=[]) (Fz.le_refl R) F hC hT trivial h)
theorem c6b(hm:P.follows .mixedOrders=true){id:Nat}{ops:Array Oper}{t:X6}{T:List D}{S:b7}{Q:r4→List D→b7→Prop}(h:if a8F ops&&c0U ops then b2s P ops (fun ops' sd=>b5N P (o5 P E w0) (a1m E w0) ops' sd [] T S (Q .normal)) t []else False):j9 P E w0 (.region id ops true) T S Q:=fun R H avs F hC hT=>by
 split at h
 ·rename_i hok
  simp only[Bool.and_eq_true]at hok
  exact c6x hm hok.1 hok.2 (h.mono fun ops' sd ho=>c8c (xs:=[]) (ys:=[]) (Fz.le_refl R) F hC hT trivial ho)
 ·exact h.elim
variable{loops cuts:List (Nat×List Nat)}{arrs:List (Nat×X6)}
theorem b3c(hm:P.follows .mixedOrders=true):∀(c:Code) (T:List D) (S:b7) (Q:r4→List D→b7→Prop),vcD P E w0 loops cuts arrs c T S Q→j9 P E w0 c T S Q
 | .skip,T,S,Q,h=>fun R H avs F hC hT=>c8F ⟨F,R,S,T,Fz.le_refl R,hC,hT,rfl,h⟩
 | .label _,T,S,Q,h=>fun R H avs F hC hT=>c6V ⟨F,R,S,T,Fz.le_refl R,hC,hT,rfl,h⟩
 | .ret,T,S,Q,h=>fun R H avs F hC hT=>d0j ⟨F,R,S,T,Fz.le_refl R,hC,hT,rfl,h⟩
 | .exit id,T,S,Q,h=>fun R H avs F hC hT=>c8V ⟨F,R,S,T,Fz.le_refl R,hC,hT,rfl,h⟩
 | .region _ ops false,T,S,Q,h=>d0S h
 | .region id ops true,T,S,Q,h=>by
  change (match c9j id arrs with
   |some t=>if a8F ops&&c0U ops then b2s P ops (fun ops' sd=>b5N P (o5 P E w0) (a1m E w0) ops' sd [] T S (Q .normal)) t []else False
   |none=>match b1G P ops ops.toList []with
    |some sd=>b5N P (o5 P E w0) (a1m E w0) ops sd [] T S (Q .normal)
    |none=>False)at h
  split at h
  ·exact c6b hm h
  ·split at h
   ·rename_i sd hB;exact c8s hm hB h
   ·exact h.elim
 | .seq a b,T,S,Q,h=>fun R H avs F hC hT=>by
  simp only[vcD]at h
  have fin:j9 P E w0 a T S (fun ex T' S'=>match ex with| .normal=>j9 P E w0 b T' S' Q|e=>Q e T' S')→H8 P E (w0.at E R) (.seq a b) avs H (d1W E R T.length Q):=by
   intro h
   refine d0A ((h R H avs F hC hT).mono fun ex T' H' hq=> ?_)
   cases ex with
   |normal=>
    obtain⟨F2,R2,S2,T2,a2,b2,c2,d2,e2⟩:=hq
    have:=e2 R2 H' T' F2 b2 c2
    rw[d2]at this
    exact(H8.at_le a2 this).mono fun ex T' H' hq=>a7p.le a2 hq
   |exit id=>exact hq
   |ret=>exact hq
  split at h
  ·rename_i L hL
   refine fin ((b3c hm a T S _ h).mono fun ex T' S' hl hq=> ?_)
   cases ex with
   |normal=>exact r9 L hl hq
   |exit id=>exact hq
   |ret=>exact hq
  ·refine fin ((b3c hm a T S _ h).mono fun ex T' S' hl hq=> ?_)
   cases ex with
   |normal=>exact b3c hm b T' S' Q hq
   |exit id=>exact hq
   |ret=>exact hq
 | .cond c a b,T,S,Q,h=>fun R H avs F hC hT=>by
  simp only[vcD]at h
  have hr:=A4 hT c
  unfold j8 at h
  split at h
  ·rename_i e
   rw[e]at hr
   simp only[Rp]at hr
   exact c1L (by rw[hr];exact b3c hm a T S Q h R H avs F hC hT)
  ·rename_i e
   rw[e]at hr
   simp only[Rp]at hr
   exact c1L (by rw[hr];exact b3c hm b T S Q h R H avs F hC hT)
  ·exact h.elim
 | .block id c,T,S,Q,h=>fun R H avs F hC hT=>by
  refine c7j ((b3c hm c T S _ h R H avs F hC hT).mono fun ex T' H' hq=> ?_)
  cases ex with
  |normal=>exact hq
  |ret=>exact hq
  |exit id'=>
   obtain⟨F2,R2,S2,T2,a2,b2,c2,d2,e2⟩:=hq
   simp only[s8]at e2
   simp only[c8L]
   split at e2
   ·rename_i e;rw[if_pos e];exact⟨F2,R2,S2,T2,a2,b2,c2,d2,e2⟩
   ·rename_i e;rw[if_neg e];exact⟨F2,R2,S2,T2,a2,b2,c2,d2,e2⟩
 | .loop c,T,S,Q,h=>by
  simp only[vcD]at h
  split at h
  ·rename_i L hL;exact r9 L rfl h
  ·exact h
 | .rangeFunc ..,T,S,Q,h=>h.elim
 | .scope ..,T,S,Q,h=>h.elim
 | .goto ..,T,S,Q,h=>h.elim
 | .refuse ..,T,S,Q,h=>h.elim
theorem b0b{R:Fz}{S:b7}{H:AHeap}{T:List D}{avs:List AV}(hC:D6 E R S H)(hT:B0 E R T avs):∀ {l:List ResultVar} {K:List D→Prop} {K':List AV→Prop},(∀ds vs,B0 E R ds vs→K ds→K' vs)→a4s P S T l K→R8 P E H avs l K'
 | [],K,K',hk,h=>hk [] [] G5 h
 | .tmp t::l,K,K',hk,h=>by
  have:=b0b (l:=l) (K':=fun vs=>K' (avs.getD t A3::vs)) hC hT (fun ds vs hr hK=>hk (T.getD t b8::ds) (avs.getD t A3::vs) (B7 (b6q hT t) hr) hK) h
  exact this
 | .cell a t::l,K,K',hk,h=>by
  simp only[a4s]at h
  unfold a9 at h
  split at h
  ·rename_i d hd
   have ha:=b6q hT a
   obtain⟨v,h1,h2⟩:=c9H hC ha hd
   have h2:=h2 H (hC.agr _)
   have:=b0b (l:=l) (K':=fun vs=>K' (v::vs)) hC hT (fun ds vs hr hK=>hk (d::ds) (v::vs) (B7 h1 hr) hK) h
   simp only[R8]
   unfold c9f at h2
   split at h2
   ·rename_i o i e
    simp only[e,h2,d0x]
    exact this
   ·cases h2
  ·exact h.elim
theorem c9N{R:Fz}{ds:List D}{vs:List AV}(h:B0 E R ds vs):Rp E R (c1D ds) (b4c vs):=by
 rcases ds with _|⟨d,_|⟨d',ds⟩⟩
 ·simp only[B0]at h;subst h;exact a2Y
 ·simp only[B0]at h
  obtain⟨v,_,rfl,h1,rfl⟩:=h
  exact h1
 ·have h':=h
  simp only[B0]at h
  obtain⟨v,_,rfl,h1,v2,vs',rfl,h2,h3⟩:=h
  show Rp E R (.tup (d::d'::ds)) (.tup (v::v2::vs'))
  simp only[Rp]
  exact⟨_,rfl,h'⟩
theorem c6a{f:FuncId}{fn:Func}{c:Code}(hfn:P.funcs[f]? =some fn)(hb:fn.body=some c){ds:List D}{S:b7}{Q:D→b7→Prop}
  (h:j9 P E w0 c (ds++List.replicate (fn.ntmps - ds.length) b8) S (G7 P fn (d9 E Q))):o5 P E w0 f ds S Q:=fun R H avs F hC ha=>by
 have hrow:B0 E R (ds++List.replicate (fn.ntmps - ds.length) b8) (avs++List.replicate (fn.ntmps - avs.length) A3):=by
  refine ha.append ?_
  rw[ha.length]
  generalize fn.ntmps - ds.length=m
  induction m with
  |zero=>exact G5
  |succ m ih=>exact B7 a2Y ih
 have h':H8 P E (w0.at E R) c (avs++List.replicate (fn.ntmps - avs.length) A3) H (d5N P E fn (R7 E R Q)):=by
  refine(h R H _ F hC hrow).mono fun ex T' H' hq=> ?_
  obtain⟨F2,R2,S2,T2,a2,b2,c2,d2,e2⟩:=hq
  have go:∀ {l:List ResultVar},a4s P S2 T2 l (fun vs=>d9 E Q (c1D vs) S2)→R8 P E H' T' l fun vs=>R7 E R Q (b4c vs) H':=fun h=>b0b b2 c2 (fun ds vs hr hK=>by
   obtain⟨R',S',d',k1,k2,k3,k4⟩:=hK R2 H' _ b2 (c9N hr)
   exact⟨F2,R',S',d',Fz.le_trans a2 k1,k2,k3,k4⟩) h
  cases ex with
  |normal=>exact go e2
  |ret=>exact go e2
  |exit id=>exact e2
 exact c7t hfn hb h'
theorem m9(loops cuts:List (Nat×List Nat))(arrs:List (Nat×X6))(hm:P.follows .mixedOrders=true){f:FuncId}{fn:Func}{c:Code}(hfn:P.funcs[f]? =some fn)(hb:fn.body=some c){ds:List D}{S:b7}{Q:D→b7→Prop}{V:Prop}
  (e:vcD P E w0 loops cuts arrs c (ds++List.replicate (fn.ntmps - ds.length) b8) S (G7 P fn (d9 E Q))=V) (h:V):o5 P E w0 f ds S Q:=
 c6a hfn hb (b3c hm _ _ _ _ (e▸h))
theorem l8(loops cuts:List (Nat×List Nat))(arrs:List (Nat×X6))(hm:P.follows .mixedOrders=true){c:Code}{T:List D}{S:b7}{Q:r4→List D→b7→Prop}{V:Prop}(e:vcD P E w0 loops cuts arrs c T S Q=V)(h:V):j9 P E w0 c T S Q:=
 b3c hm _ _ _ _ (e▸h)
theorem d9.here{Q:D→b7→Prop}{d:D}{S:b7}(h:Q d S):d9 E Q d S:=fun R H v hC hd=>⟨R,S,d,Fz.le_refl R,hC,hd,h⟩
theorem d9.less{Q:D→b7→Prop}{d:D}{S S':b7}(hs:S'.le S)(h:d9 E Q d S'):d9 E Q d S:=fun R H v hC hd=>h R H v (hC.less hs) hd
theorem d9.mono{Q Q':D→b7→Prop}{d:D}{S:b7}(h:d9 E Q d S)(hq:∀d S,Q d S→Q' d S):d9 E Q' d S:=fun R H v hC hd=>by
 obtain⟨R',S',d',a,b,c,e⟩:=h R H v hC hd
 exact⟨R',S',d',a,b,c,hq _ _ e⟩
theorem d9.freeze{Q:D→b7→Prop}{S:b7}{k:Nat}{o:M5}(hk:S k=some o){i len cap:Nat}{ex:Bool}{sz:Nat}(hsz:o.sz=sz)(hl:i+len≤o.rows.length)(hc:len≤cap)
  (h:d9 E Q (.lst ((o.rows.drop i).take len) sz) (S.erase k)):d9 E Q (.raw k i len cap ex sz) S:=fun R H v hC hd=>by
 obtain⟨h1,h2⟩:=hC.freeze hk
 obtain⟨R',S',d',a,b,c,e⟩:=h _ H v h1 (a8w hC hk hd hsz hl hc)
 exact⟨R',S',d',Fz.le_trans h2 a,b,c,e⟩
theorem d9.freezeT{Q:D→b7→Prop}{S:b7}{k:Nat}{o:M5}(hk:S k=some o){i len cap:Nat}{ex:Bool}{sz:Nat}(hsz:o.sz=sz)(hl:i+len≤o.rows.length)(hc:len≤cap){lp lq:List D}
  (h:d9 E Q (.tup (lp++ .lst ((o.rows.drop i).take len) sz::lq)) (S.erase k)):d9 E Q (.tup (lp++ .raw k i len cap ex sz::lq)) S:=fun R H v hC hd=>by
 obtain⟨h1,h2⟩:=hC.freeze hk
 simp only[Rp]at hd
 obtain⟨vs,rfl,hv⟩:=hd
 obtain⟨v1,v2,rfl,g1,g2⟩:=a5K hv
 simp only[B0]at g2
 obtain⟨w,ws,rfl,g3,g4⟩:=g2
 obtain⟨R',S',d',a,b,c,e⟩:=h _ H (.tup (v1++w::ws)) h1 (by
  simp only[Rp]
  exact⟨_,rfl,(B0.le h2 _ _ g1).append (B7 (a8w hC hk g3 hsz hl hc) (B0.le h2 _ _ g4))⟩)
 exact⟨R',S',d',Fz.le_trans h2 a,b,c,e⟩
theorem d9.nil{Q:D→b7→Prop}{S:b7}{sz:Nat}(h:d9 E Q (.lst [] sz) S):d9 E Q .nilSlc S:=fun R H v hC hd=>h R H v hC (by simp only[Rp]at hd ⊢;exact .inl ⟨trivial,hd⟩)
theorem d9.nilT{Q:D→b7→Prop}{S:b7}{sz:Nat}{lp lq:List D}(h:d9 E Q (.tup (lp++ .lst [] sz::lq)) S):d9 E Q (.tup (lp++ .nilSlc::lq)) S:=fun R H v hC hd=>h R H v hC (by
 simp only[Rp]at hd ⊢
 obtain⟨vs,rfl,hv⟩:=hd
 obtain⟨v1,v2,rfl,g1,g2⟩:=a5K hv
 simp only[B0]at g2
 obtain⟨w,ws,rfl,g3,g4⟩:=g2
 exact⟨_,rfl,g1.append (B7 (by simp only[Rp]at g3 ⊢;exact .inl ⟨trivial,g3⟩) g4)⟩)
def X5(P:Program)(E:m7)(w0:o0)(f:FuncId)(ds:List D)(d:D):Prop:=∀S,o5 P E w0 f ds S fun d' S'=>d'=d∧S'=S
theorem X5.use{f:FuncId}{ds:List D}{d:D}(h:X5 P E w0 f ds d){S:b7}{K:D→b7→Prop}(hk:K d S):o5 P E w0 f ds S K:=(h S).use fun d' S' ⟨a,b⟩=>by subst a b;exact hk
end
end
end Go.Am
end
section
open Go.Proofs Go Go.Am
namespace Go.Proofs.Ytchnpgddpaonhaa.d
theorem o7:Try.prog.follows .mixedOrders=true:=by kernel_rfl
abbrev b1L:TypeId:=48
abbrev a8j:TypeId:=76
abbrev a7A:FuncId:=7
abbrev b4M:FuncId:=9
abbrev a0F:FuncId:=10
abbrev Y3:FuncId:=11
abbrev a3Z:FuncId:=12
abbrev b5E:FuncId:=15
abbrev a4m:FuncId:=17
abbrev Q7:FuncId:=22
abbrev a9y:FuncId:=23
abbrev L9:FuncId:=24
abbrev a1x:FuncId:=25
abbrev a9t:FuncId:=26
abbrev a5Q:FuncId:=27
abbrev a2Q:FuncId:=28
abbrev a4Y:FuncId:=39
abbrev a0Q:FuncId:=41
abbrev b0B:FuncId:=42
abbrev C2:FuncId:=43
abbrev a1K:FuncId:=44
abbrev a1X:FuncId:=45
abbrev M4:FuncId:=46
abbrev a1M:FuncId:=47
abbrev a1Y:FuncId:=48
abbrev s6:FuncId:=49
abbrev K2:FuncId:=50
abbrev F7:FuncId:=51
abbrev N8:FuncId:=52
abbrev a2m:FuncId:=53
abbrev a4d:FuncId:=54
abbrev a3q:FuncId:=55
abbrev a4G:FuncId:=56
abbrev B8:FuncId:=57
abbrev a2f:FuncId:=58
abbrev I7:FuncId:=59
abbrev N6:FuncId:=60
abbrev z7:FuncId:=61
abbrev a4t:FuncId:=62
abbrev J3:FuncId:=63
abbrev a5F:FuncId:=64
abbrev a8R:FuncId:=65
abbrev a1C:FuncId:=66
abbrev a9U:FuncId:=67
abbrev M3:FuncId:=68
abbrev W5:FuncId:=69
abbrev a0S:FuncId:=70
abbrev Q3:FuncId:=71
abbrev a3r:FuncId:=72
abbrev J1:FuncId:=73
abbrev b7N:FuncId:=74
abbrev J0:FuncId:=75
abbrev a3h:FuncId:=76
abbrev a7B:FuncId:=77
abbrev b5o:FuncId:=78
abbrev b4t:FuncId:=79
abbrev u5:FuncId:=80
abbrev E2:FuncId:=81
abbrev a0m:FuncId:=82
abbrev a5H:FuncId:=83
abbrev M6:FuncId:=84
abbrev b4Q:FuncId:=85
abbrev s5:FuncId:=86
abbrev k9:FuncId:=87
abbrev r6:FuncId:=88
abbrev P1:FuncId:=89
abbrev b5l:FuncId:=90
abbrev b2R:FuncId:=91
abbrev a0D:FuncId:=92
abbrev a3d:FuncId:=93
abbrev b1U:FuncId:=94
abbrev C3:FuncId:=95
abbrev a0d:FuncId:=96
abbrev b1M:FuncId:=97
abbrev b1Y:FuncId:=98
abbrev Y8:FuncId:=99
abbrev a0Y:FuncId:=100
end Go.Proofs.Ytchnpgddpaonhaa.d
end
