/-
  BlocksTileSaid: part Naj of its proof.
-/
import Derived.Test.YtdkidgkiplcggaaNai
set_option linter.unusedVariables false
set_option linter.unusedSimpArgs false
set_option maxRecDepth 100000
section
namespace Go.Am
def a0y(r:Option (AV×AHeap))(K:AV→AHeap→Prop):Prop:=match r with
 |some (v,H')=>K v H'
 |none=>False
def b9v(c a b:AV):Option AV:=match c with
 | .bool t=>some (if t then a else b)
 |_=>none
def c0o(x:AV):Option AV:=match x with
 | .nilPtr| .nilIfc| .nilFn| .opq _=>none
 | .fn (.method _) _ _=>none
 |y=>some y
def a8c(x:AV)(ix:Nat):Option AV:=match x with
 | .tup vs=>vs[ix]?
 |_=>none
section
variable(P:Program)(E:d6)
def b9u(H:AHeap)(t:TypeId)(a:AV):Option AV:=match a with
 | .ptr o i=>D5 P E H t o i
 |_=>none
def b4X(t:TypeId)(x:AV):Option AV:=match P.underlying t with
 |some (.interface _)=>none
 |some _=>some (.ifc t x)
 |none=>none
def b7W(H:AHeap)(t:TypeId)(x:AV):Option AV:=match a7c P t x with
 |some n=>some (.int .i64 n)
 |none=>(a0p P H t x).map fun(n:Nat)=> .int .i64 n
def b8u(op:BinOp)(t:TypeId)(x y:Operand)(a b:AV):Option AV:=if T8 P op t x y a b then a6z P op t a b else none
def opV(T:List AV)(H:AHeap)(o:Oper):Option AV:=
 match o.op with
 | .move x| .assign x=>some (c8 T x)
 | .pick c a b=>b9v (c8 T c) (c8 T a) (c8 T b)
 | .build t parts=>a5i P t (parts.toList.map fun p=>(p.1,c8 T p.2))
 | .load t a=>b9u P E H t (c8 T a)
 | .nilCheck x=>c0o (c8 T x)
 | .binOp op t x y _=>b8u P op t x y (c8 T x) (c8 T y)
 | .unOp op _ x=>unA op (c8 T x)
 | .convert src dst x=>(F0 P E H src dst (c8 T x)).map (·.1)
 | .makeInterface t x=>b4X P t (c8 T x)
 | .makeFunc fn first captured=>some (.fn fn (first.toList.map (c8 T)) (captured.toList.map (c8 T)))
 | .slice t x lo hi mx=>V3 P H t (c8 T x) (lo.map (c8 T)) (hi.map (c8 T)) (mx.map (c8 T))
 | .fieldAddr s x f=>a1n P s (c8 T x) f
 | .field s x f=>a6P P s (c8 T x) f
 | .indexAddr t x ix=>U4 P t (c8 T x) (c8 T ix)
 | .index t x ix=>a5d P t (c8 T x) (c8 T ix)
 | .lookup t x ix ok=>W8 P H t (c8 T x) (c8 T ix) ok
 | .typeAssert x _ asserted ok=>a3S P (c8 T x) asserted ok
 | .extract t ix=>a8c (c8 T t) ix
 | .call c=>match c.callee with
  | .builtin b=>match b,c.args.toList.map (c8 T),c.argTypes.toList with
   | .len,[x],[t]=>b7W P H t x
   | .cap,[x],[t]=>(b5v P t x).map fun(n:Nat)=> .int .i64 n
   | .min,l,_=>a0k false l
   | .max,l,_=>a0k true l
   |_,_,_=>none
  |_=>none
 |_=>none
abbrev FW:=FuncId→List AV→AHeap→(AV→AHeap→Prop)→Prop
def a6T(F:FW)(r:Option P0)(K:AV→AHeap→Prop):Prop:=match r with
 |some (.val v H')=>K v H'
 |some (.call f args H')=>F f args H' K
 |none=>False
def a9b(H:AHeap)(f:AV)(args:List AV):Option P0:=match f with
 | .fn (.func g) first captured=>F5 P H g (first++args++captured)
 | .fn (.method name) first captured=>match captured,first++args with
  | [], .ifc t v::rest=>(Q6 P E H t v name).bind fun(g,r)=>F5 P H g (r::rest)
  |_,_=>none
 | .fn (.via t path g pointer) first captured=>match captured,path.toList,first++args,P.underlying t with
  | [],[],x::rest,some (.pointer _)=>if pointer then F5 P H g (x::rest) else none
  |_,_,_,_=>none
 |_=>none
def b8Y(H:AHeap)(r:AV)(name:String)(args:List AV):Option P0:=match r with
 | .ifc t v=>(Q6 P E H t v name).bind fun(g,r)=>F5 P H g (r::args)
 |_=>none
def b4M(H:AHeap)(t:TypeId)(a x:AV)(K:AV→AHeap→Prop):Prop:=match a with
 | .ptr o i=>if s8 P t=some x.cells.length then a8 (r5 H o i x.cells) fun H'=>K o6 H' else False
 |_=>False
def opW(F:FW)(T:List AV)(H:AHeap)(o:Oper)(K:AV→AHeap→Prop):Prop:=
 match o.op with
 | .alloc e=>a8 (D3 P e) fun z=>K (.ptr (.new H.next) 0) (newCells H z.cells)
 | .box _ x=>K (.ptr (.new H.next) 0) (newCells H (c8 T x).cells)
 | .buildSlice t len parts=>a0y (E6 P H t len (parts.toList.map fun p=>(p.1,c8 T p.2))) K
 | .store t a x=>b4M P H t (c8 T a) (c8 T x) K
 | .convert src dst x=>a0y (F0 P E H src dst (c8 T x)) K
 | .makeMap _ r=>match r with
  |none=>K (.map H.next) (H.new (.map [] 0))
  |some _=>False
 | .makeSlice t l c=>a0y (E9 P H t (c8 T l) (c8 T c)) K
 | .mapUpdate t m k x| .insert t m k x=>a8 (J7 P H t (c8 T m) (c8 T k) (c8 T x)) fun H'=>K o6 H'
 | .mapEntry t m k=>a0y (a0D P H t (c8 T m) (c8 T k)) K
 | .entryStore _ m s x=>a8 (A6 H (c8 T m) (c8 T s) (c8 T x)) fun H'=>K o6 H'
 | .range t x=>a5m P H t (c8 T x) K
 | .next it s=>b3G s H (c8 T it) K
 | .entry it=>a4y H (c8 T it) K
 | .call c=>match c.callee with
  | .value (.func g)=>if a1l P g then F g (c.args.toList.map (c8 T)) H K else False
  | .value f=>a6T F (a9b P E H (c8 T f) (c.args.toList.map (c8 T))) K
  | .invoke r name=>a6T F (b8Y P E H (c8 T r) name (c.args.toList.map (c8 T))) K
  | .builtin b=>match b,c.args.toList.map (c8 T),c.argTypes.toList with
   | .append,[s,x],[sT,xT]=>a0y (Q5 P E H sT s xT x) K
   | .copy,[d,x],dT::_=>a0y (a4n P E H dT d x) K
   |_,_,_=>a8 (opV P E T H o) fun v=>K v H
 |_=>a8 (opV P E T H o) fun v=>K v H
end
section
variable(P:Program)(E:d6)(w0:a2z)
def b1T(F:FW)(ops:Array Oper)(T:List AV)(H:AHeap)(o:Oper)(K:AV→AHeap→Prop):Prop:=a3J (M5 ops T o) (opW P E F T H o) H K
def b8x(ops:Array Oper)(T:List AV)(H:AHeap)(o:Oper):Option AV:=b7R (M5 ops T o) (opV P E T H o)
def a5t(o:Oper):Option Operand:=match o.guard with
 |none=>match o.op with
  | .move x| .assign x=>some x
  |_=>none
 |some _=>none
def a8v(ops:Array Oper):List Oper→List AV→AHeap→(List AV→AHeap→Prop)→Prop
 | [],T,H,Q=>Q T H
 |o::l,T,H,Q=>if l8 P o≤1 then ∃v,a6C P E ops T H o=some v∧a8v ops l (W4 T o.dst v) H Q else Y1 P E w0 ops T H o fun v H'=>a8v ops l (W4 T o.dst v) H' Q
end
section
variable{P:Program}{E:d6}{w0:a2z}
theorem b0P{r:Option AV}{H:AHeap}:b3B (r.map fun x=>P0.val x H)=r:=by cases r<;>rfl
theorem c1D{T:List AV}{H:AHeap}{o:Oper}(hk:l8 P o≤1):b3B (M7 P E T H o)=opV P E T H o:=by
 obtain⟨dst,op,type,pos,after,guard⟩:=o
 cases op<;>simp only[M7,opV]<;>try (first|rfl|exact b0P|(simp only[l8]at hk;omega))
 case pick c a b=>unfold b9v;cases c8 T c<;>rfl
 case load t a=>
  unfold b9u
  cases c8 T a<;>first|rfl|exact b0P
 case nilCheck x=>unfold c0o;split<;>simp_all [b3B]
 case binOp op t x y yt=>
  unfold b8u
  split
  ·exact b0P
  ·rfl
 case convert src dst x=>cases F0 P E H src dst (c8 T x)<;>rfl
 case makeInterface t x=>
  unfold b4X
  cases P.underlying t with
  |none=>rfl
  |some d=>cases d<;>rfl
 case extract t ix=>
  unfold a8c
  cases c8 T t<;>first|rfl|exact b0P
 case call c=>
  unfold K2
  cases hc:c.callee with
  |value f=>simp only[l8,hc]at hk;omega
  |invoke r m=>simp only[l8,hc]at hk;omega
  |builtin b=>
   simp only[l8,hc]at hk
   generalize c.args.toList.map (c8 T)=as
   generalize c.argTypes.toList=ts
   cases b<;>simp at hk
   case len=>
    simp only[b7W]
    rcases as with _|⟨x,_|⟨y,as⟩⟩<;>rcases ts with _|⟨t,_|⟨u,ts⟩⟩<;>simp only<;>try rfl
    cases a7c P t x
    ·exact(by cases a0p P H t x<;>rfl)
    ·rfl
   case cap=>
    rcases as with _|⟨x,_|⟨y,as⟩⟩<;>rcases ts with _|⟨t,_|⟨u,ts⟩⟩<;>simp only<;>try rfl
    cases b5v P t x<;>rfl
   case min=>simp only;cases a0k false as<;>rfl
   case max=>simp only;cases a0k true as<;>rfl
theorem a5s{F:FW}{r:Option (AV×AHeap)}{K:AV→AHeap→Prop}(h:a0y r K):a6T F (r.map fun x=>P0.val x.1 x.2) K:=by cases r<;>exact h
theorem b4w{F:FW}{r:Option AHeap}{K:AV→AHeap→Prop}(h:a8 r fun H'=>K o6 H'):a6T F (r.map fun H'=>P0.val o6 H') K:=by cases r<;>exact h
theorem b6X{F:FW}{T:List AV}{H:AHeap}{o:Oper}{K:AV→AHeap→Prop}(hk:l8 P o≤1)(h:a8 (opV P E T H o) fun v=>K v H):a6T F (M7 P E T H o) K:=by
 rw[←c1D hk]at h
 cases hr:M7 P E T H o with
 |none=>rw[hr]at h;exact h.elim
 |some r=>
  rw[hr]at h
  cases r with
  |val v H1=>
   have:=b1U hk hr
   subst this
   exact h
  |call f args H1=>exact h.elim
def a8X(o:Oper):Bool:=match o.op with
 | .range .. | .next .. | .entry _=>true
 |_=>false
theorem c4t{F:FW}{T:List AV}{H:AHeap}{o:Oper}{K:AV→AHeap→Prop}(hi:a8X o=false)(h:opW P E F T H o K):a6T F (M7 P E T H o) K:=by
 by_cases hk:l8 P o≤1
 ·refine b6X hk ?_
  obtain⟨dst,op,type,pos,after,guard⟩:=o
  cases op<;>simp only[a8X]at hi<;>(try (cases hi;done))<;>simp only[opW]at h<;>try (first|exact h|(simp only[l8]at hk;omega))
  case convert src dst x=>
   simp only[opV]
   have hr:∀v H1,F0 P E H src dst (c8 T x)=some (v,H1)→H1=H:=by
    intro v H1 e
    refine b1U (P:=P) (E:=E) (T:=T) (v:=v) hk ?_
    simp only[M7,e];rfl
   cases hc:F0 P E H src dst (c8 T x) with
   |none=>rw[hc]at h;exact h
   |some r=>
    obtain⟨v,H1⟩:=r
    rw[hc]at h
    have:=hr v H1 hc
    subst this
    exact h
  case call c=>
   cases hc:c.callee with
   |value f=>simp only[l8,hc]at hk;omega
   |invoke r m=>simp only[l8,hc]at hk;omega
   |builtin b=>
    simp only[l8,hc]at hk
    simp only[hc]at h
    cases b<;>simp at hk<;>exact h
 ·obtain⟨dst,op,type,pos,after,guard⟩:=o
  cases op<;>simp only[a8X]at hi<;>(try (cases hi;done))<;>simp only[opW]at h<;>try ((simp only[l8]at hk;omega))
  all_goals try (simp only[opV]at h;exact h.elim)
  case alloc e=>
   simp only[M7]
   cases hz:D3 P e with
   |none=>rw[hz]at h;exact h.elim
   |some z=>rw[hz]at h;exact h
  case box e x=>exact h
  case buildSlice t n ps=>exact a5s h
  case insert t m k x=>exact b4w h
  case store t a x=>
   simp only[M7]
   cases ha:c8 T a<;>simp only[ha,b4M]at h ⊢
   split at h
   ·rename_i hs
    rw[if_pos hs];exact b4w h
   ·exact h.elim
  case convert src dst x=>exact a5s h
  case makeMap t r=>
   simp only[M7]
   cases r with
   |none=>exact h
   |some x=>exact h.elim
  case makeSlice t l c=>exact a5s h
  case mapUpdate t m k x=>exact b4w h
  case mapEntry t m k=>exact a5s h
  case entryStore t m s x=>exact b4w h
  case call c=>
   simp only[M7]
   unfold K2
   cases hc:c.callee with
   |value f=>
    simp only[hc]at h ⊢
    cases f with
    |func g=>
     simp only[c8,F5]at h ⊢
     split at h
     ·rename_i hb;rw[if_pos hb];simp only[List.nil_append,List.append_nil];exact h
     ·exact h.elim
    |tmp t=>unfold a9b at h;exact h
    |const v=>unfold a9b at h;exact h
    |global g=>unfold a9b at h;exact h
   |invoke r m=>
    simp only[hc]at h ⊢
    exact h
   |builtin b=>
    simp only[l8,hc]at hk
    simp only[hc]at h ⊢
    generalize c.args.toList.map (c8 T)=as at h ⊢
    generalize c.argTypes.toList=ts at h ⊢
    simp only[opV,hc]at h
    cases b<;>simp at hk
    case append=>
     rcases as with _|⟨s,_|⟨x,_|⟨y,as⟩⟩⟩<;>rcases ts with _|⟨sT,_|⟨xT,_|⟨u,ts⟩⟩⟩<;>first|exact a5s h|exact h.elim
    case copy=>
     rcases as with _|⟨s,_|⟨x,_|⟨y,as⟩⟩⟩<;>rcases ts with _|⟨sT,ts⟩<;>first|exact a5s h|exact h.elim
    all_goals exact h.elim
theorem b2K{o:Oper}{x:Operand}(h:a5t o=some x):l8 P o=0∧∀(ops:Array Oper) (T:List AV) (H:AHeap),b8x P E ops T H o=some (c8 T x):=by
 obtain⟨dst,op,type,pos,after,guard⟩:=o
 unfold a5t at h
 cases guard with
 |some g=>cases h
 |none=>
  cases op<;>first|(cases h;done)|(cases h;exact⟨rfl,fun _ _ _=>rfl⟩)
theorem c0w{F:FW}{T:List AV}{H:AHeap}{o:Oper}{K:AV→AHeap→Prop}(hi:a8X o=true)(h:opW P E F T H o K):M7 P E T H o=none∧a3V P T H o K:=by
 obtain⟨dst,op,type,pos,after,guard⟩:=o
 cases op<;>simp only[a8X]at hi<;>(try (cases hi;done))
 case range t x=>exact⟨rfl,h⟩
 case next it s=>exact⟨rfl,h⟩
 case entry it=>exact⟨rfl,h⟩
theorem b9m{ops:Array Oper}{T:List AV}{H:AHeap}{o:Oper}{K:AV→AHeap→Prop}(h:b1T P E (FnW P E w0) ops T H o K):Y1 P E w0 ops T H o K:=by
 have key:∀ {r:Option P0},a6T (FnW P E w0) r K→b3o P E w0 T H o r K:=fun{r} h=>by
  cases r with
  |none=>exact h.elim
  |some r=>cases r<;>exact h
 unfold b1T at h
 unfold Y1
 generalize M5 ops T o=g at h ⊢
 cases g with
 |none=>exact h
 |some b=>cases b with
  |true=>
   show b3o P E w0 T H o (M7 P E T H o) K
   by_cases hi:a8X o=true
   ·obtain⟨h1,h2⟩:=c0w hi h
    rw[h1]
    exact .inr h2
   ·exact key (c4t (by simpa using hi) h)
  |false=>exact h
theorem a7C{ops:Array Oper}{T:List AV}{H:AHeap}{o:Oper}(hk:l8 P o≤1):a6C P E ops T H o=b8x P E ops T H o:=by
 unfold a6C b8x
 rw[c1D hk]
theorem a8R{ops:Array Oper}:∀ {l:List Oper} {T:List AV} {H:AHeap} {Q Q':List AV→AHeap→Prop},(∀T H,Q T H→Q' T H)→a8v P E w0 ops l T H Q→a8v P E w0 ops l T H Q'
 | [],T,H,Q,Q',hq,h=>hq _ _ h
 |o::l,T,H,Q,Q',hq,h=>by
  rw[a8v]at*
  split at h
  ·rename_i hk
   rw[if_pos hk]
   obtain⟨v,h1,h2⟩:=h
   exact⟨v,h1,a8R hq h2⟩
  ·rename_i hk
   rw[if_neg hk]
   exact V2 h fun v H' h'=>a8R hq h'
theorem a8g{ops:Array Oper}:∀ {l:List Oper} {T:List AV} {H:AHeap} {Q:List AV→AHeap→Prop},a8v P E w0 ops l T H Q→b5K P E w0 ops l T H Q
 | [],T,H,Q,h=>h
 |o::l,T,H,Q,h=>by
  rw[a8v]at h
  split at h
  ·rename_i hk
   obtain⟨v,h1,h2⟩:=h
   exact V2 (b0W hk h1) fun v' H' e=>by obtain⟨rfl,rfl⟩:=e;exact a8g h2
  ·exact V2 h fun v H' h'=>a8g h'
def i5:List Nat→Code→Code
 | [],c=>c
 |n::l,c=>match c with
  | .seq a b| .cond _ a b=>if n=0 then i5 l a else i5 l b
  | .block _ a| .loop a=>i5 l a
  |c=>c
end
end Go.Am
end
