/-
  BlocksReachesSaid: part Maj of its proof.
-/
import Derived.Test.YtdkidgkiplcggaaMai
set_option linter.unusedVariables false
set_option linter.unusedSimpArgs false
set_option maxRecDepth 100000
section
namespace Go.Am
def a1h(r:Option (AV×AHeap))(K:AV→AHeap→Prop):Prop:=match r with
 |some (v,H')=>K v H'
 |none=>False
def c1b(c a b:AV):Option AV:=match c with
 | .bool t=>some (if t then a else b)
 |_=>none
def c1L(x:AV):Option AV:=match x with
 | .nilPtr| .nilIfc| .nilFn| .opq _=>none
 | .fn (.method _) _ _=>none
 |y=>some y
def a9y(x:AV)(ix:Nat):Option AV:=match x with
 | .tup vs=>vs[ix]?
 |_=>none
section
variable(P:Program)(E:d6)
def c1o(H:AHeap)(t:TypeId)(a:AV):Option AV:=match a with
 | .ptr o i=>E2 P E H t o i
 |_=>none
def b6R(t:TypeId)(x:AV):Option AV:=match P.underlying t with
 |some (.interface _)=>none
 |some _=>some (.ifc t x)
 |none=>none
def c0y(H:AHeap)(t:TypeId)(x:AV):Option AV:=match a8o P t x with
 |some n=>some (.int .i64 n)
 |none=>(a1a P H t x).map fun(n:Nat)=> .int .i64 n
def b9O(op:BinOp)(t:TypeId)(x y:Operand)(a b:AV):Option AV:=if W2 P op t x y a b then a8G P op t a b else none
def opV(T:List AV)(H:AHeap)(o:Oper):Option AV:=
 match o.op with
 | .move x| .assign x=>some (c8 T x)
 | .pick c a b=>c1b (c8 T c) (c8 T a) (c8 T b)
 | .build t parts=>a6y P t (parts.toList.map fun p=>(p.1,c8 T p.2))
 | .load t a=>c1o P E H t (c8 T a)
 | .nilCheck x=>c1L (c8 T x)
 | .binOp op t x y _=>b9O P op t x y (c8 T x) (c8 T y)
 | .unOp op _ x=>unA op (c8 T x)
 | .convert src dst x=>(F8 P E H src dst (c8 T x)).map (·.1)
 | .makeInterface t x=>b6R P t (c8 T x)
 | .makeFunc fn first captured=>some (.fn fn (first.toList.map (c8 T)) (captured.toList.map (c8 T)))
 | .slice t x lo hi mx=>Y2 P H t (c8 T x) (lo.map (c8 T)) (hi.map (c8 T)) (mx.map (c8 T))
 | .fieldAddr s x f=>a2L P s (c8 T x) f
 | .field s x f=>a7U P s (c8 T x) f
 | .indexAddr t x ix=>W0 P t (c8 T x) (c8 T ix)
 | .index t x ix=>a6w P t (c8 T x) (c8 T ix)
 | .lookup t x ix ok=>Z4 P H t (c8 T x) (c8 T ix) ok
 | .typeAssert x _ asserted ok=>a4V P (c8 T x) asserted ok
 | .extract t ix=>a9y (c8 T t) ix
 | .call c=>match c.callee with
  | .builtin b=>match b,c.args.toList.map (c8 T),c.argTypes.toList with
   | .len,[x],[t]=>c0y P H t x
   | .cap,[x],[t]=>(b7h P t x).map fun(n:Nat)=> .int .i64 n
   | .min,l,_=>a0Y false l
   | .max,l,_=>a0Y true l
   |_,_,_=>none
  |_=>none
 |_=>none
abbrev FW:=FuncId→List AV→AHeap→(AV→AHeap→Prop)→Prop
def a7Z(F:FW)(r:Option P8)(K:AV→AHeap→Prop):Prop:=match r with
 |some (.val v H')=>K v H'
 |some (.call f args H')=>F f args H' K
 |none=>False
def b1l(H:AHeap)(f:AV)(args:List AV):Option P8:=match f with
 | .fn (.func g) first captured=>G4 P H g (first++args++captured)
 | .fn (.method name) first captured=>match captured,first++args with
  | [], .ifc t v::rest=>(Q1 P E H t v name).bind fun(g,r)=>G4 P H g (r::rest)
  |_,_=>none
 | .fn (.via t path g pointer) first captured=>match captured,path.toList,first++args,P.underlying t with
  | [],[],x::rest,some (.pointer _)=>if pointer then G4 P H g (x::rest) else none
  |_,_,_,_=>none
 |_=>none
def c1d(H:AHeap)(r:AV)(name:String)(args:List AV):Option P8:=match r with
 | .ifc t v=>(Q1 P E H t v name).bind fun(g,r)=>G4 P H g (r::args)
 |_=>none
def b6s(H:AHeap)(t:TypeId)(a x:AV)(K:AV→AHeap→Prop):Prop:=match a with
 | .ptr o i=>if u5 P t=some x.cells.length then b5 (s7 H o i x.cells) fun H'=>K p4 H' else False
 |_=>False
def opW(F:FW)(T:List AV)(H:AHeap)(o:Oper)(K:AV→AHeap→Prop):Prop:=
 match o.op with
 | .alloc e=>b5 (D9 P e) fun z=>K (.ptr (.new H.next) 0) (newCells H z.cells)
 | .box _ x=>K (.ptr (.new H.next) 0) (newCells H (c8 T x).cells)
 | .buildSlice t len parts=>a1h (F5 P H t len (parts.toList.map fun p=>(p.1,c8 T p.2))) K
 | .store t a x=>b6s P H t (c8 T a) (c8 T x) K
 | .convert src dst x=>a1h (F8 P E H src dst (c8 T x)) K
 | .makeMap _ r=>match r with
  |none=>K (.map H.next) (H.new (.map [] 0))
  |some _=>False
 | .makeSlice t l c=>a1h (F6 P H t (c8 T l) (c8 T c)) K
 | .mapUpdate t m k x| .insert t m k x=>b5 (L1 P H t (c8 T m) (c8 T k) (c8 T x)) fun H'=>K p4 H'
 | .mapEntry t m k=>a1h (a1m P H t (c8 T m) (c8 T k)) K
 | .entryStore _ m s x=>b5 (A9 H (c8 T m) (c8 T s) (c8 T x)) fun H'=>K p4 H'
 | .range t x=>a6z P H t (c8 T x) K
 | .next it s=>b6e s H (c8 T it) K
 | .entry it=>a6a H (c8 T it) K
 | .call c=>match c.callee with
  | .value (.func g)=>if a2M P g then F g (c.args.toList.map (c8 T)) H K else False
  | .value f=>a7Z F (b1l P E H (c8 T f) (c.args.toList.map (c8 T))) K
  | .invoke r name=>a7Z F (c1d P E H (c8 T r) name (c.args.toList.map (c8 T))) K
  | .builtin b=>match b,c.args.toList.map (c8 T),c.argTypes.toList with
   | .append,[s,x],[sT,xT]=>a1h (Q5 P E H sT s xT x) K
   | .copy,[d,x],dT::_=>a1h (a5Z P E H dT d x) K
   |_,_,_=>b5 (opV P E T H o) fun v=>K v H
 |_=>b5 (opV P E T H o) fun v=>K v H
end
section
variable(P:Program)(E:d6)(w0:a3Q)
def b4c(F:FW)(ops:Array Oper)(T:List AV)(H:AHeap)(o:Oper)(K:AV→AHeap→Prop):Prop:=a4Y (O1 ops T o) (opW P E F T H o) H K
def b9Q(ops:Array Oper)(T:List AV)(H:AHeap)(o:Oper):Option AV:=b9E (O1 ops T o) (opV P E T H o)
def a6Y(o:Oper):Option Operand:=match o.guard with
 |none=>match o.op with
  | .move x| .assign x=>some x
  |_=>none
 |some _=>none
def b0I(ops:Array Oper):List Oper→List AV→AHeap→(List AV→AHeap→Prop)→Prop
 | [],T,H,Q=>Q T H
 |o::l,T,H,Q=>if n9 P o≤1 then ∃v,a8p P E ops T H o=some v∧b0I ops l (Z2 T o.dst v) H Q else a0w P E w0 ops T H o fun v H'=>b0I ops l (Z2 T o.dst v) H' Q
end
section
variable{P:Program}{E:d6}{w0:a3Q}
theorem b2P{r:Option AV}{H:AHeap}:b6p (r.map fun x=>P8.val x H)=r:=by cases r<;>rfl
theorem c2K{T:List AV}{H:AHeap}{o:Oper}(hk:n9 P o≤1):b6p (O4 P E T H o)=opV P E T H o:=by
 obtain⟨dst,op,type,pos,after,guard⟩:=o
 cases op<;>simp only[O4,opV]<;>try (first|rfl|exact b2P|(simp only[n9]at hk;omega))
 case pick c a b=>unfold c1b;cases c8 T c<;>rfl
 case load t a=>
  unfold c1o
  cases c8 T a<;>first|rfl|exact b2P
 case nilCheck x=>unfold c1L;split<;>simp_all [b6p]
 case binOp op t x y yt=>
  unfold b9O
  split
  ·exact b2P
  ·rfl
 case convert src dst x=>cases F8 P E H src dst (c8 T x)<;>rfl
 case makeInterface t x=>
  unfold b6R
  cases P.underlying t with
  |none=>rfl
  |some d=>cases d<;>rfl
 case extract t ix=>
  unfold a9y
  cases c8 T t<;>first|rfl|exact b2P
 case call c=>
  unfold L7
  cases hc:c.callee with
  |value f=>simp only[n9,hc]at hk;omega
  |invoke r m=>simp only[n9,hc]at hk;omega
  |builtin b=>
   simp only[n9,hc]at hk
   generalize c.args.toList.map (c8 T)=as
   generalize c.argTypes.toList=ts
   cases b<;>simp at hk
   case len=>
    simp only[c0y]
    rcases as with _|⟨x,_|⟨y,as⟩⟩<;>rcases ts with _|⟨t,_|⟨u,ts⟩⟩<;>simp only<;>try rfl
    cases a8o P t x
    ·exact(by cases a1a P H t x<;>rfl)
    ·rfl
   case cap=>
    rcases as with _|⟨x,_|⟨y,as⟩⟩<;>rcases ts with _|⟨t,_|⟨u,ts⟩⟩<;>simp only<;>try rfl
    cases b7h P t x<;>rfl
   case min=>simp only;cases a0Y false as<;>rfl
   case max=>simp only;cases a0Y true as<;>rfl
theorem a6M{F:FW}{r:Option (AV×AHeap)}{K:AV→AHeap→Prop}(h:a1h r K):a7Z F (r.map fun x=>P8.val x.1 x.2) K:=by cases r<;>exact h
theorem b6D{F:FW}{r:Option AHeap}{K:AV→AHeap→Prop}(h:b5 r fun H'=>K p4 H'):a7Z F (r.map fun H'=>P8.val p4 H') K:=by cases r<;>exact h
theorem b9r{F:FW}{T:List AV}{H:AHeap}{o:Oper}{K:AV→AHeap→Prop}(hk:n9 P o≤1)(h:b5 (opV P E T H o) fun v=>K v H):a7Z F (O4 P E T H o) K:=by
 rw[←c2K hk]at h
 cases hr:O4 P E T H o with
 |none=>rw[hr]at h;exact h.elim
 |some r=>
  rw[hr]at h
  cases r with
  |val v H1=>
   have:=b4H hk hr
   subst this
   exact h
  |call f args H1=>exact h.elim
def b1g(o:Oper):Bool:=match o.op with
 | .range .. | .next .. | .entry _=>true
 |_=>false
theorem c5v{F:FW}{T:List AV}{H:AHeap}{o:Oper}{K:AV→AHeap→Prop}(hi:b1g o=false)(h:opW P E F T H o K):a7Z F (O4 P E T H o) K:=by
 by_cases hk:n9 P o≤1
 ·refine b9r hk ?_
  obtain⟨dst,op,type,pos,after,guard⟩:=o
  cases op<;>simp only[b1g]at hi<;>(try (cases hi;done))<;>simp only[opW]at h<;>try (first|exact h|(simp only[n9]at hk;omega))
  case convert src dst x=>
   simp only[opV]
   have hr:∀v H1,F8 P E H src dst (c8 T x)=some (v,H1)→H1=H:=by
    intro v H1 e
    refine b4H (P:=P) (E:=E) (T:=T) (v:=v) hk ?_
    simp only[O4,e];rfl
   cases hc:F8 P E H src dst (c8 T x) with
   |none=>rw[hc]at h;exact h
   |some r=>
    obtain⟨v,H1⟩:=r
    rw[hc]at h
    have:=hr v H1 hc
    subst this
    exact h
  case call c=>
   cases hc:c.callee with
   |value f=>simp only[n9,hc]at hk;omega
   |invoke r m=>simp only[n9,hc]at hk;omega
   |builtin b=>
    simp only[n9,hc]at hk
    simp only[hc]at h
    cases b<;>simp at hk<;>exact h
 ·obtain⟨dst,op,type,pos,after,guard⟩:=o
  cases op<;>simp only[b1g]at hi<;>(try (cases hi;done))<;>simp only[opW]at h<;>try ((simp only[n9]at hk;omega))
  all_goals try (simp only[opV]at h;exact h.elim)
  case alloc e=>
   simp only[O4]
   cases hz:D9 P e with
   |none=>rw[hz]at h;exact h.elim
   |some z=>rw[hz]at h;exact h
  case box e x=>exact h
  case buildSlice t n ps=>exact a6M h
  case insert t m k x=>exact b6D h
  case store t a x=>
   simp only[O4]
   cases ha:c8 T a<;>simp only[ha,b6s]at h ⊢
   split at h
   ·rename_i hs
    rw[if_pos hs];exact b6D h
   ·exact h.elim
  case convert src dst x=>exact a6M h
  case makeMap t r=>
   simp only[O4]
   cases r with
   |none=>exact h
   |some x=>exact h.elim
  case makeSlice t l c=>exact a6M h
  case mapUpdate t m k x=>exact b6D h
  case mapEntry t m k=>exact a6M h
  case entryStore t m s x=>exact b6D h
  case call c=>
   simp only[O4]
   unfold L7
   cases hc:c.callee with
   |value f=>
    simp only[hc]at h ⊢
    cases f with
    |func g=>
     simp only[c8,G4]at h ⊢
     split at h
     ·rename_i hb;rw[if_pos hb];simp only[List.nil_append,List.append_nil];exact h
     ·exact h.elim
    |tmp t=>unfold b1l at h;exact h
    |const v=>unfold b1l at h;exact h
    |global g=>unfold b1l at h;exact h
   |invoke r m=>
    simp only[hc]at h ⊢
    exact h
   |builtin b=>
    simp only[n9,hc]at hk
    simp only[hc]at h ⊢
    generalize c.args.toList.map (c8 T)=as at h ⊢
    generalize c.argTypes.toList=ts at h ⊢
    simp only[opV,hc]at h
    cases b<;>simp at hk
    case append=>
     rcases as with _|⟨s,_|⟨x,_|⟨y,as⟩⟩⟩<;>rcases ts with _|⟨sT,_|⟨xT,_|⟨u,ts⟩⟩⟩<;>first|exact a6M h|exact h.elim
    case copy=>
     rcases as with _|⟨s,_|⟨x,_|⟨y,as⟩⟩⟩<;>rcases ts with _|⟨sT,ts⟩<;>first|exact a6M h|exact h.elim
    all_goals exact h.elim
theorem b2V{o:Oper}{x:Operand}(h:a6Y o=some x):n9 P o=0∧∀(ops:Array Oper) (T:List AV) (H:AHeap),b9Q P E ops T H o=some (c8 T x):=by
 obtain⟨dst,op,type,pos,after,guard⟩:=o
 unfold a6Y at h
 cases guard with
 |some g=>cases h
 |none=>
  cases op<;>first|(cases h;done)|(cases h;exact⟨rfl,fun _ _ _=>rfl⟩)
theorem c1F{F:FW}{T:List AV}{H:AHeap}{o:Oper}{K:AV→AHeap→Prop}(hi:b1g o=true)(h:opW P E F T H o K):O4 P E T H o=none∧a5t P T H o K:=by
 obtain⟨dst,op,type,pos,after,guard⟩:=o
 cases op<;>simp only[b1g]at hi<;>(try (cases hi;done))
 case range t x=>exact⟨rfl,h⟩
 case next it s=>exact⟨rfl,h⟩
 case entry it=>exact⟨rfl,h⟩
theorem c1h{ops:Array Oper}{T:List AV}{H:AHeap}{o:Oper}{K:AV→AHeap→Prop}(h:b4c P E (FnW P E w0) ops T H o K):a0w P E w0 ops T H o K:=by
 have key:∀ {r:Option P8},a7Z (FnW P E w0) r K→b5j P E w0 T H o r K:=fun{r} h=>by
  cases r with
  |none=>exact h.elim
  |some r=>cases r<;>exact h
 unfold b4c at h
 unfold a0w
 generalize O1 ops T o=g at h ⊢
 cases g with
 |none=>exact h
 |some b=>cases b with
  |true=>
   show b5j P E w0 T H o (O4 P E T H o) K
   by_cases hi:b1g o=true
   ·obtain⟨h1,h2⟩:=c1F hi h
    rw[h1]
    exact .inr h2
   ·exact key (c5v (by simpa using hi) h)
  |false=>exact h
theorem a9a{ops:Array Oper}{T:List AV}{H:AHeap}{o:Oper}(hk:n9 P o≤1):a8p P E ops T H o=b9Q P E ops T H o:=by
 unfold a8p b9Q
 rw[c2K hk]
theorem b1j{ops:Array Oper}:∀ {l:List Oper} {T:List AV} {H:AHeap} {Q Q':List AV→AHeap→Prop},(∀T H,Q T H→Q' T H)→b0I P E w0 ops l T H Q→b0I P E w0 ops l T H Q'
 | [],T,H,Q,Q',hq,h=>hq _ _ h
 |o::l,T,H,Q,Q',hq,h=>by
  rw[b0I]at*
  split at h
  ·rename_i hk
   rw[if_pos hk]
   obtain⟨v,h1,h2⟩:=h
   exact⟨v,h1,b1j hq h2⟩
  ·rename_i hk
   rw[if_neg hk]
   exact Y1 h fun v H' h'=>b1j hq h'
theorem a9c{ops:Array Oper}:∀ {l:List Oper} {T:List AV} {H:AHeap} {Q:List AV→AHeap→Prop},b0I P E w0 ops l T H Q→b7l P E w0 ops l T H Q
 | [],T,H,Q,h=>h
 |o::l,T,H,Q,h=>by
  rw[b0I]at h
  split at h
  ·rename_i hk
   obtain⟨v,h1,h2⟩:=h
   exact Y1 (b4m hk h1) fun v' H' e=>by obtain⟨rfl,rfl⟩:=e;exact a9c h2
  ·exact Y1 h fun v H' h'=>a9c h'
def f0:List Nat→Code→Code
 | [],c=>c
 |n::l,c=>match c with
  | .seq a b| .cond _ a b=>if n=0 then f0 l a else f0 l b
  | .block _ a| .loop a=>f0 l a
  |c=>c
end
end Go.Am
end
