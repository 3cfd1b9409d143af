/-
  BlocksJoinSaid: part Oaj of its proof.
-/
import Derived.Test.YtdkidgkiplcggaaOai
set_option linter.unusedVariables false
set_option linter.unusedSimpArgs false
set_option maxRecDepth 100000
section
namespace Go.Am
def a0y(r:Option (AV×AHeap))(K:AV→AHeap→Prop):Prop:=match r with
 |some (v,H')=>K v H'
 |none=>False
def b9j(c a b:AV):Option AV:=match c with
 | .bool t=>some (if t then a else b)
 |_=>none
def c0S(x:AV):Option AV:=match x with
 | .nilPtr| .nilIfc| .nilFn| .opq _=>none
 | .fn (.method _) _ _=>none
 |y=>some y
def a7M(x:AV)(ix:Nat):Option AV:=match x with
 | .tup vs=>vs[ix]?
 |_=>none
section
variable(P:Program)(E:d6)
def b9G(H:AHeap)(t:TypeId)(a:AV):Option AV:=match a with
 | .ptr o i=>D8 P E H t o i
 |_=>none
def b5f(t:TypeId)(x:AV):Option AV:=match P.underlying t with
 |some (.interface _)=>none
 |some _=>some (.ifc t x)
 |none=>none
def b8a(H:AHeap)(t:TypeId)(x:AV):Option AV:=match a6H P t x with
 |some n=>some (.int .i64 n)
 |none=>(a0m P H t x).map fun(n:Nat)=> .int .i64 n
def b8r(op:BinOp)(t:TypeId)(x y:Operand)(a b:AV):Option AV:=if U5 P op t x y a b then a7a P op t a b else none
def opV(T:List AV)(H:AHeap)(o:Oper):Option AV:=
 match o.op with
 | .move x| .assign x=>some (b9 T x)
 | .pick c a b=>b9j (b9 T c) (b9 T a) (b9 T b)
 | .build t parts=>a4B P t (parts.toList.map fun p=>(p.1,b9 T p.2))
 | .load t a=>b9G P E H t (b9 T a)
 | .nilCheck x=>c0S (b9 T x)
 | .binOp op t x y _=>b8r P op t x y (b9 T x) (b9 T y)
 | .unOp op _ x=>unA op (b9 T x)
 | .convert src dst x=>(F6 P E H src dst (b9 T x)).map (·.1)
 | .makeInterface t x=>b5f P t (b9 T x)
 | .makeFunc fn first captured=>some (.fn fn (first.toList.map (b9 T)) (captured.toList.map (b9 T)))
 | .slice t x lo hi mx=>V5 P H t (b9 T x) (lo.map (b9 T)) (hi.map (b9 T)) (mx.map (b9 T))
 | .fieldAddr s x f=>a1W P s (b9 T x) f
 | .field s x f=>a7g P s (b9 T x) f
 | .indexAddr t x ix=>U0 P t (b9 T x) (b9 T ix)
 | .index t x ix=>a4P P t (b9 T x) (b9 T ix)
 | .lookup t x ix ok=>Y0 P H t (b9 T x) (b9 T ix) ok
 | .typeAssert x _ asserted ok=>a3S P (b9 T x) asserted ok
 | .extract t ix=>a7M (b9 T t) ix
 | .call c=>match c.callee with
  | .builtin b=>match b,c.args.toList.map (b9 T),c.argTypes.toList with
   | .len,[x],[t]=>b8a P H t x
   | .cap,[x],[t]=>(b4L P t x).map fun(n:Nat)=> .int .i64 n
   | .min,l,_=>a0g false l
   | .max,l,_=>a0g true l
   |_,_,_=>none
  |_=>none
 |_=>none
abbrev FW:=FuncId→List AV→AHeap→(AV→AHeap→Prop)→Prop
def a7f(F:FW)(r:Option P0)(K:AV→AHeap→Prop):Prop:=match r with
 |some (.val v H')=>K v H'
 |some (.call f args H')=>F f args H' K
 |none=>False
def a8L(H:AHeap)(f:AV)(args:List AV):Option P0:=match f with
 | .fn (.func g) first captured=>F9 P H g (first++args++captured)
 | .fn (.method name) first captured=>match captured,first++args with
  | [], .ifc t v::rest=>(Q4 P E H t v name).bind fun(g,r)=>F9 P H g (r::rest)
  |_,_=>none
 | .fn (.via t path g pointer) first captured=>match captured,path.toList,first++args,P.underlying t with
  | [],[],x::rest,some (.pointer _)=>if pointer then F9 P H g (x::rest) else none
  |_,_,_,_=>none
 |_=>none
def b9D(H:AHeap)(r:AV)(name:String)(args:List AV):Option P0:=match r with
 | .ifc t v=>(Q4 P E H t v name).bind fun(g,r)=>F9 P H g (r::args)
 |_=>none
def b4M(H:AHeap)(t:TypeId)(a x:AV)(K:AV→AHeap→Prop):Prop:=match a with
 | .ptr o i=>if s6 P t=some x.cells.length then a8 (r6 H o i x.cells) fun H'=>K o5 H' else False
 |_=>False
def opW(F:FW)(T:List AV)(H:AHeap)(o:Oper)(K:AV→AHeap→Prop):Prop:=
 match o.op with
 | .alloc e=>a8 (D2 P e) fun z=>K (.ptr (.new H.next) 0) (newCells H z.cells)
 | .box _ x=>K (.ptr (.new H.next) 0) (newCells H (b9 T x).cells)
 | .buildSlice t len parts=>a0y (F0 P H t len (parts.toList.map fun p=>(p.1,b9 T p.2))) K
 | .store t a x=>b4M P H t (b9 T a) (b9 T x) K
 | .convert src dst x=>a0y (F6 P E H src dst (b9 T x)) K
 | .makeMap _ r=>match r with
  |none=>K (.map H.next) (H.new (.map [] 0))
  |some _=>False
 | .makeSlice t l c=>a0y (F4 P H t (b9 T l) (b9 T c)) K
 | .mapUpdate t m k x| .insert t m k x=>a8 (K0 P H t (b9 T m) (b9 T k) (b9 T x)) fun H'=>K o5 H'
 | .mapEntry t m k=>a0y (a0H P H t (b9 T m) (b9 T k)) K
 | .entryStore _ m s x=>a8 (A8 H (b9 T m) (b9 T s) (b9 T x)) fun H'=>K o5 H'
 | .range t x=>a5h P H t (b9 T x) K
 | .next it s=>b3V s H (b9 T it) K
 | .entry it=>a4y H (b9 T it) K
 | .call c=>match c.callee with
  | .value (.func g)=>if a1P P g then F g (c.args.toList.map (b9 T)) H K else False
  | .value f=>a7f F (a8L P E H (b9 T f) (c.args.toList.map (b9 T))) K
  | .invoke r name=>a7f F (b9D P E H (b9 T r) name (c.args.toList.map (b9 T))) K
  | .builtin b=>match b,c.args.toList.map (b9 T),c.argTypes.toList with
   | .append,[s,x],[sT,xT]=>a0y (P5 P E H sT s xT x) K
   | .copy,[d,x],dT::_=>a0y (a5f P E H dT d x) K
   |_,_,_=>a8 (opV P E T H o) fun v=>K v H
 |_=>a8 (opV P E T H o) fun v=>K v H
end
section
variable(P:Program)(E:d6)(w0:a2N)
def b1g(F:FW)(ops:Array Oper)(T:List AV)(H:AHeap)(o:Oper)(K:AV→AHeap→Prop):Prop:=a3M (M9 ops T o) (opW P E F T H o) H K
def b8S(ops:Array Oper)(T:List AV)(H:AHeap)(o:Oper):Option AV:=b8V (M9 ops T o) (opV P E T H o)
def a5A(o:Oper):Option Operand:=match o.guard with
 |none=>match o.op with
  | .move x| .assign x=>some x
  |_=>none
 |some _=>none
def a8U(ops:Array Oper):List Oper→List AV→AHeap→(List AV→AHeap→Prop)→Prop
 | [],T,H,Q=>Q T H
 |o::l,T,H,Q=>if l7 P o≤1 then ∃v,a7e P E ops T H o=some v∧a8U ops l (W9 T o.dst v) H Q else Y3 P E w0 ops T H o fun v H'=>a8U ops l (W9 T o.dst v) H' Q
end
section
variable{P:Program}{E:d6}{w0:a2N}
theorem b0W{r:Option AV}{H:AHeap}:b3L (r.map fun x=>P0.val x H)=r:=by cases r<;>rfl
theorem c1G{T:List AV}{H:AHeap}{o:Oper}(hk:l7 P o≤1):b3L (N4 P E T H o)=opV P E T H o:=by
 obtain⟨dst,op,type,pos,after,guard⟩:=o
 cases op<;>simp only[N4,opV]<;>try (first|rfl|exact b0W|(simp only[l7]at hk;omega))
 case pick c a b=>unfold b9j;cases b9 T c<;>rfl
 case load t a=>
  unfold b9G
  cases b9 T a<;>first|rfl|exact b0W
 case nilCheck x=>unfold c0S;split<;>simp_all [b3L]
 case binOp op t x y yt=>
  unfold b8r
  split
  ·exact b0W
  ·rfl
 case convert src dst x=>cases F6 P E H src dst (b9 T x)<;>rfl
 case makeInterface t x=>
  unfold b5f
  cases P.underlying t with
  |none=>rfl
  |some d=>cases d<;>rfl
 case extract t ix=>
  unfold a7M
  cases b9 T t<;>first|rfl|exact b0W
 case call c=>
  unfold K9
  cases hc:c.callee with
  |value f=>simp only[l7,hc]at hk;omega
  |invoke r m=>simp only[l7,hc]at hk;omega
  |builtin b=>
   simp only[l7,hc]at hk
   generalize c.args.toList.map (b9 T)=as
   generalize c.argTypes.toList=ts
   cases b<;>simp at hk
   case len=>
    simp only[b8a]
    rcases as with _|⟨x,_|⟨y,as⟩⟩<;>rcases ts with _|⟨t,_|⟨u,ts⟩⟩<;>simp only<;>try rfl
    cases a6H P t x
    ·exact(by cases a0m P H t x<;>rfl)
    ·rfl
   case cap=>
    rcases as with _|⟨x,_|⟨y,as⟩⟩<;>rcases ts with _|⟨t,_|⟨u,ts⟩⟩<;>simp only<;>try rfl
    cases b4L P t x<;>rfl
   case min=>simp only;cases a0g false as<;>rfl
   case max=>simp only;cases a0g true as<;>rfl
theorem a5O{F:FW}{r:Option (AV×AHeap)}{K:AV→AHeap→Prop}(h:a0y r K):a7f F (r.map fun x=>P0.val x.1 x.2) K:=by cases r<;>exact h
theorem b5h{F:FW}{r:Option AHeap}{K:AV→AHeap→Prop}(h:a8 r fun H'=>K o5 H'):a7f F (r.map fun H'=>P0.val o5 H') K:=by cases r<;>exact h
theorem b7z{F:FW}{T:List AV}{H:AHeap}{o:Oper}{K:AV→AHeap→Prop}(hk:l7 P o≤1)(h:a8 (opV P E T H o) fun v=>K v H):a7f F (N4 P E T H o) K:=by
 rw[←c1G hk]at h
 cases hr:N4 P E T H o with
 |none=>rw[hr]at h;exact h.elim
 |some r=>
  rw[hr]at h
  cases r with
  |val v H1=>
   have:=b1K hk hr
   subst this
   exact h
  |call f args H1=>exact h.elim
def a9m(o:Oper):Bool:=match o.op with
 | .range .. | .next .. | .entry _=>true
 |_=>false
theorem c4o{F:FW}{T:List AV}{H:AHeap}{o:Oper}{K:AV→AHeap→Prop}(hi:a9m o=false)(h:opW P E F T H o K):a7f F (N4 P E T H o) K:=by
 by_cases hk:l7 P o≤1
 ·refine b7z hk ?_
  obtain⟨dst,op,type,pos,after,guard⟩:=o
  cases op<;>simp only[a9m]at hi<;>(try (cases hi;done))<;>simp only[opW]at h<;>try (first|exact h|(simp only[l7]at hk;omega))
  case convert src dst x=>
   simp only[opV]
   have hr:∀v H1,F6 P E H src dst (b9 T x)=some (v,H1)→H1=H:=by
    intro v H1 e
    refine b1K (P:=P) (E:=E) (T:=T) (v:=v) hk ?_
    simp only[N4,e];rfl
   cases hc:F6 P E H src dst (b9 T x) with
   |none=>rw[hc]at h;exact h
   |some r=>
    obtain⟨v,H1⟩:=r
    rw[hc]at h
    have:=hr v H1 hc
    subst this
    exact h
  case call c=>
   cases hc:c.callee with
   |value f=>simp only[l7,hc]at hk;omega
   |invoke r m=>simp only[l7,hc]at hk;omega
   |builtin b=>
    simp only[l7,hc]at hk
    simp only[hc]at h
    cases b<;>simp at hk<;>exact h
 ·obtain⟨dst,op,type,pos,after,guard⟩:=o
  cases op<;>simp only[a9m]at hi<;>(try (cases hi;done))<;>simp only[opW]at h<;>try ((simp only[l7]at hk;omega))
  all_goals try (simp only[opV]at h;exact h.elim)
  case alloc e=>
   simp only[N4]
   cases hz:D2 P e with
   |none=>rw[hz]at h;exact h.elim
   |some z=>rw[hz]at h;exact h
  case box e x=>exact h
  case buildSlice t n ps=>exact a5O h
  case insert t m k x=>exact b5h h
  case store t a x=>
   simp only[N4]
   cases ha:b9 T a<;>simp only[ha,b4M]at h ⊢
   split at h
   ·rename_i hs
    rw[if_pos hs];exact b5h h
   ·exact h.elim
  case convert src dst x=>exact a5O h
  case makeMap t r=>
   simp only[N4]
   cases r with
   |none=>exact h
   |some x=>exact h.elim
  case makeSlice t l c=>exact a5O h
  case mapUpdate t m k x=>exact b5h h
  case mapEntry t m k=>exact a5O h
  case entryStore t m s x=>exact b5h h
  case call c=>
   simp only[N4]
   unfold K9
   cases hc:c.callee with
   |value f=>
    simp only[hc]at h ⊢
    cases f with
    |func g=>
     simp only[b9,F9]at h ⊢
     split at h
     ·rename_i hb;rw[if_pos hb];simp only[List.nil_append,List.append_nil];exact h
     ·exact h.elim
    |tmp t=>unfold a8L at h;exact h
    |const v=>unfold a8L at h;exact h
    |global g=>unfold a8L at h;exact h
   |invoke r m=>
    simp only[hc]at h ⊢
    exact h
   |builtin b=>
    simp only[l7,hc]at hk
    simp only[hc]at h ⊢
    generalize c.args.toList.map (b9 T)=as at h ⊢
    generalize c.argTypes.toList=ts at h ⊢
    simp only[opV,hc]at h
    cases b<;>simp at hk
    case append=>
     rcases as with _|⟨s,_|⟨x,_|⟨y,as⟩⟩⟩<;>rcases ts with _|⟨sT,_|⟨xT,_|⟨u,ts⟩⟩⟩<;>first|exact a5O h|exact h.elim
    case copy=>
     rcases as with _|⟨s,_|⟨x,_|⟨y,as⟩⟩⟩<;>rcases ts with _|⟨sT,ts⟩<;>first|exact a5O h|exact h.elim
    all_goals exact h.elim
theorem b1G{o:Oper}{x:Operand}(h:a5A o=some x):l7 P o=0∧∀(ops:Array Oper) (T:List AV) (H:AHeap),b8S P E ops T H o=some (b9 T x):=by
 obtain⟨dst,op,type,pos,after,guard⟩:=o
 unfold a5A at h
 cases guard with
 |some g=>cases h
 |none=>
  cases op<;>first|(cases h;done)|(cases h;exact⟨rfl,fun _ _ _=>rfl⟩)
theorem c0L{F:FW}{T:List AV}{H:AHeap}{o:Oper}{K:AV→AHeap→Prop}(hi:a9m o=true)(h:opW P E F T H o K):N4 P E T H o=none∧a4h P T H o K:=by
 obtain⟨dst,op,type,pos,after,guard⟩:=o
 cases op<;>simp only[a9m]at hi<;>(try (cases hi;done))
 case range t x=>exact⟨rfl,h⟩
 case next it s=>exact⟨rfl,h⟩
 case entry it=>exact⟨rfl,h⟩
theorem b9t{ops:Array Oper}{T:List AV}{H:AHeap}{o:Oper}{K:AV→AHeap→Prop}(h:b1g P E (FnW P E w0) ops T H o K):Y3 P E w0 ops T H o K:=by
 have key:∀ {r:Option P0},a7f (FnW P E w0) r K→b3t P E w0 T H o r K:=fun{r} h=>by
  cases r with
  |none=>exact h.elim
  |some r=>cases r<;>exact h
 unfold b1g at h
 unfold Y3
 generalize M9 ops T o=g at h ⊢
 cases g with
 |none=>exact h
 |some b=>cases b with
  |true=>
   show b3t P E w0 T H o (N4 P E T H o) K
   by_cases hi:a9m o=true
   ·obtain⟨h1,h2⟩:=c0L hi h
    rw[h1]
    exact .inr h2
   ·exact key (c4o (by simpa using hi) h)
  |false=>exact h
theorem a8g{ops:Array Oper}{T:List AV}{H:AHeap}{o:Oper}(hk:l7 P o≤1):a7e P E ops T H o=b8S P E ops T H o:=by
 unfold a7e b8S
 rw[c1G hk]
theorem a9w{ops:Array Oper}:∀ {l:List Oper} {T:List AV} {H:AHeap} {Q Q':List AV→AHeap→Prop},(∀T H,Q T H→Q' T H)→a8U P E w0 ops l T H Q→a8U P E w0 ops l T H Q'
 | [],T,H,Q,Q',hq,h=>hq _ _ h
 |o::l,T,H,Q,Q',hq,h=>by
  rw[a8U]at*
  split at h
  ·rename_i hk
   rw[if_pos hk]
   obtain⟨v,h1,h2⟩:=h
   exact⟨v,h1,a9w hq h2⟩
  ·rename_i hk
   rw[if_neg hk]
   exact V9 h fun v H' h'=>a9w hq h'
theorem a8c{ops:Array Oper}:∀ {l:List Oper} {T:List AV} {H:AHeap} {Q:List AV→AHeap→Prop},a8U P E w0 ops l T H Q→b4R P E w0 ops l T H Q
 | [],T,H,Q,h=>h
 |o::l,T,H,Q,h=>by
  rw[a8U]at h
  split at h
  ·rename_i hk
   obtain⟨v,h1,h2⟩:=h
   exact V9 (b3a hk h1) fun v' H' e=>by obtain⟨rfl,rfl⟩:=e;exact a8c h2
  ·exact V9 h fun v H' h'=>a8c h'
def j4:List Nat→Code→Code
 | [],c=>c
 |n::l,c=>match c with
  | .seq a b| .cond _ a b=>if n=0 then j4 l a else j4 l b
  | .block _ a| .loop a=>j4 l a
  |c=>c
end
end Go.Am
end
