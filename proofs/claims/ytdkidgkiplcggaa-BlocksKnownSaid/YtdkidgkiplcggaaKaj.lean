/-
  BlocksKnownSaid: part Kaj of its proof.
-/
import Derived.Test.YtdkidgkiplcggaaKai
set_option linter.unusedVariables false
set_option linter.unusedSimpArgs false
set_option maxRecDepth 100000
section
namespace Go.Am
def a0q(r:Option (AV×AHeap))(K:AV→AHeap→Prop):Prop:=match r with
 |some (v,H')=>K v H'
 |none=>False
def b8Q(c a b:AV):Option AV:=match c with
 | .bool t=>some (if t then a else b)
 |_=>none
def c0b(x:AV):Option AV:=match x with
 | .nilPtr| .nilIfc| .nilFn| .opq _=>none
 | .fn (.method _) _ _=>none
 |y=>some y
def a7J(x:AV)(ix:Nat):Option AV:=match x with
 | .tup vs=>vs[ix]?
 |_=>none
section
variable(P:Program)(E:c9)
def b8M(H:AHeap)(t:TypeId)(a:AV):Option AV:=match a with
 | .ptr o i=>D3 P E H t o i
 |_=>none
def b5I(t:TypeId)(x:AV):Option AV:=match P.underlying t with
 |some (.interface _)=>none
 |some _=>some (.ifc t x)
 |none=>none
def b8m(H:AHeap)(t:TypeId)(x:AV):Option AV:=match a6F P t x with
 |some n=>some (.int .i64 n)
 |none=>(a0c P H t x).map fun(n:Nat)=> .int .i64 n
def b8i(op:BinOp)(t:TypeId)(x y:Operand)(a b:AV):Option AV:=if U1 P op t x y a b then a6Q P op t a b else none
def opV(T:List AV)(H:AHeap)(o:Oper):Option AV:=
 match o.op with
 | .move x| .assign x=>some (b8 T x)
 | .pick c a b=>b8Q (b8 T c) (b8 T a) (b8 T b)
 | .build t parts=>a4y P t (parts.toList.map fun p=>(p.1,b8 T p.2))
 | .load t a=>b8M P E H t (b8 T a)
 | .nilCheck x=>c0b (b8 T x)
 | .binOp op t x y _=>b8i P op t x y (b8 T x) (b8 T y)
 | .unOp op _ x=>unA op (b8 T x)
 | .convert src dst x=>(E3 P E H src dst (b8 T x)).map (·.1)
 | .makeInterface t x=>b5I P t (b8 T x)
 | .makeFunc fn first captured=>some (.fn fn (first.toList.map (b8 T)) (captured.toList.map (b8 T)))
 | .slice t x lo hi mx=>U7 P H t (b8 T x) (lo.map (b8 T)) (hi.map (b8 T)) (mx.map (b8 T))
 | .fieldAddr s x f=>a1n P s (b8 T x) f
 | .field s x f=>a6A P s (b8 T x) f
 | .indexAddr t x ix=>U5 P t (b8 T x) (b8 T ix)
 | .index t x ix=>a4x P t (b8 T x) (b8 T ix)
 | .lookup t x ix ok=>W4 P H t (b8 T x) (b8 T ix) ok
 | .typeAssert x _ asserted ok=>a3n P (b8 T x) asserted ok
 | .extract t ix=>a7J (b8 T t) ix
 | .call c=>match c.callee with
  | .builtin b=>match b,c.args.toList.map (b8 T),c.argTypes.toList with
   | .len,[x],[t]=>b8m P H t x
   | .cap,[x],[t]=>(b4D P t x).map fun(n:Nat)=> .int .i64 n
   | .min,l,_=>a0h false l
   | .max,l,_=>a0h true l
   |_,_,_=>none
  |_=>none
 |_=>none
abbrev FW:=FuncId→List AV→AHeap→(AV→AHeap→Prop)→Prop
def a7g(F:FW)(r:Option O0)(K:AV→AHeap→Prop):Prop:=match r with
 |some (.val v H')=>K v H'
 |some (.call f args H')=>F f args H' K
 |none=>False
def a8F(H:AHeap)(f:AV)(args:List AV):Option O0:=match f with
 | .fn (.func g) first captured=>F3 P H g (first++args++captured)
 | .fn (.method name) first captured=>match captured,first++args with
  | [], .ifc t v::rest=>(Q5 P E H t v name).bind fun(g,r)=>F3 P H g (r::rest)
  |_,_=>none
 | .fn (.via t path g pointer) first captured=>match captured,path.toList,first++args,P.underlying t with
  | [],[],x::rest,some (.pointer _)=>if pointer then F3 P H g (x::rest) else none
  |_,_,_,_=>none
 |_=>none
def b8V(H:AHeap)(r:AV)(name:String)(args:List AV):Option O0:=match r with
 | .ifc t v=>(Q5 P E H t v name).bind fun(g,r)=>F3 P H g (r::args)
 |_=>none
def b5a(H:AHeap)(t:TypeId)(a x:AV)(K:AV→AHeap→Prop):Prop:=match a with
 | .ptr o i=>if s5 P t=some x.cells.length then b4 (r7 H o i x.cells) fun H'=>K o4 H' else False
 |_=>False
def opW(F:FW)(T:List AV)(H:AHeap)(o:Oper)(K:AV→AHeap→Prop):Prop:=
 match o.op with
 | .alloc e=>b4 (D1 P e) fun z=>K (.ptr (.new H.next) 0) (newCells H z.cells)
 | .box _ x=>K (.ptr (.new H.next) 0) (newCells H (b8 T x).cells)
 | .buildSlice t len parts=>a0q (D9 P H t len (parts.toList.map fun p=>(p.1,b8 T p.2))) K
 | .store t a x=>b5a P H t (b8 T a) (b8 T x) K
 | .convert src dst x=>a0q (E3 P E H src dst (b8 T x)) K
 | .makeMap _ r=>match r with
  |none=>K (.map H.next) (H.new (.map [] 0))
  |some _=>False
 | .makeSlice t l c=>a0q (E5 P H t (b8 T l) (b8 T c)) K
 | .mapUpdate t m k x| .insert t m k x=>b4 (J8 P H t (b8 T m) (b8 T k) (b8 T x)) fun H'=>K o4 H'
 | .mapEntry t m k=>a0q (a0A P H t (b8 T m) (b8 T k)) K
 | .entryStore _ m s x=>b4 (A5 H (b8 T m) (b8 T s) (b8 T x)) fun H'=>K o4 H'
 | .range t x=>a4C P H t (b8 T x) K
 | .next it s=>b3J s H (b8 T it) K
 | .entry it=>a4O H (b8 T it) K
 | .call c=>match c.callee with
  | .value (.func g)=>if a1y P g then F g (c.args.toList.map (b8 T)) H K else False
  | .value f=>a7g F (a8F P E H (b8 T f) (c.args.toList.map (b8 T))) K
  | .invoke r name=>a7g F (b8V P E H (b8 T r) name (c.args.toList.map (b8 T))) K
  | .builtin b=>match b,c.args.toList.map (b8 T),c.argTypes.toList with
   | .append,[s,x],[sT,xT]=>a0q (P5 P E H sT s xT x) K
   | .copy,[d,x],dT::_=>a0q (a5o P E H dT d x) K
   |_,_,_=>b4 (opV P E T H o) fun v=>K v H
 |_=>b4 (opV P E T H o) fun v=>K v H
end
section
variable(P:Program)(E:c9)(w0:a2x)
def b2q(F:FW)(ops:Array Oper)(T:List AV)(H:AHeap)(o:Oper)(K:AV→AHeap→Prop):Prop:=a2t (M9 ops T o) (opW P E F T H o) H K
def b8A(ops:Array Oper)(T:List AV)(H:AHeap)(o:Oper):Option AV:=b7x (M9 ops T o) (opV P E T H o)
def a5y(o:Oper):Option Operand:=match o.guard with
 |none=>match o.op with
  | .move x| .assign x=>some x
  |_=>none
 |some _=>none
def a8x(ops:Array Oper):List Oper→List AV→AHeap→(List AV→AHeap→Prop)→Prop
 | [],T,H,Q=>Q T H
 |o::l,T,H,Q=>if j9 P o≤1 then ∃v,a6Y P E ops T H o=some v∧a8x ops l (W0 T o.dst v) H Q else X9 P E w0 ops T H o fun v H'=>a8x ops l (W0 T o.dst v) H' Q
end
section
variable{P:Program}{E:c9}{w0:a2x}
theorem b0G{r:Option AV}{H:AHeap}:b3D (r.map fun x=>O0.val x H)=r:=by cases r<;>rfl
theorem c1l{T:List AV}{H:AHeap}{o:Oper}(hk:j9 P o≤1):b3D (N4 P E T H o)=opV P E T H o:=by
 obtain⟨dst,op,type,pos,after,guard⟩:=o
 cases op<;>simp only[N4,opV]<;>try (first|rfl|exact b0G|(simp only[j9]at hk;omega))
 case pick c a b=>unfold b8Q;cases b8 T c<;>rfl
 case load t a=>
  unfold b8M
  cases b8 T a<;>first|rfl|exact b0G
 case nilCheck x=>unfold c0b;split<;>simp_all [b3D]
 case binOp op t x y yt=>
  unfold b8i
  split
  ·exact b0G
  ·rfl
 case convert src dst x=>cases E3 P E H src dst (b8 T x)<;>rfl
 case makeInterface t x=>
  unfold b5I
  cases P.underlying t with
  |none=>rfl
  |some d=>cases d<;>rfl
 case extract t ix=>
  unfold a7J
  cases b8 T t<;>first|rfl|exact b0G
 case call c=>
  unfold K4
  cases hc:c.callee with
  |value f=>simp only[j9,hc]at hk;omega
  |invoke r m=>simp only[j9,hc]at hk;omega
  |builtin b=>
   simp only[j9,hc]at hk
   generalize c.args.toList.map (b8 T)=as
   generalize c.argTypes.toList=ts
   cases b<;>simp at hk
   case len=>
    simp only[b8m]
    rcases as with _|⟨x,_|⟨y,as⟩⟩<;>rcases ts with _|⟨t,_|⟨u,ts⟩⟩<;>simp only<;>try rfl
    cases a6F P t x
    ·exact(by cases a0c P H t x<;>rfl)
    ·rfl
   case cap=>
    rcases as with _|⟨x,_|⟨y,as⟩⟩<;>rcases ts with _|⟨t,_|⟨u,ts⟩⟩<;>simp only<;>try rfl
    cases b4D P t x<;>rfl
   case min=>simp only;cases a0h false as<;>rfl
   case max=>simp only;cases a0h true as<;>rfl
theorem a5D{F:FW}{r:Option (AV×AHeap)}{K:AV→AHeap→Prop}(h:a0q r K):a7g F (r.map fun x=>O0.val x.1 x.2) K:=by cases r<;>exact h
theorem b4L{F:FW}{r:Option AHeap}{K:AV→AHeap→Prop}(h:b4 r fun H'=>K o4 H'):a7g F (r.map fun H'=>O0.val o4 H') K:=by cases r<;>exact h
theorem b6Z{F:FW}{T:List AV}{H:AHeap}{o:Oper}{K:AV→AHeap→Prop}(hk:j9 P o≤1)(h:b4 (opV P E T H o) fun v=>K v H):a7g F (N4 P E T H o) K:=by
 rw[←c1l hk]at h
 cases hr:N4 P E T H o with
 |none=>rw[hr]at h;exact h.elim
 |some r=>
  rw[hr]at h
  cases r with
  |val v H1=>
   have:=b2b hk hr
   subst this
   exact h
  |call f args H1=>exact h.elim
def a9g(o:Oper):Bool:=match o.op with
 | .range .. | .next .. | .entry _=>true
 |_=>false
theorem c3H{F:FW}{T:List AV}{H:AHeap}{o:Oper}{K:AV→AHeap→Prop}(hi:a9g o=false)(h:opW P E F T H o K):a7g F (N4 P E T H o) K:=by
 by_cases hk:j9 P o≤1
 ·refine b6Z hk ?_
  obtain⟨dst,op,type,pos,after,guard⟩:=o
  cases op<;>simp only[a9g]at hi<;>(try (cases hi;done))<;>simp only[opW]at h<;>try (first|exact h|(simp only[j9]at hk;omega))
  case convert src dst x=>
   simp only[opV]
   have hr:∀v H1,E3 P E H src dst (b8 T x)=some (v,H1)→H1=H:=by
    intro v H1 e
    refine b2b (P:=P) (E:=E) (T:=T) (v:=v) hk ?_
    simp only[N4,e];rfl
   cases hc:E3 P E H src dst (b8 T x) with
   |none=>rw[hc]at h;exact h
   |some r=>
    obtain⟨v,H1⟩:=r
    rw[hc]at h
    have:=hr v H1 hc
    subst this
    exact h
  case call c=>
   cases hc:c.callee with
   |value f=>simp only[j9,hc]at hk;omega
   |invoke r m=>simp only[j9,hc]at hk;omega
   |builtin b=>
    simp only[j9,hc]at hk
    simp only[hc]at h
    cases b<;>simp at hk<;>exact h
 ·obtain⟨dst,op,type,pos,after,guard⟩:=o
  cases op<;>simp only[a9g]at hi<;>(try (cases hi;done))<;>simp only[opW]at h<;>try ((simp only[j9]at hk;omega))
  all_goals try (simp only[opV]at h;exact h.elim)
  case alloc e=>
   simp only[N4]
   cases hz:D1 P e with
   |none=>rw[hz]at h;exact h.elim
   |some z=>rw[hz]at h;exact h
  case box e x=>exact h
  case buildSlice t n ps=>exact a5D h
  case insert t m k x=>exact b4L h
  case store t a x=>
   simp only[N4]
   cases ha:b8 T a<;>simp only[ha,b5a]at h ⊢
   split at h
   ·rename_i hs
    rw[if_pos hs];exact b4L h
   ·exact h.elim
  case convert src dst x=>exact a5D h
  case makeMap t r=>
   simp only[N4]
   cases r with
   |none=>exact h
   |some x=>exact h.elim
  case makeSlice t l c=>exact a5D h
  case mapUpdate t m k x=>exact b4L h
  case mapEntry t m k=>exact a5D h
  case entryStore t m s x=>exact b4L h
  case call c=>
   simp only[N4]
   unfold K4
   cases hc:c.callee with
   |value f=>
    simp only[hc]at h ⊢
    cases f with
    |func g=>
     simp only[b8,F3]at h ⊢
     split at h
     ·rename_i hb;rw[if_pos hb];simp only[List.nil_append,List.append_nil];exact h
     ·exact h.elim
    |tmp t=>unfold a8F at h;exact h
    |const v=>unfold a8F at h;exact h
    |global g=>unfold a8F at h;exact h
   |invoke r m=>
    simp only[hc]at h ⊢
    exact h
   |builtin b=>
    simp only[j9,hc]at hk
    simp only[hc]at h ⊢
    generalize c.args.toList.map (b8 T)=as at h ⊢
    generalize c.argTypes.toList=ts at h ⊢
    simp only[opV,hc]at h
    cases b<;>simp at hk
    case append=>
     rcases as with _|⟨s,_|⟨x,_|⟨y,as⟩⟩⟩<;>rcases ts with _|⟨sT,_|⟨xT,_|⟨u,ts⟩⟩⟩<;>first|exact a5D h|exact h.elim
    case copy=>
     rcases as with _|⟨s,_|⟨x,_|⟨y,as⟩⟩⟩<;>rcases ts with _|⟨sT,ts⟩<;>first|exact a5D h|exact h.elim
    all_goals exact h.elim
theorem b2c{o:Oper}{x:Operand}(h:a5y o=some x):j9 P o=0∧∀(ops:Array Oper) (T:List AV) (H:AHeap),b8A P E ops T H o=some (b8 T x):=by
 obtain⟨dst,op,type,pos,after,guard⟩:=o
 unfold a5y at h
 cases guard with
 |some g=>cases h
 |none=>
  cases op<;>first|(cases h;done)|(cases h;exact⟨rfl,fun _ _ _=>rfl⟩)
theorem c0q{F:FW}{T:List AV}{H:AHeap}{o:Oper}{K:AV→AHeap→Prop}(hi:a9g o=true)(h:opW P E F T H o K):N4 P E T H o=none∧a3W P T H o K:=by
 obtain⟨dst,op,type,pos,after,guard⟩:=o
 cases op<;>simp only[a9g]at hi<;>(try (cases hi;done))
 case range t x=>exact⟨rfl,h⟩
 case next it s=>exact⟨rfl,h⟩
 case entry it=>exact⟨rfl,h⟩
theorem b8J{ops:Array Oper}{T:List AV}{H:AHeap}{o:Oper}{K:AV→AHeap→Prop}(h:b2q P E (FnW P E w0) ops T H o K):X9 P E w0 ops T H o K:=by
 have key:∀ {r:Option O0},a7g (FnW P E w0) r K→b3h P E w0 T H o r K:=fun{r} h=>by
  cases r with
  |none=>exact h.elim
  |some r=>cases r<;>exact h
 unfold b2q at h
 unfold X9
 generalize M9 ops T o=g at h ⊢
 cases g with
 |none=>exact h
 |some b=>cases b with
  |true=>
   show b3h P E w0 T H o (N4 P E T H o) K
   by_cases hi:a9g o=true
   ·obtain⟨h1,h2⟩:=c0q hi h
    rw[h1]
    exact .inr h2
   ·exact key (c3H (by simpa using hi) h)
  |false=>exact h
theorem a7n{ops:Array Oper}{T:List AV}{H:AHeap}{o:Oper}(hk:j9 P o≤1):a6Y P E ops T H o=b8A P E ops T H o:=by
 unfold a6Y b8A
 rw[c1l hk]
theorem a8I{ops:Array Oper}:∀ {l:List Oper} {T:List AV} {H:AHeap} {Q Q':List AV→AHeap→Prop},(∀T H,Q T H→Q' T H)→a8x P E w0 ops l T H Q→a8x P E w0 ops l T H Q'
 | [],T,H,Q,Q',hq,h=>hq _ _ h
 |o::l,T,H,Q,Q',hq,h=>by
  rw[a8x]at*
  split at h
  ·rename_i hk
   rw[if_pos hk]
   obtain⟨v,h1,h2⟩:=h
   exact⟨v,h1,a8I hq h2⟩
  ·rename_i hk
   rw[if_neg hk]
   exact V0 h fun v H' h'=>a8I hq h'
theorem a7R{ops:Array Oper}:∀ {l:List Oper} {T:List AV} {H:AHeap} {Q:List AV→AHeap→Prop},a8x P E w0 ops l T H Q→b4T P E w0 ops l T H Q
 | [],T,H,Q,h=>h
 |o::l,T,H,Q,h=>by
  rw[a8x]at h
  split at h
  ·rename_i hk
   obtain⟨v,h1,h2⟩:=h
   exact V0 (b2i hk h1) fun v' H' e=>by obtain⟨rfl,rfl⟩:=e;exact a7R h2
  ·exact V0 h fun v H' h'=>a7R h'
def i5:List Nat→Code→Code
 | [],c=>c
 |n::l,c=>match c with
  | .seq a b| .cond _ a b=>if n=0 then i5 l a else i5 l b
  | .block _ a| .loop a=>i5 l a
  |c=>c
end
end Go.Am
end
