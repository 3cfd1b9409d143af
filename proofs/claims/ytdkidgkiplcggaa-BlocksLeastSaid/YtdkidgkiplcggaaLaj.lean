/-
  BlocksLeastSaid: part Laj of its proof.
-/
import Derived.Test.YtdkidgkiplcggaaLai
set_option linter.unusedVariables false
set_option linter.unusedSimpArgs false
set_option maxRecDepth 100000
section
namespace Go.Am
def a0B(r:Option (AV×AHeap))(K:AV→AHeap→Prop):Prop:=match r with
 |some (v,H')=>K v H'
 |none=>False
def b9f(c a b:AV):Option AV:=match c with
 | .bool t=>some (if t then a else b)
 |_=>none
def b9M(x:AV):Option AV:=match x with
 | .nilPtr| .nilIfc| .nilFn| .opq _=>none
 | .fn (.method _) _ _=>none
 |y=>some y
def a7V(x:AV)(ix:Nat):Option AV:=match x with
 | .tup vs=>vs[ix]?
 |_=>none
section
variable(P:Program)(E:d6)
def b8v(H:AHeap)(t:TypeId)(a:AV):Option AV:=match a with
 | .ptr o i=>D4 P E H t o i
 |_=>none
def b5j(t:TypeId)(x:AV):Option AV:=match P.underlying t with
 |some (.interface _)=>none
 |some _=>some (.ifc t x)
 |none=>none
def b8k(H:AHeap)(t:TypeId)(x:AV):Option AV:=match a6Y P t x with
 |some n=>some (.int .i64 n)
 |none=>(a0j P H t x).map fun(n:Nat)=> .int .i64 n
def b7D(op:BinOp)(t:TypeId)(x y:Operand)(a b:AV):Option AV:=if U6 P op t x y a b then a6J P op t a b else none
def opV(T:List AV)(H:AHeap)(o:Oper):Option AV:=
 match o.op with
 | .move x| .assign x=>some (b8 T x)
 | .pick c a b=>b9f (b8 T c) (b8 T a) (b8 T b)
 | .build t parts=>a4s P t (parts.toList.map fun p=>(p.1,b8 T p.2))
 | .load t a=>b8v P E H t (b8 T a)
 | .nilCheck x=>b9M (b8 T x)
 | .binOp op t x y _=>b7D P op t x y (b8 T x) (b8 T y)
 | .unOp op _ x=>unA op (b8 T x)
 | .convert src dst x=>(E1 P E H src dst (b8 T x)).map (·.1)
 | .makeInterface t x=>b5j P t (b8 T x)
 | .makeFunc fn first captured=>some (.fn fn (first.toList.map (b8 T)) (captured.toList.map (b8 T)))
 | .slice t x lo hi mx=>W4 P H t (b8 T x) (lo.map (b8 T)) (hi.map (b8 T)) (mx.map (b8 T))
 | .fieldAddr s x f=>a1r P s (b8 T x) f
 | .field s x f=>a7a P s (b8 T x) f
 | .indexAddr t x ix=>U7 P t (b8 T x) (b8 T ix)
 | .index t x ix=>a4N P t (b8 T x) (b8 T ix)
 | .lookup t x ix ok=>Y3 P H t (b8 T x) (b8 T ix) ok
 | .typeAssert x _ asserted ok=>a3C P (b8 T x) asserted ok
 | .extract t ix=>a7V (b8 T t) ix
 | .call c=>match c.callee with
  | .builtin b=>match b,c.args.toList.map (b8 T),c.argTypes.toList with
   | .len,[x],[t]=>b8k P H t x
   | .cap,[x],[t]=>(b4n P t x).map fun(n:Nat)=> .int .i64 n
   | .min,l,_=>a0r false l
   | .max,l,_=>a0r true l
   |_,_,_=>none
  |_=>none
 |_=>none
abbrev FW:=FuncId→List AV→AHeap→(AV→AHeap→Prop)→Prop
def a6K(F:FW)(r:Option P1)(K:AV→AHeap→Prop):Prop:=match r with
 |some (.val v H')=>K v H'
 |some (.call f args H')=>F f args H' K
 |none=>False
def a9g(H:AHeap)(f:AV)(args:List AV):Option P1:=match f with
 | .fn (.func g) first captured=>F6 P H g (first++args++captured)
 | .fn (.method name) first captured=>match captured,first++args with
  | [], .ifc t v::rest=>(Q8 P E H t v name).bind fun(g,r)=>F6 P H g (r::rest)
  |_,_=>none
 | .fn (.via t path g pointer) first captured=>match captured,path.toList,first++args,P.underlying t with
  | [],[],x::rest,some (.pointer _)=>if pointer then F6 P H g (x::rest) else none
  |_,_,_,_=>none
 |_=>none
def b8H(H:AHeap)(r:AV)(name:String)(args:List AV):Option P1:=match r with
 | .ifc t v=>(Q8 P E H t v name).bind fun(g,r)=>F6 P H g (r::args)
 |_=>none
def b4s(H:AHeap)(t:TypeId)(a x:AV)(K:AV→AHeap→Prop):Prop:=match a with
 | .ptr o i=>if s7 P t=some x.cells.length then a8 (r6 H o i x.cells) fun H'=>K o5 H' else False
 |_=>False
def opW(F:FW)(T:List AV)(H:AHeap)(o:Oper)(K:AV→AHeap→Prop):Prop:=
 match o.op with
 | .alloc e=>a8 (C7 P e) fun z=>K (.ptr (.new H.next) 0) (newCells H z.cells)
 | .box _ x=>K (.ptr (.new H.next) 0) (newCells H (b8 T x).cells)
 | .buildSlice t len parts=>a0B (E0 P H t len (parts.toList.map fun p=>(p.1,b8 T p.2))) K
 | .store t a x=>b4s P H t (b8 T a) (b8 T x) K
 | .convert src dst x=>a0B (E1 P E H src dst (b8 T x)) K
 | .makeMap _ r=>match r with
  |none=>K (.map H.next) (H.new (.map [] 0))
  |some _=>False
 | .makeSlice t l c=>a0B (E2 P H t (b8 T l) (b8 T c)) K
 | .mapUpdate t m k x| .insert t m k x=>a8 (J3 P H t (b8 T m) (b8 T k) (b8 T x)) fun H'=>K o5 H'
 | .mapEntry t m k=>a0B (a0D P H t (b8 T m) (b8 T k)) K
 | .entryStore _ m s x=>a8 (A5 H (b8 T m) (b8 T s) (b8 T x)) fun H'=>K o5 H'
 | .range t x=>a4Y P H t (b8 T x) K
 | .next it s=>b3t s H (b8 T it) K
 | .entry it=>a4O H (b8 T it) K
 | .call c=>match c.callee with
  | .value (.func g)=>if a1q P g then F g (c.args.toList.map (b8 T)) H K else False
  | .value f=>a6K F (a9g P E H (b8 T f) (c.args.toList.map (b8 T))) K
  | .invoke r name=>a6K F (b8H P E H (b8 T r) name (c.args.toList.map (b8 T))) K
  | .builtin b=>match b,c.args.toList.map (b8 T),c.argTypes.toList with
   | .append,[s,x],[sT,xT]=>a0B (Q7 P E H sT s xT x) K
   | .copy,[d,x],dT::_=>a0B (a4y P E H dT d x) K
   |_,_,_=>a8 (opV P E T H o) fun v=>K v H
 |_=>a8 (opV P E T H o) fun v=>K v H
end
section
variable(P:Program)(E:d6)(w0:a2J)
def b1Z(F:FW)(ops:Array Oper)(T:List AV)(H:AHeap)(o:Oper)(K:AV→AHeap→Prop):Prop:=a3w (N6 ops T o) (opW P E F T H o) H K
def b8d(ops:Array Oper)(T:List AV)(H:AHeap)(o:Oper):Option AV:=b7y (N6 ops T o) (opV P E T H o)
def a5w(o:Oper):Option Operand:=match o.guard with
 |none=>match o.op with
  | .move x| .assign x=>some x
  |_=>none
 |some _=>none
def a8H(ops:Array Oper):List Oper→List AV→AHeap→(List AV→AHeap→Prop)→Prop
 | [],T,H,Q=>Q T H
 |o::l,T,H,Q=>if l9 P o≤1 then ∃v,a7g P E ops T H o=some v∧a8H ops l (X5 T o.dst v) H Q else Y7 P E w0 ops T H o fun v H'=>a8H ops l (X5 T o.dst v) H' Q
end
section
variable{P:Program}{E:d6}{w0:a2J}
theorem b0O{r:Option AV}{H:AHeap}:b4g (r.map fun x=>P1.val x H)=r:=by cases r<;>rfl
theorem c0W{T:List AV}{H:AHeap}{o:Oper}(hk:l9 P o≤1):b4g (O3 P E T H o)=opV P E T H o:=by
 obtain⟨dst,op,type,pos,after,guard⟩:=o
 cases op<;>simp only[O3,opV]<;>try (first|rfl|exact b0O|(simp only[l9]at hk;omega))
 case pick c a b=>unfold b9f;cases b8 T c<;>rfl
 case load t a=>
  unfold b8v
  cases b8 T a<;>first|rfl|exact b0O
 case nilCheck x=>unfold b9M;split<;>simp_all [b4g]
 case binOp op t x y yt=>
  unfold b7D
  split
  ·exact b0O
  ·rfl
 case convert src dst x=>cases E1 P E H src dst (b8 T x)<;>rfl
 case makeInterface t x=>
  unfold b5j
  cases P.underlying t with
  |none=>rfl
  |some d=>cases d<;>rfl
 case extract t ix=>
  unfold a7V
  cases b8 T t<;>first|rfl|exact b0O
 case call c=>
  unfold K1
  cases hc:c.callee with
  |value f=>simp only[l9,hc]at hk;omega
  |invoke r m=>simp only[l9,hc]at hk;omega
  |builtin b=>
   simp only[l9,hc]at hk
   generalize c.args.toList.map (b8 T)=as
   generalize c.argTypes.toList=ts
   cases b<;>simp at hk
   case len=>
    simp only[b8k]
    rcases as with _|⟨x,_|⟨y,as⟩⟩<;>rcases ts with _|⟨t,_|⟨u,ts⟩⟩<;>simp only<;>try rfl
    cases a6Y P t x
    ·exact(by cases a0j P H t x<;>rfl)
    ·rfl
   case cap=>
    rcases as with _|⟨x,_|⟨y,as⟩⟩<;>rcases ts with _|⟨t,_|⟨u,ts⟩⟩<;>simp only<;>try rfl
    cases b4n P t x<;>rfl
   case min=>simp only;cases a0r false as<;>rfl
   case max=>simp only;cases a0r true as<;>rfl
theorem a5N{F:FW}{r:Option (AV×AHeap)}{K:AV→AHeap→Prop}(h:a0B r K):a6K F (r.map fun x=>P1.val x.1 x.2) K:=by cases r<;>exact h
theorem b4I{F:FW}{r:Option AHeap}{K:AV→AHeap→Prop}(h:a8 r fun H'=>K o5 H'):a6K F (r.map fun H'=>P1.val o5 H') K:=by cases r<;>exact h
theorem b6A{F:FW}{T:List AV}{H:AHeap}{o:Oper}{K:AV→AHeap→Prop}(hk:l9 P o≤1)(h:a8 (opV P E T H o) fun v=>K v H):a6K F (O3 P E T H o) K:=by
 rw[←c0W hk]at h
 cases hr:O3 P E T H o with
 |none=>rw[hr]at h;exact h.elim
 |some r=>
  rw[hr]at h
  cases r with
  |val v H1=>
   have:=b0W hk hr
   subst this
   exact h
  |call f args H1=>exact h.elim
def a9k(o:Oper):Bool:=match o.op with
 | .range .. | .next .. | .entry _=>true
 |_=>false
theorem c3Q{F:FW}{T:List AV}{H:AHeap}{o:Oper}{K:AV→AHeap→Prop}(hi:a9k o=false)(h:opW P E F T H o K):a6K F (O3 P E T H o) K:=by
 by_cases hk:l9 P o≤1
 ·refine b6A hk ?_
  obtain⟨dst,op,type,pos,after,guard⟩:=o
  cases op<;>simp only[a9k]at hi<;>(try (cases hi;done))<;>simp only[opW]at h<;>try (first|exact h|(simp only[l9]at hk;omega))
  case convert src dst x=>
   simp only[opV]
   have hr:∀v H1,E1 P E H src dst (b8 T x)=some (v,H1)→H1=H:=by
    intro v H1 e
    refine b0W (P:=P) (E:=E) (T:=T) (v:=v) hk ?_
    simp only[O3,e];rfl
   cases hc:E1 P E H src dst (b8 T x) with
   |none=>rw[hc]at h;exact h
   |some r=>
    obtain⟨v,H1⟩:=r
    rw[hc]at h
    have:=hr v H1 hc
    subst this
    exact h
  case call c=>
   cases hc:c.callee with
   |value f=>simp only[l9,hc]at hk;omega
   |invoke r m=>simp only[l9,hc]at hk;omega
   |builtin b=>
    simp only[l9,hc]at hk
    simp only[hc]at h
    cases b<;>simp at hk<;>exact h
 ·obtain⟨dst,op,type,pos,after,guard⟩:=o
  cases op<;>simp only[a9k]at hi<;>(try (cases hi;done))<;>simp only[opW]at h<;>try ((simp only[l9]at hk;omega))
  all_goals try (simp only[opV]at h;exact h.elim)
  case alloc e=>
   simp only[O3]
   cases hz:C7 P e with
   |none=>rw[hz]at h;exact h.elim
   |some z=>rw[hz]at h;exact h
  case box e x=>exact h
  case buildSlice t n ps=>exact a5N h
  case insert t m k x=>exact b4I h
  case store t a x=>
   simp only[O3]
   cases ha:b8 T a<;>simp only[ha,b4s]at h ⊢
   split at h
   ·rename_i hs
    rw[if_pos hs];exact b4I h
   ·exact h.elim
  case convert src dst x=>exact a5N h
  case makeMap t r=>
   simp only[O3]
   cases r with
   |none=>exact h
   |some x=>exact h.elim
  case makeSlice t l c=>exact a5N h
  case mapUpdate t m k x=>exact b4I h
  case mapEntry t m k=>exact a5N h
  case entryStore t m s x=>exact b4I h
  case call c=>
   simp only[O3]
   unfold K1
   cases hc:c.callee with
   |value f=>
    simp only[hc]at h ⊢
    cases f with
    |func g=>
     simp only[b8,F6]at h ⊢
     split at h
     ·rename_i hb;rw[if_pos hb];simp only[List.nil_append,List.append_nil];exact h
     ·exact h.elim
    |tmp t=>unfold a9g at h;exact h
    |const v=>unfold a9g at h;exact h
    |global g=>unfold a9g at h;exact h
   |invoke r m=>
    simp only[hc]at h ⊢
    exact h
   |builtin b=>
    simp only[l9,hc]at hk
    simp only[hc]at h ⊢
    generalize c.args.toList.map (b8 T)=as at h ⊢
    generalize c.argTypes.toList=ts at h ⊢
    simp only[opV,hc]at h
    cases b<;>simp at hk
    case append=>
     rcases as with _|⟨s,_|⟨x,_|⟨y,as⟩⟩⟩<;>rcases ts with _|⟨sT,_|⟨xT,_|⟨u,ts⟩⟩⟩<;>first|exact a5N h|exact h.elim
    case copy=>
     rcases as with _|⟨s,_|⟨x,_|⟨y,as⟩⟩⟩<;>rcases ts with _|⟨sT,ts⟩<;>first|exact a5N h|exact h.elim
    all_goals exact h.elim
theorem b1O{o:Oper}{x:Operand}(h:a5w o=some x):l9 P o=0∧∀(ops:Array Oper) (T:List AV) (H:AHeap),b8d P E ops T H o=some (b8 T x):=by
 obtain⟨dst,op,type,pos,after,guard⟩:=o
 unfold a5w at h
 cases guard with
 |some g=>cases h
 |none=>
  cases op<;>first|(cases h;done)|(cases h;exact⟨rfl,fun _ _ _=>rfl⟩)
theorem b9E{F:FW}{T:List AV}{H:AHeap}{o:Oper}{K:AV→AHeap→Prop}(hi:a9k o=true)(h:opW P E F T H o K):O3 P E T H o=none∧a4c P T H o K:=by
 obtain⟨dst,op,type,pos,after,guard⟩:=o
 cases op<;>simp only[a9k]at hi<;>(try (cases hi;done))
 case range t x=>exact⟨rfl,h⟩
 case next it s=>exact⟨rfl,h⟩
 case entry it=>exact⟨rfl,h⟩
theorem b8R{ops:Array Oper}{T:List AV}{H:AHeap}{o:Oper}{K:AV→AHeap→Prop}(h:b1Z P E (FnW P E w0) ops T H o K):Y7 P E w0 ops T H o K:=by
 have key:∀ {r:Option P1},a6K (FnW P E w0) r K→b2W P E w0 T H o r K:=fun{r} h=>by
  cases r with
  |none=>exact h.elim
  |some r=>cases r<;>exact h
 unfold b1Z at h
 unfold Y7
 generalize N6 ops T o=g at h ⊢
 cases g with
 |none=>exact h
 |some b=>cases b with
  |true=>
   show b2W P E w0 T H o (O3 P E T H o) K
   by_cases hi:a9k o=true
   ·obtain⟨h1,h2⟩:=b9E hi h
    rw[h1]
    exact .inr h2
   ·exact key (c3Q (by simpa using hi) h)
  |false=>exact h
theorem a8g{ops:Array Oper}{T:List AV}{H:AHeap}{o:Oper}(hk:l9 P o≤1):a7g P E ops T H o=b8d P E ops T H o:=by
 unfold a7g b8d
 rw[c0W hk]
theorem a9y{ops:Array Oper}:∀ {l:List Oper} {T:List AV} {H:AHeap} {Q Q':List AV→AHeap→Prop},(∀T H,Q T H→Q' T H)→a8H P E w0 ops l T H Q→a8H P E w0 ops l T H Q'
 | [],T,H,Q,Q',hq,h=>hq _ _ h
 |o::l,T,H,Q,Q',hq,h=>by
  rw[a8H]at*
  split at h
  ·rename_i hk
   rw[if_pos hk]
   obtain⟨v,h1,h2⟩:=h
   exact⟨v,h1,a9y hq h2⟩
  ·rename_i hk
   rw[if_neg hk]
   exact W0 h fun v H' h'=>a9y hq h'
theorem a8l{ops:Array Oper}:∀ {l:List Oper} {T:List AV} {H:AHeap} {Q:List AV→AHeap→Prop},a8H P E w0 ops l T H Q→b5A P E w0 ops l T H Q
 | [],T,H,Q,h=>h
 |o::l,T,H,Q,h=>by
  rw[a8H]at h
  split at h
  ·rename_i hk
   obtain⟨v,h1,h2⟩:=h
   exact W0 (b1K hk h1) fun v' H' e=>by obtain⟨rfl,rfl⟩:=e;exact a8l h2
  ·exact W0 h fun v H' h'=>a8l h'
def i6:List Nat→Code→Code
 | [],c=>c
 |n::l,c=>match c with
  | .seq a b| .cond _ a b=>if n=0 then i6 l a else i6 l b
  | .block _ a| .loop a=>i6 l a
  |c=>c
end
end Go.Am
end
