/-
  TransferHeightsSaid: part Haj of its proof.
-/
import Derived.Test.YtdkidgkiplcggaaHai
set_option linter.unusedVariables false
set_option linter.unusedSimpArgs false
set_option maxRecDepth 100000
section
namespace Go.Am
def a4e(r:Option (AV×AHeap))(K:AV→AHeap→Prop):Prop:=match r with
 |some (v,H')=>K v H'
 |none=>False
def c8U(c a b:AV):Option AV:=match c with
 | .bool t=>some (if t then a else b)
 |_=>none
def d0w(x:AV):Option AV:=match x with
 | .nilPtr| .nilIfc| .nilFn| .opq _=>none
 | .fn (.method _) _ _=>none
 |y=>some y
def b5F(x:AV)(ix:Nat):Option AV:=match x with
 | .tup vs=>vs[ix]?
 |_=>none
section
variable(P:Program)(E:j3)
def c9b(H:AHeap)(t:TypeId)(a:AV):Option AV:=match a with
 | .ptr o i=>L4 P E H t o i
 |_=>none
def c4Q(t:TypeId)(x:AV):Option AV:=match P.underlying t with
 |some (.interface _)=>none
 |some _=>some (.ifc t x)
 |none=>none
def c7G(H:AHeap)(t:TypeId)(x:AV):Option AV:=match b3B P t x with
 |some n=>some (.int .i64 n)
 |none=>(a3O P H t x).map fun(n:Nat)=> .int .i64 n
def c8f(op:BinOp)(t:TypeId)(x y:Operand)(a b:AV):Option AV:=if a1D P op t x y a b then b3E P op t a b else none
def opV(T:List AV)(H:AHeap)(o:Oper):Option AV:=
 match o.op with
 | .move x| .assign x=>some (m7 T x)
 | .pick c a b=>c8U (m7 T c) (m7 T a) (m7 T b)
 | .build t parts=>b1D P t (parts.toList.map fun p=>(p.1,m7 T p.2))
 | .load t a=>c9b P E H t (m7 T a)
 | .nilCheck x=>d0w (m7 T x)
 | .binOp op t x y _=>c8f P op t x y (m7 T x) (m7 T y)
 | .unOp op _ x=>unA op (m7 T x)
 | .convert src dst x=>(O6 P E H src dst (m7 T x)).map (·.1)
 | .makeInterface t x=>c4Q P t (m7 T x)
 | .makeFunc fn first captured=>some (.fn fn (first.toList.map (m7 T)) (captured.toList.map (m7 T)))
 | .slice t x lo hi mx=>a1Q P H t (m7 T x) (lo.map (m7 T)) (hi.map (m7 T)) (mx.map (m7 T))
 | .fieldAddr s x f=>a5w P s (m7 T x) f
 | .field s x f=>b3V P s (m7 T x) f
 | .indexAddr t x ix=>a1B P t (m7 T x) (m7 T ix)
 | .index t x ix=>b0q P t (m7 T x) (m7 T ix)
 | .lookup t x ix ok=>a2T P H t (m7 T x) (m7 T ix) ok
 | .typeAssert x _ asserted ok=>a8P P (m7 T x) asserted ok
 | .extract t ix=>b5F (m7 T t) ix
 | .call c=>match c.callee with
  | .builtin b=>match b,c.args.toList.map (m7 T),c.argTypes.toList with
   | .len,[x],[t]=>c7G P H t x
   | .cap,[x],[t]=>(c4b P t x).map fun(n:Nat)=> .int .i64 n
   | .min,l,_=>a3F false l
   | .max,l,_=>a3F true l
   |_,_,_=>none
  |_=>none
 |_=>none
abbrev FW:=FuncId→List AV→AHeap→(AV→AHeap→Prop)→Prop
def b3C(F:FW)(r:Option a0L)(K:AV→AHeap→Prop):Prop:=match r with
 |some (.val v H')=>K v H'
 |some (.call f args H')=>F f args H' K
 |none=>False
def b7b(H:AHeap)(f:AV)(args:List AV):Option a0L:=match f with
 | .fn (.func g) first captured=>R7 P H g (first++args++captured)
 | .fn (.method name) first captured=>match captured,first++args with
  | [], .ifc t v::rest=>(a1j P E H t v name).bind fun(g,r)=>R7 P H g (r::rest)
  |_,_=>none
 | .fn (.via t path g pointer) first captured=>match captured,path.toList,first++args,P.underlying t with
  | [],[],x::rest,some (.pointer _)=>if pointer then R7 P H g (x::rest) else none
  |_,_,_,_=>none
 |_=>none
def c9m(H:AHeap)(r:AV)(name:String)(args:List AV):Option a0L:=match r with
 | .ifc t v=>(a1j P E H t v name).bind fun(g,r)=>R7 P H g (r::args)
 |_=>none
def c4v(H:AHeap)(t:TypeId)(a x:AV)(K:AV→AHeap→Prop):Prop:=match a with
 | .ptr o i=>if C3 P t=some x.cells.length then b7 (A9 H o i x.cells) fun H'=>K B4 H' else False
 |_=>False
def opW(F:FW)(T:List AV)(H:AHeap)(o:Oper)(K:AV→AHeap→Prop):Prop:=
 match o.op with
 | .alloc e=>b7 (K8 P e) fun z=>K (.ptr (.new H.next) 0) (newCells H z.cells)
 | .box _ x=>K (.ptr (.new H.next) 0) (newCells H (m7 T x).cells)
 | .buildSlice t len parts=>a4e (N5 P H t len (parts.toList.map fun p=>(p.1,m7 T p.2))) K
 | .store t a x=>c4v P H t (m7 T a) (m7 T x) K
 | .convert src dst x=>a4e (O6 P E H src dst (m7 T x)) K
 | .makeMap _ r=>match r with
  |none=>K (.map H.next) (H.new (.map [] 0))
  |some _=>False
 | .makeSlice t l c=>a4e (N9 P H t (m7 T l) (m7 T c)) K
 | .mapUpdate t m k x| .insert t m k x=>b7 (X7 P H t (m7 T m) (m7 T k) (m7 T x)) fun H'=>K B4 H'
 | .mapEntry t m k=>a4e (a4A P H t (m7 T m) (m7 T k)) K
 | .entryStore _ m s x=>b7 (E9 H (m7 T m) (m7 T s) (m7 T x)) fun H'=>K B4 H'
 | .call c=>match c.callee with
  | .value (.func g)=>if a8p P g then F g (c.args.toList.map (m7 T)) H K else False
  | .value f=>b3C F (b7b P E H (m7 T f) (c.args.toList.map (m7 T))) K
  | .invoke r name=>b3C F (c9m P E H (m7 T r) name (c.args.toList.map (m7 T))) K
  | .builtin b=>match b,c.args.toList.map (m7 T),c.argTypes.toList with
   | .append,[s,x],[sT,xT]=>a4e (a1f P E H sT s xT x) K
   | .copy,[d,x],dT::_=>a4e (b1h P E H dT d x) K
   |_,_,_=>b7 (opV P E T H o) fun v=>K v H
 |_=>b7 (opV P E T H o) fun v=>K v H
end
section
variable(P:Program)(E:j3)(w0:a7D)
def c1q(F:FW)(ops:Array Oper)(T:List AV)(H:AHeap)(o:Oper)(K:AV→AHeap→Prop):Prop:=a8E (a0y ops T o) (opW P E F T H o) H K
def c8h(ops:Array Oper)(T:List AV)(H:AHeap)(o:Oper):Option AV:=c8m (a0y ops T o) (opV P E T H o)
def b2j(o:Oper):Option Operand:=match o.guard with
 |none=>match o.op with
  | .move x| .assign x=>some x
  |_=>none
 |some _=>none
def b7A(ops:Array Oper):List Oper→List AV→AHeap→(List AV→AHeap→Prop)→Prop
 | [],T,H,Q=>Q T H
 |o::l,T,H,Q=>if t8 P o≤1 then ∃v,b3K P E ops T H o=some v∧b7A ops l (a2O T o.dst v) H Q else a3T P E w0 ops T H o fun v H'=>b7A ops l (a2O T o.dst v) H' Q
end
section
variable{P:Program}{E:j3}{w0:a7D}
theorem b9x{r:Option AV}{H:AHeap}:c3c (r.map fun x=>a0L.val x H)=r:=by cases r<;>rfl
theorem d2w{T:List AV}{H:AHeap}{o:Oper}(hk:t8 P o≤1):c3c (opA P E T H o)=opV P E T H o:=by
 obtain⟨dst,op,type,pos,after,guard⟩:=o
 cases op<;>simp only[opA,opV]<;>try (first|rfl|exact b9x|(simp only[t8]at hk;omega))
 case pick c a b=>unfold c8U;cases m7 T c<;>rfl
 case load t a=>
  unfold c9b
  cases m7 T a<;>first|rfl|exact b9x
 case nilCheck x=>unfold d0w;split<;>simp_all [c3c]
 case binOp op t x y yt=>
  unfold c8f
  split
  ·exact b9x
  ·rfl
 case convert src dst x=>cases O6 P E H src dst (m7 T x)<;>rfl
 case makeInterface t x=>
  unfold c4Q
  cases P.underlying t with
  |none=>rfl
  |some d=>cases d<;>rfl
 case extract t ix=>
  unfold b5F
  cases m7 T t<;>first|rfl|exact b9x
 case call c=>
  unfold a0t
  cases hc:c.callee with
  |value f=>simp only[t8,hc]at hk;omega
  |invoke r m=>simp only[t8,hc]at hk;omega
  |builtin b=>
   simp only[t8,hc]at hk
   generalize c.args.toList.map (m7 T)=as
   generalize c.argTypes.toList=ts
   cases b<;>simp at hk
   case len=>
    simp only[c7G]
    rcases as with _|⟨x,_|⟨y,as⟩⟩<;>rcases ts with _|⟨t,_|⟨u,ts⟩⟩<;>simp only<;>try rfl
    cases b3B P t x
    ·exact(by cases a3O P H t x<;>rfl)
    ·rfl
   case cap=>
    rcases as with _|⟨x,_|⟨y,as⟩⟩<;>rcases ts with _|⟨t,_|⟨u,ts⟩⟩<;>simp only<;>try rfl
    cases c4b P t x<;>rfl
   case min=>simp only;cases a3F false as<;>rfl
   case max=>simp only;cases a3F true as<;>rfl
theorem b2a{F:FW}{r:Option (AV×AHeap)}{K:AV→AHeap→Prop}(h:a4e r K):b3C F (r.map fun x=>a0L.val x.1 x.2) K:=by cases r<;>exact h
theorem c4o{F:FW}{r:Option AHeap}{K:AV→AHeap→Prop}(h:b7 r fun H'=>K B4 H'):b3C F (r.map fun H'=>a0L.val B4 H') K:=by cases r<;>exact h
theorem c5M{F:FW}{T:List AV}{H:AHeap}{o:Oper}{K:AV→AHeap→Prop}(hk:t8 P o≤1)(h:b7 (opV P E T H o) fun v=>K v H):b3C F (opA P E T H o) K:=by
 rw[←d2w hk]at h
 cases hr:opA P E T H o with
 |none=>rw[hr]at h;exact h.elim
 |some r=>
  rw[hr]at h
  cases r with
  |val v H1=>
   have:=b9Y hk hr
   subst this
   exact h
  |call f args H1=>exact h.elim
theorem d4Z{F:FW}{T:List AV}{H:AHeap}{o:Oper}{K:AV→AHeap→Prop}(h:opW P E F T H o K):b3C F (opA P E T H o) K:=by
 by_cases hk:t8 P o≤1
 ·refine c5M hk ?_
  obtain⟨dst,op,type,pos,after,guard⟩:=o
  cases op<;>simp only[opW]at h<;>try (first|exact h|(simp only[t8]at hk;omega))
  case convert src dst x=>
   simp only[opV]
   have hr:∀v H1,O6 P E H src dst (m7 T x)=some (v,H1)→H1=H:=by
    intro v H1 e
    refine b9Y (P:=P) (E:=E) (T:=T) (v:=v) hk ?_
    simp only[opA,e];rfl
   cases hc:O6 P E H src dst (m7 T x) with
   |none=>rw[hc]at h;exact h
   |some r=>
    obtain⟨v,H1⟩:=r
    rw[hc]at h
    have:=hr v H1 hc
    subst this
    exact h
  case call c=>
   cases hc:c.callee with
   |value f=>simp only[t8,hc]at hk;omega
   |invoke r m=>simp only[t8,hc]at hk;omega
   |builtin b=>
    simp only[t8,hc]at hk
    simp only[hc]at h
    cases b<;>simp at hk<;>exact h
 ·obtain⟨dst,op,type,pos,after,guard⟩:=o
  cases op<;>simp only[opW]at h<;>try ((simp only[t8]at hk;omega))
  all_goals try (simp only[opV]at h;exact h.elim)
  case alloc e=>
   simp only[opA]
   cases hz:K8 P e with
   |none=>rw[hz]at h;exact h.elim
   |some z=>rw[hz]at h;exact h
  case box e x=>exact h
  case buildSlice t n ps=>exact b2a h
  case insert t m k x=>exact c4o h
  case store t a x=>
   simp only[opA]
   cases ha:m7 T a<;>simp only[ha,c4v]at h ⊢
   split at h
   ·rename_i hs
    rw[if_pos hs];exact c4o h
   ·exact h.elim
  case convert src dst x=>exact b2a h
  case makeMap t r=>
   simp only[opA]
   cases r with
   |none=>exact h
   |some x=>exact h.elim
  case makeSlice t l c=>exact b2a h
  case mapUpdate t m k x=>exact c4o h
  case mapEntry t m k=>exact b2a h
  case entryStore t m s x=>exact c4o h
  case call c=>
   simp only[opA]
   unfold a0t
   cases hc:c.callee with
   |value f=>
    simp only[hc]at h ⊢
    cases f with
    |func g=>
     simp only[m7,R7]at h ⊢
     split at h
     ·rename_i hb;rw[if_pos hb];simp only[List.nil_append,List.append_nil];exact h
     ·exact h.elim
    |tmp t=>unfold b7b at h;exact h
    |const v=>unfold b7b at h;exact h
    |global g=>unfold b7b at h;exact h
   |invoke r m=>
    simp only[hc]at h ⊢
    exact h
   |builtin b=>
    simp only[t8,hc]at hk
    simp only[hc]at h ⊢
    generalize c.args.toList.map (m7 T)=as at h ⊢
    generalize c.argTypes.toList=ts at h ⊢
    simp only[opV,hc]at h
    cases b<;>simp at hk
    case append=>
     rcases as with _|⟨s,_|⟨x,_|⟨y,as⟩⟩⟩<;>rcases ts with _|⟨sT,_|⟨xT,_|⟨u,ts⟩⟩⟩<;>first|exact b2a h|exact h.elim
    case copy=>
     rcases as with _|⟨s,_|⟨x,_|⟨y,as⟩⟩⟩<;>rcases ts with _|⟨sT,ts⟩<;>first|exact b2a h|exact h.elim
    all_goals exact h.elim
theorem c2h{o:Oper}{x:Operand}(h:b2j o=some x):t8 P o=0∧∀(ops:Array Oper) (T:List AV) (H:AHeap),c8h P E ops T H o=some (m7 T x):=by
 obtain⟨dst,op,type,pos,after,guard⟩:=o
 unfold b2j at h
 cases guard with
 |some g=>cases h
 |none=>
  cases op<;>first|(cases h;done)|(cases h;exact⟨rfl,fun _ _ _=>rfl⟩)
theorem c9o{ops:Array Oper}{T:List AV}{H:AHeap}{o:Oper}{K:AV→AHeap→Prop}(h:c1q P E (FnW P E w0) ops T H o K):a3T P E w0 ops T H o K:=by
 have key:∀ {r:Option a0L},b3C (FnW P E w0) r K→c5q P E w0 T H o r K:=fun{r} h=>by
  cases r with
  |none=>exact h.elim
  |some r=>cases r<;>exact h
 unfold c1q at h
 unfold a3T
 generalize a0y ops T o=g at h ⊢
 cases g with
 |none=>exact h
 |some b=>cases b with
  |true=>exact key (d4Z h)
  |false=>exact h
theorem b4w{ops:Array Oper}{T:List AV}{H:AHeap}{o:Oper}(hk:t8 P o≤1):b3K P E ops T H o=c8h P E ops T H o:=by
 unfold b3K c8h
 rw[d2w hk]
theorem b6P{ops:Array Oper}:∀ {l:List Oper} {T:List AV} {H:AHeap} {Q Q':List AV→AHeap→Prop},(∀T H,Q T H→Q' T H)→b7A P E w0 ops l T H Q→b7A P E w0 ops l T H Q'
 | [],T,H,Q,Q',hq,h=>hq _ _ h
 |o::l,T,H,Q,Q',hq,h=>by
  rw[b7A]at*
  split at h
  ·rename_i hk
   rw[if_pos hk]
   obtain⟨v,h1,h2⟩:=h
   exact⟨v,h1,b6P hq h2⟩
  ·rename_i hk
   rw[if_neg hk]
   exact a3t h fun v H' h'=>b6P hq h'
theorem c3W{ops:Array Oper}:∀ {l:List Oper} {T:List AV} {H:AHeap} {Q:List AV→AHeap→Prop},b7A P E w0 ops l T H Q→d2U P E w0 ops l T H Q
 | [],T,H,Q,h=>h
 |o::l,T,H,Q,h=>by
  rw[b7A]at h
  split at h
  ·rename_i hk
   obtain⟨v,h1,h2⟩:=h
   exact a3t (c1Z hk h1) fun v' H' e=>by obtain⟨rfl,rfl⟩:=e;exact c3W h2
  ·exact a3t h fun v H' h'=>c3W h'
def j7:List Nat→Code→Code
 | [],c=>c
 |n::l,c=>match c with
  | .seq a b| .cond _ a b=>if n=0 then j7 l a else j7 l b
  | .block _ a| .loop a=>j7 l a
  |c=>c
end
end Go.Am
end
