/-
  TransferKnownSaid: part Kaj of its proof.
-/
import Derived.Test.YtdkidgkiplcggaaKai
set_option linter.unusedVariables false
set_option linter.unusedSimpArgs false
set_option maxRecDepth 100000
section
namespace Go.Am
def a4i(r:Option (AV×AHeap))(K:AV→AHeap→Prop):Prop:=match r with
 |some (v,H')=>K v H'
 |none=>False
def c9u(c a b:AV):Option AV:=match c with
 | .bool t=>some (if t then a else b)
 |_=>none
def d0b(x:AV):Option AV:=match x with
 | .nilPtr| .nilIfc| .nilFn| .opq _=>none
 | .fn (.method _) _ _=>none
 |y=>some y
def b1w(x:AV)(ix:Nat):Option AV:=match x with
 | .tup vs=>vs[ix]?
 |_=>none
section
variable(P:Program)(E:i9)
def c9z(H:AHeap)(t:TypeId)(a:AV):Option AV:=match a with
 | .ptr o i=>L6 P E H t o i
 |_=>none
def c5k(t:TypeId)(x:AV):Option AV:=match P.underlying t with
 |some (.interface _)=>none
 |some _=>some (.ifc t x)
 |none=>none
def c7y(H:AHeap)(t:TypeId)(x:AV):Option AV:=match b4s P t x with
 |some n=>some (.int .i64 n)
 |none=>(a3S P H t x).map fun(n:Nat)=> .int .i64 n
def c8e(op:BinOp)(t:TypeId)(x y:Operand)(a b:AV):Option AV:=if a1J P op t x y a b then b4q P op t a b else none
def opV(T:List AV)(H:AHeap)(o:Oper):Option AV:=
 match o.op with
 | .move x| .assign x=>some (l8 T x)
 | .pick c a b=>c9u (l8 T c) (l8 T a) (l8 T b)
 | .build t parts=>b0N P t (parts.toList.map fun p=>(p.1,l8 T p.2))
 | .load t a=>c9z P E H t (l8 T a)
 | .nilCheck x=>d0b (l8 T x)
 | .binOp op t x y _=>c8e P op t x y (l8 T x) (l8 T y)
 | .unOp op _ x=>unA op (l8 T x)
 | .convert src dst x=>(N7 P E H src dst (l8 T x)).map (·.1)
 | .makeInterface t x=>c5k P t (l8 T x)
 | .makeFunc fn first captured=>some (.fn fn (first.toList.map (l8 T)) (captured.toList.map (l8 T)))
 | .slice t x lo hi mx=>a1R P H t (l8 T x) (lo.map (l8 T)) (hi.map (l8 T)) (mx.map (l8 T))
 | .fieldAddr s x f=>a6C P s (l8 T x) f
 | .field s x f=>b4t P s (l8 T x) f
 | .indexAddr t x ix=>a1D P t (l8 T x) (l8 T ix)
 | .index t x ix=>b1V P t (l8 T x) (l8 T ix)
 | .lookup t x ix ok=>a2y P H t (l8 T x) (l8 T ix) ok
 | .typeAssert x _ asserted ok=>a9i P (l8 T x) asserted ok
 | .extract t ix=>b1w (l8 T t) ix
 | .call c=>match c.callee with
  | .builtin b=>match b,c.args.toList.map (l8 T),c.argTypes.toList with
   | .len,[x],[t]=>c7y P H t x
   | .cap,[x],[t]=>(c4p P t x).map fun(n:Nat)=> .int .i64 n
   | .min,l,_=>a3N false l
   | .max,l,_=>a3N true l
   |_,_,_=>none
  |_=>none
 |_=>none
abbrev FW:=FuncId→List AV→AHeap→(AV→AHeap→Prop)→Prop
def b4r(F:FW)(r:Option a0O)(K:AV→AHeap→Prop):Prop:=match r with
 |some (.val v H')=>K v H'
 |some (.call f args H')=>F f args H' K
 |none=>False
def b6C(H:AHeap)(f:AV)(args:List AV):Option a0O:=match f with
 | .fn (.func g) first captured=>U0 P H g (first++args++captured)
 | .fn (.method name) first captured=>match captured,first++args with
  | [], .ifc t v::rest=>(a1i P E H t v name).bind fun(g,r)=>U0 P H g (r::rest)
  |_,_=>none
 | .fn (.via t path g pointer) first captured=>match captured,path.toList,first++args,P.underlying t with
  | [],[],x::rest,some (.pointer _)=>if pointer then U0 P H g (x::rest) else none
  |_,_,_,_=>none
 |_=>none
def c9m(H:AHeap)(r:AV)(name:String)(args:List AV):Option a0O:=match r with
 | .ifc t v=>(a1i P E H t v name).bind fun(g,r)=>U0 P H g (r::args)
 |_=>none
def c4H(H:AHeap)(t:TypeId)(a x:AV)(K:AV→AHeap→Prop):Prop:=match a with
 | .ptr o i=>if C5 P t=some x.cells.length then b7 (B2 H o i x.cells) fun H'=>K B6 H' else False
 |_=>False
def opW(F:FW)(T:List AV)(H:AHeap)(o:Oper)(K:AV→AHeap→Prop):Prop:=
 match o.op with
 | .alloc e=>b7 (K4 P e) fun z=>K (.ptr (.new H.next) 0) (newCells H z.cells)
 | .box _ x=>K (.ptr (.new H.next) 0) (newCells H (l8 T x).cells)
 | .buildSlice t len parts=>a4i (M9 P H t len (parts.toList.map fun p=>(p.1,l8 T p.2))) K
 | .store t a x=>c4H P H t (l8 T a) (l8 T x) K
 | .convert src dst x=>a4i (N7 P E H src dst (l8 T x)) K
 | .makeMap _ r=>match r with
  |none=>K (.map H.next) (H.new (.map [] 0))
  |some _=>False
 | .makeSlice t l c=>a4i (O3 P H t (l8 T l) (l8 T c)) K
 | .mapUpdate t m k x| .insert t m k x=>b7 (Z7 P H t (l8 T m) (l8 T k) (l8 T x)) fun H'=>K B6 H'
 | .mapEntry t m k=>a4i (a4J P H t (l8 T m) (l8 T k)) K
 | .entryStore _ m s x=>b7 (F7 H (l8 T m) (l8 T s) (l8 T x)) fun H'=>K B6 H'
 | .call c=>match c.callee with
  | .value (.func g)=>if a8W P g then F g (c.args.toList.map (l8 T)) H K else False
  | .value f=>b4r F (b6C P E H (l8 T f) (c.args.toList.map (l8 T))) K
  | .invoke r name=>b4r F (c9m P E H (l8 T r) name (c.args.toList.map (l8 T))) K
  | .builtin b=>match b,c.args.toList.map (l8 T),c.argTypes.toList with
   | .append,[s,x],[sT,xT]=>a4i (a1m P E H sT s xT x) K
   | .copy,[d,x],dT::_=>a4i (b0R P E H dT d x) K
   |_,_,_=>b7 (opV P E T H o) fun v=>K v H
 |_=>b7 (opV P E T H o) fun v=>K v H
end
section
variable(P:Program)(E:i9)(w0:a7W)
def c0m(F:FW)(ops:Array Oper)(T:List AV)(H:AHeap)(o:Oper)(K:AV→AHeap→Prop):Prop:=a9h (a0F ops T o) (opW P E F T H o) H K
def c8f(ops:Array Oper)(T:List AV)(H:AHeap)(o:Oper):Option AV:=c8i (a0F ops T o) (opV P E T H o)
def b2l(o:Oper):Option Operand:=match o.guard with
 |none=>match o.op with
  | .move x| .assign x=>some x
  |_=>none
 |some _=>none
def b6P(ops:Array Oper):List Oper→List AV→AHeap→(List AV→AHeap→Prop)→Prop
 | [],T,H,Q=>Q T H
 |o::l,T,H,Q=>if t7 P o≤1 then ∃v,b3D P E ops T H o=some v∧b6P ops l (a2C T o.dst v) H Q else a4n P E w0 ops T H o fun v H'=>b6P ops l (a2C T o.dst v) H' Q
end
section
variable{P:Program}{E:i9}{w0:a7W}
theorem b9x{r:Option AV}{H:AHeap}:c3M (r.map fun x=>a0O.val x H)=r:=by cases r<;>rfl
theorem d1H{T:List AV}{H:AHeap}{o:Oper}(hk:t7 P o≤1):c3M (opA P E T H o)=opV P E T H o:=by
 obtain⟨dst,op,type,pos,after,guard⟩:=o
 cases op<;>simp only[opA,opV]<;>try (first|rfl|exact b9x|(simp only[t7]at hk;omega))
 case pick c a b=>unfold c9u;cases l8 T c<;>rfl
 case load t a=>
  unfold c9z
  cases l8 T a<;>first|rfl|exact b9x
 case nilCheck x=>unfold d0b;split<;>simp_all [c3M]
 case binOp op t x y yt=>
  unfold c8e
  split
  ·exact b9x
  ·rfl
 case convert src dst x=>cases N7 P E H src dst (l8 T x)<;>rfl
 case makeInterface t x=>
  unfold c5k
  cases P.underlying t with
  |none=>rfl
  |some d=>cases d<;>rfl
 case extract t ix=>
  unfold b1w
  cases l8 T t<;>first|rfl|exact b9x
 case call c=>
  unfold a0y
  cases hc:c.callee with
  |value f=>simp only[t7,hc]at hk;omega
  |invoke r m=>simp only[t7,hc]at hk;omega
  |builtin b=>
   simp only[t7,hc]at hk
   generalize c.args.toList.map (l8 T)=as
   generalize c.argTypes.toList=ts
   cases b<;>simp at hk
   case len=>
    simp only[c7y]
    rcases as with _|⟨x,_|⟨y,as⟩⟩<;>rcases ts with _|⟨t,_|⟨u,ts⟩⟩<;>simp only<;>try rfl
    cases b4s P t x
    ·exact(by cases a3S P H t x<;>rfl)
    ·rfl
   case cap=>
    rcases as with _|⟨x,_|⟨y,as⟩⟩<;>rcases ts with _|⟨t,_|⟨u,ts⟩⟩<;>simp only<;>try rfl
    cases c4p P t x<;>rfl
   case min=>simp only;cases a3N false as<;>rfl
   case max=>simp only;cases a3N true as<;>rfl
theorem b2n{F:FW}{r:Option (AV×AHeap)}{K:AV→AHeap→Prop}(h:a4i r K):b4r F (r.map fun x=>a0O.val x.1 x.2) K:=by cases r<;>exact h
theorem c4M{F:FW}{r:Option AHeap}{K:AV→AHeap→Prop}(h:b7 r fun H'=>K B6 H'):b4r F (r.map fun H'=>a0O.val B6 H') K:=by cases r<;>exact h
theorem c6k{F:FW}{T:List AV}{H:AHeap}{o:Oper}{K:AV→AHeap→Prop}(hk:t7 P o≤1)(h:b7 (opV P E T H o) fun v=>K v H):b4r F (opA P E T H o) K:=by
 rw[←d1H hk]at h
 cases hr:opA P E T H o with
 |none=>rw[hr]at h;exact h.elim
 |some r=>
  rw[hr]at h
  cases r with
  |val v H1=>
   have:=c2c hk hr
   subst this
   exact h
  |call f args H1=>exact h.elim
theorem d4k{F:FW}{T:List AV}{H:AHeap}{o:Oper}{K:AV→AHeap→Prop}(h:opW P E F T H o K):b4r F (opA P E T H o) K:=by
 by_cases hk:t7 P o≤1
 ·refine c6k hk ?_
  obtain⟨dst,op,type,pos,after,guard⟩:=o
  cases op<;>simp only[opW]at h<;>try (first|exact h|(simp only[t7]at hk;omega))
  case convert src dst x=>
   simp only[opV]
   have hr:∀v H1,N7 P E H src dst (l8 T x)=some (v,H1)→H1=H:=by
    intro v H1 e
    refine c2c (P:=P) (E:=E) (T:=T) (v:=v) hk ?_
    simp only[opA,e];rfl
   cases hc:N7 P E H src dst (l8 T x) with
   |none=>rw[hc]at h;exact h
   |some r=>
    obtain⟨v,H1⟩:=r
    rw[hc]at h
    have:=hr v H1 hc
    subst this
    exact h
  case call c=>
   cases hc:c.callee with
   |value f=>simp only[t7,hc]at hk;omega
   |invoke r m=>simp only[t7,hc]at hk;omega
   |builtin b=>
    simp only[t7,hc]at hk
    simp only[hc]at h
    cases b<;>simp at hk<;>exact h
 ·obtain⟨dst,op,type,pos,after,guard⟩:=o
  cases op<;>simp only[opW]at h<;>try ((simp only[t7]at hk;omega))
  all_goals try (simp only[opV]at h;exact h.elim)
  case alloc e=>
   simp only[opA]
   cases hz:K4 P e with
   |none=>rw[hz]at h;exact h.elim
   |some z=>rw[hz]at h;exact h
  case box e x=>exact h
  case buildSlice t n ps=>exact b2n h
  case insert t m k x=>exact c4M h
  case store t a x=>
   simp only[opA]
   cases ha:l8 T a<;>simp only[ha,c4H]at h ⊢
   split at h
   ·rename_i hs
    rw[if_pos hs];exact c4M h
   ·exact h.elim
  case convert src dst x=>exact b2n h
  case makeMap t r=>
   simp only[opA]
   cases r with
   |none=>exact h
   |some x=>exact h.elim
  case makeSlice t l c=>exact b2n h
  case mapUpdate t m k x=>exact c4M h
  case mapEntry t m k=>exact b2n h
  case entryStore t m s x=>exact c4M h
  case call c=>
   simp only[opA]
   unfold a0y
   cases hc:c.callee with
   |value f=>
    simp only[hc]at h ⊢
    cases f with
    |func g=>
     simp only[l8,U0]at h ⊢
     split at h
     ·rename_i hb;rw[if_pos hb];simp only[List.nil_append,List.append_nil];exact h
     ·exact h.elim
    |tmp t=>unfold b6C at h;exact h
    |const v=>unfold b6C at h;exact h
    |global g=>unfold b6C at h;exact h
   |invoke r m=>
    simp only[hc]at h ⊢
    exact h
   |builtin b=>
    simp only[t7,hc]at hk
    simp only[hc]at h ⊢
    generalize c.args.toList.map (l8 T)=as at h ⊢
    generalize c.argTypes.toList=ts at h ⊢
    simp only[opV,hc]at h
    cases b<;>simp at hk
    case append=>
     rcases as with _|⟨s,_|⟨x,_|⟨y,as⟩⟩⟩<;>rcases ts with _|⟨sT,_|⟨xT,_|⟨u,ts⟩⟩⟩<;>first|exact b2n h|exact h.elim
    case copy=>
     rcases as with _|⟨s,_|⟨x,_|⟨y,as⟩⟩⟩<;>rcases ts with _|⟨sT,ts⟩<;>first|exact b2n h|exact h.elim
    all_goals exact h.elim
theorem c1O{o:Oper}{x:Operand}(h:b2l o=some x):t7 P o=0∧∀(ops:Array Oper) (T:List AV) (H:AHeap),c8f P E ops T H o=some (l8 T x):=by
 obtain⟨dst,op,type,pos,after,guard⟩:=o
 unfold b2l at h
 cases guard with
 |some g=>cases h
 |none=>
  cases op<;>first|(cases h;done)|(cases h;exact⟨rfl,fun _ _ _=>rfl⟩)
theorem c8W{ops:Array Oper}{T:List AV}{H:AHeap}{o:Oper}{K:AV→AHeap→Prop}(h:c0m P E (FnW P E w0) ops T H o K):a4n P E w0 ops T H o K:=by
 have key:∀ {r:Option a0O},b4r (FnW P E w0) r K→c4l P E w0 T H o r K:=fun{r} h=>by
  cases r with
  |none=>exact h.elim
  |some r=>cases r<;>exact h
 unfold c0m at h
 unfold a4n
 generalize a0F ops T o=g at h ⊢
 cases g with
 |none=>exact h
 |some b=>cases b with
  |true=>exact key (d4k h)
  |false=>exact h
theorem b5b{ops:Array Oper}{T:List AV}{H:AHeap}{o:Oper}(hk:t7 P o≤1):b3D P E ops T H o=c8f P E ops T H o:=by
 unfold b3D c8f
 rw[d1H hk]
theorem b7a{ops:Array Oper}:∀ {l:List Oper} {T:List AV} {H:AHeap} {Q Q':List AV→AHeap→Prop},(∀T H,Q T H→Q' T H)→b6P P E w0 ops l T H Q→b6P P E w0 ops l T H Q'
 | [],T,H,Q,Q',hq,h=>hq _ _ h
 |o::l,T,H,Q,Q',hq,h=>by
  rw[b6P]at*
  split at h
  ·rename_i hk
   rw[if_pos hk]
   obtain⟨v,h1,h2⟩:=h
   exact⟨v,h1,b7a hq h2⟩
  ·rename_i hk
   rw[if_neg hk]
   exact a3y h fun v H' h'=>b7a hq h'
theorem c4D{ops:Array Oper}:∀ {l:List Oper} {T:List AV} {H:AHeap} {Q:List AV→AHeap→Prop},b6P P E w0 ops l T H Q→d2V P E w0 ops l T H Q
 | [],T,H,Q,h=>h
 |o::l,T,H,Q,h=>by
  rw[b6P]at h
  split at h
  ·rename_i hk
   obtain⟨v,h1,h2⟩:=h
   exact a3y (c1H hk h1) fun v' H' e=>by obtain⟨rfl,rfl⟩:=e;exact c4D h2
  ·exact a3y h fun v H' h'=>c4D h'
def j9:List Nat→Code→Code
 | [],c=>c
 |n::l,c=>match c with
  | .seq a b| .cond _ a b=>if n=0 then j9 l a else j9 l b
  | .block _ a| .loop a=>j9 l a
  |c=>c
end
end Go.Am
end
