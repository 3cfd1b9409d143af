/-
  TransferRisesSaid: part Qaj of its proof.
-/
import Derived.Test.YtdkidgkiplcggaaGreatQai
set_option linter.unusedVariables false
set_option linter.unusedSimpArgs false
set_option maxRecDepth 100000
section
namespace Go.Am
def a4T(r:Option (AV×AHeap))(K:AV→AHeap→Prop):Prop:=match r with
 |some (v,H')=>K v H'
 |none=>False
def d1E(c a b:AV):Option AV:=match c with
 | .bool t=>some (if t then a else b)
 |_=>none
def d3g(x:AV):Option AV:=match x with
 | .nilPtr| .nilIfc| .nilFn| .opq _=>none
 | .fn (.method _) _ _=>none
 |y=>some y
def b7X(x:AV)(ix:Nat):Option AV:=match x with
 | .tup vs=>vs[ix]?
 |_=>none
section
variable(P:Program)(E:j2)
def d1C(H:AHeap)(t:TypeId)(a:AV):Option AV:=match a with
 | .ptr o i=>L9 P E H t o i
 |_=>none
def c6J(t:TypeId)(x:AV):Option AV:=match P.underlying t with
 |some (.interface _)=>none
 |some _=>some (.ifc t x)
 |none=>none
def d0w(H:AHeap)(t:TypeId)(x:AV):Option AV:=match b5G P t x with
 |some n=>some (.int .i64 n)
 |none=>(a4r P H t x).map fun(n:Nat)=> .int .i64 n
def d1b(op:BinOp)(t:TypeId)(x y:Operand)(a b:AV):Option AV:=if a2i P op t x y a b then b5b P op t a b else none
def opV(T:List AV)(H:AHeap)(o:Oper):Option AV:=
 match o.op with
 | .move x| .assign x=>some (l9 T x)
 | .pick c a b=>d1E (l9 T c) (l9 T a) (l9 T b)
 | .build t parts=>b3i P t (parts.toList.map fun p=>(p.1,l9 T p.2))
 | .load t a=>d1C P E H t (l9 T a)
 | .nilCheck x=>d3g (l9 T x)
 | .binOp op t x y _=>d1b P op t x y (l9 T x) (l9 T y)
 | .unOp op _ x=>unA op (l9 T x)
 | .convert src dst x=>(P0 P E H src dst (l9 T x)).map (·.1)
 | .makeInterface t x=>c6J P t (l9 T x)
 | .makeFunc fn first captured=>some (.fn fn (first.toList.map (l9 T)) (captured.toList.map (l9 T)))
 | .slice t x lo hi mx=>a2w P H t (l9 T x) (lo.map (l9 T)) (hi.map (l9 T)) (mx.map (l9 T))
 | .fieldAddr s x f=>a6j P s (l9 T x) f
 | .field s x f=>b5S P s (l9 T x) f
 | .indexAddr t x ix=>a2m P t (l9 T x) (l9 T ix)
 | .index t x ix=>b1R P t (l9 T x) (l9 T ix)
 | .lookup t x ix ok=>a3z P H t (l9 T x) (l9 T ix) ok
 | .typeAssert x _ asserted ok=>b0B P (l9 T x) asserted ok
 | .extract t ix=>b7X (l9 T t) ix
 | .call c=>match c.callee with
  | .builtin b=>match b,c.args.toList.map (l9 T),c.argTypes.toList with
   | .len,[x],[t]=>d0w P H t x
   | .cap,[x],[t]=>(c6U P t x).map fun(n:Nat)=> .int .i64 n
   | .min,l,_=>a4q false l
   | .max,l,_=>a4q true l
   |_,_,_=>none
  |_=>none
 |_=>none
abbrev FW:=FuncId→List AV→AHeap→(AV→AHeap→Prop)→Prop
def b5U(F:FW)(r:Option a1v)(K:AV→AHeap→Prop):Prop:=match r with
 |some (.val v H')=>K v H'
 |some (.call f args H')=>F f args H' K
 |none=>False
def b8p(H:AHeap)(f:AV)(args:List AV):Option a1v:=match f with
 | .fn (.func g) first captured=>W1 P H g (first++args++captured)
 | .fn (.method name) first captured=>match captured,first++args with
  | [], .ifc t v::rest=>(a1N P E H t v name).bind fun(g,r)=>W1 P H g (r::rest)
  |_,_=>none
 | .fn (.via t path g pointer) first captured=>match captured,path.toList,first++args,P.underlying t with
  | [],[],x::rest,some (.pointer _)=>if pointer then W1 P H g (x::rest) else none
  |_,_,_,_=>none
 |_=>none
def d2d(H:AHeap)(r:AV)(name:String)(args:List AV):Option a1v:=match r with
 | .ifc t v=>(a1N P E H t v name).bind fun(g,r)=>W1 P H g (r::args)
 |_=>none
def c7E(H:AHeap)(t:TypeId)(a x:AV)(K:AV→AHeap→Prop):Prop:=match a with
 | .ptr o i=>if D0 P t=some x.cells.length then b7 (B6 H o i x.cells) fun H'=>K C1 H' else False
 |_=>False
def opW(F:FW)(T:List AV)(H:AHeap)(o:Oper)(K:AV→AHeap→Prop):Prop:=
 match o.op with
 | .alloc e=>b7 (L6 P e) fun z=>K (.ptr (.new H.next) 0) (newCells H z.cells)
 | .box _ x=>K (.ptr (.new H.next) 0) (newCells H (l9 T x).cells)
 | .buildSlice t len parts=>a4T (O4 P H t len (parts.toList.map fun p=>(p.1,l9 T p.2))) K
 | .store t a x=>c7E P H t (l9 T a) (l9 T x) K
 | .convert src dst x=>a4T (P0 P E H src dst (l9 T x)) K
 | .makeMap _ r=>match r with
  |none=>K (.map H.next) (H.new (.map [] 0))
  |some _=>False
 | .makeSlice t l c=>a4T (O9 P H t (l9 T l) (l9 T c)) K
 | .mapUpdate t m k x| .insert t m k x=>b7 (Z8 P H t (l9 T m) (l9 T k) (l9 T x)) fun H'=>K C1 H'
 | .mapEntry t m k=>a4T (a5n P H t (l9 T m) (l9 T k)) K
 | .entryStore _ m s x=>b7 (G5 H (l9 T m) (l9 T s) (l9 T x)) fun H'=>K C1 H'
 | .range t x=>b1C P H t (l9 T x) K
 | .next it s=>c5L s H (l9 T it) K
 | .entry it=>b3l H (l9 T it) K
 | .call c=>match c.callee with
  | .value (.func g)=>if a8p P g then F g (c.args.toList.map (l9 T)) H K else False
  | .value f=>b5U F (b8p P E H (l9 T f) (c.args.toList.map (l9 T))) K
  | .invoke r name=>b5U F (d2d P E H (l9 T r) name (c.args.toList.map (l9 T))) K
  | .builtin b=>match b,c.args.toList.map (l9 T),c.argTypes.toList with
   | .append,[s,x],[sT,xT]=>a4T (a1M P E H sT s xT x) K
   | .copy,[d,x],dT::_=>a4T (b2J P E H dT d x) K
   |_,_,_=>b7 (opV P E T H o) fun v=>K v H
 |_=>b7 (opV P E T H o) fun v=>K v H
end
section
variable(P:Program)(E:j2)(w0:a8D)
def c2S(F:FW)(ops:Array Oper)(T:List AV)(H:AHeap)(o:Oper)(K:AV→AHeap→Prop):Prop:=a9S (a1e ops T o) (opW P E F T H o) H K
def d0Z(ops:Array Oper)(T:List AV)(H:AHeap)(o:Oper):Option AV:=d0m (a1e ops T o) (opV P E T H o)
def b3P(o:Oper):Option Operand:=match o.guard with
 |none=>match o.op with
  | .move x| .assign x=>some x
  |_=>none
 |some _=>none
def b8k(ops:Array Oper):List Oper→List AV→AHeap→(List AV→AHeap→Prop)→Prop
 | [],T,H,Q=>Q T H
 |o::l,T,H,Q=>if u7 P o≤1 then ∃v,b5s P E ops T H o=some v∧b8k ops l (a3c T o.dst v) H Q else a5g P E w0 ops T H o fun v H'=>b8k ops l (a3c T o.dst v) H' Q
end
section
variable{P:Program}{E:j2}{w0:a8D}
theorem c1t{r:Option AV}{H:AHeap}:c5u (r.map fun x=>a1v.val x H)=r:=by cases r<;>rfl
theorem d4Z{T:List AV}{H:AHeap}{o:Oper}(hk:u7 P o≤1):c5u (opA P E T H o)=opV P E T H o:=by
 obtain⟨dst,op,type,pos,after,guard⟩:=o
 cases op<;>simp only[opA,opV]<;>try (first|rfl|exact c1t|(simp only[u7]at hk;omega))
 case pick c a b=>unfold d1E;cases l9 T c<;>rfl
 case load t a=>
  unfold d1C
  cases l9 T a<;>first|rfl|exact c1t
 case nilCheck x=>unfold d3g;split<;>simp_all [c5u]
 case binOp op t x y yt=>
  unfold d1b
  split
  ·exact c1t
  ·rfl
 case convert src dst x=>cases P0 P E H src dst (l9 T x)<;>rfl
 case makeInterface t x=>
  unfold c6J
  cases P.underlying t with
  |none=>rfl
  |some d=>cases d<;>rfl
 case extract t ix=>
  unfold b7X
  cases l9 T t<;>first|rfl|exact c1t
 case call c=>
  unfold a1f
  cases hc:c.callee with
  |value f=>simp only[u7,hc]at hk;omega
  |invoke r m=>simp only[u7,hc]at hk;omega
  |builtin b=>
   simp only[u7,hc]at hk
   generalize c.args.toList.map (l9 T)=as
   generalize c.argTypes.toList=ts
   cases b<;>simp at hk
   case len=>
    simp only[d0w]
    rcases as with _|⟨x,_|⟨y,as⟩⟩<;>rcases ts with _|⟨t,_|⟨u,ts⟩⟩<;>simp only<;>try rfl
    cases b5G P t x
    ·exact(by cases a4r P H t x<;>rfl)
    ·rfl
   case cap=>
    rcases as with _|⟨x,_|⟨y,as⟩⟩<;>rcases ts with _|⟨t,_|⟨u,ts⟩⟩<;>simp only<;>try rfl
    cases c6U P t x<;>rfl
   case min=>simp only;cases a4q false as<;>rfl
   case max=>simp only;cases a4q true as<;>rfl
theorem b3M{F:FW}{r:Option (AV×AHeap)}{K:AV→AHeap→Prop}(h:a4T r K):b5U F (r.map fun x=>a1v.val x.1 x.2) K:=by cases r<;>exact h
theorem c6Y{F:FW}{r:Option AHeap}{K:AV→AHeap→Prop}(h:b7 r fun H'=>K C1 H'):b5U F (r.map fun H'=>a1v.val C1 H') K:=by cases r<;>exact h
theorem c7R{F:FW}{T:List AV}{H:AHeap}{o:Oper}{K:AV→AHeap→Prop}(hk:u7 P o≤1)(h:b7 (opV P E T H o) fun v=>K v H):b5U F (opA P E T H o) K:=by
 rw[←d4Z hk]at h
 cases hr:opA P E T H o with
 |none=>rw[hr]at h;exact h.elim
 |some r=>
  rw[hr]at h
  cases r with
  |val v H1=>
   have:=c2l hk hr
   subst this
   exact h
  |call f args H1=>exact h.elim
def b8r(o:Oper):Bool:=match o.op with
 | .range .. | .next .. | .entry _=>true
 |_=>false
theorem d6G{F:FW}{T:List AV}{H:AHeap}{o:Oper}{K:AV→AHeap→Prop}(hi:b8r o=false)(h:opW P E F T H o K):b5U F (opA P E T H o) K:=by
 by_cases hk:u7 P o≤1
 ·refine c7R hk ?_
  obtain⟨dst,op,type,pos,after,guard⟩:=o
  cases op<;>simp only[b8r]at hi<;>(try (cases hi;done))<;>simp only[opW]at h<;>try (first|exact h|(simp only[u7]at hk;omega))
  case convert src dst x=>
   simp only[opV]
   have hr:∀v H1,P0 P E H src dst (l9 T x)=some (v,H1)→H1=H:=by
    intro v H1 e
    refine c2l (P:=P) (E:=E) (T:=T) (v:=v) hk ?_
    simp only[opA,e];rfl
   cases hc:P0 P E H src dst (l9 T x) with
   |none=>rw[hc]at h;exact h
   |some r=>
    obtain⟨v,H1⟩:=r
    rw[hc]at h
    have:=hr v H1 hc
    subst this
    exact h
  case call c=>
   cases hc:c.callee with
   |value f=>simp only[u7,hc]at hk;omega
   |invoke r m=>simp only[u7,hc]at hk;omega
   |builtin b=>
    simp only[u7,hc]at hk
    simp only[hc]at h
    cases b<;>simp at hk<;>exact h
 ·obtain⟨dst,op,type,pos,after,guard⟩:=o
  cases op<;>simp only[b8r]at hi<;>(try (cases hi;done))<;>simp only[opW]at h<;>try ((simp only[u7]at hk;omega))
  all_goals try (simp only[opV]at h;exact h.elim)
  case alloc e=>
   simp only[opA]
   cases hz:L6 P e with
   |none=>rw[hz]at h;exact h.elim
   |some z=>rw[hz]at h;exact h
  case box e x=>exact h
  case buildSlice t n ps=>exact b3M h
  case insert t m k x=>exact c6Y h
  case store t a x=>
   simp only[opA]
   cases ha:l9 T a<;>simp only[ha,c7E]at h ⊢
   split at h
   ·rename_i hs
    rw[if_pos hs];exact c6Y h
   ·exact h.elim
  case convert src dst x=>exact b3M h
  case makeMap t r=>
   simp only[opA]
   cases r with
   |none=>exact h
   |some x=>exact h.elim
  case makeSlice t l c=>exact b3M h
  case mapUpdate t m k x=>exact c6Y h
  case mapEntry t m k=>exact b3M h
  case entryStore t m s x=>exact c6Y h
  case call c=>
   simp only[opA]
   unfold a1f
   cases hc:c.callee with
   |value f=>
    simp only[hc]at h ⊢
    cases f with
    |func g=>
     simp only[l9,W1]at h ⊢
     split at h
     ·rename_i hb;rw[if_pos hb];simp only[List.nil_append,List.append_nil];exact h
     ·exact h.elim
    |tmp t=>unfold b8p at h;exact h
    |const v=>unfold b8p at h;exact h
    |global g=>unfold b8p at h;exact h
   |invoke r m=>
    simp only[hc]at h ⊢
    exact h
   |builtin b=>
    simp only[u7,hc]at hk
    simp only[hc]at h ⊢
    generalize c.args.toList.map (l9 T)=as at h ⊢
    generalize c.argTypes.toList=ts at h ⊢
    simp only[opV,hc]at h
    cases b<;>simp at hk
    case append=>
     rcases as with _|⟨s,_|⟨x,_|⟨y,as⟩⟩⟩<;>rcases ts with _|⟨sT,_|⟨xT,_|⟨u,ts⟩⟩⟩<;>first|exact b3M h|exact h.elim
    case copy=>
     rcases as with _|⟨s,_|⟨x,_|⟨y,as⟩⟩⟩<;>rcases ts with _|⟨sT,ts⟩<;>first|exact b3M h|exact h.elim
    all_goals exact h.elim
theorem c1K{o:Oper}{x:Operand}(h:b3P o=some x):u7 P o=0∧∀(ops:Array Oper) (T:List AV) (H:AHeap),d0Z P E ops T H o=some (l9 T x):=by
 obtain⟨dst,op,type,pos,after,guard⟩:=o
 unfold b3P at h
 cases guard with
 |some g=>cases h
 |none=>
  cases op<;>first|(cases h;done)|(cases h;exact⟨rfl,fun _ _ _=>rfl⟩)
theorem d2l{F:FW}{T:List AV}{H:AHeap}{o:Oper}{K:AV→AHeap→Prop}(hi:b8r o=true)(h:opW P E F T H o K):opA P E T H o=none∧b0W P T H o K:=by
 obtain⟨dst,op,type,pos,after,guard⟩:=o
 cases op<;>simp only[b8r]at hi<;>(try (cases hi;done))
 case range t x=>exact⟨rfl,h⟩
 case next it s=>exact⟨rfl,h⟩
 case entry it=>exact⟨rfl,h⟩
theorem d1Z{ops:Array Oper}{T:List AV}{H:AHeap}{o:Oper}{K:AV→AHeap→Prop}(h:c2S P E (FnW P E w0) ops T H o K):a5g P E w0 ops T H o K:=by
 have key:∀ {r:Option a1v},b5U (FnW P E w0) r K→c4I P E w0 T H o r K:=fun{r} h=>by
  cases r with
  |none=>exact h.elim
  |some r=>cases r<;>exact h
 unfold c2S at h
 unfold a5g
 generalize a1e ops T o=g at h ⊢
 cases g with
 |none=>exact h
 |some b=>cases b with
  |true=>
   show c4I P E w0 T H o (opA P E T H o) K
   by_cases hi:b8r o=true
   ·obtain⟨h1,h2⟩:=d2l hi h
    rw[h1]
    exact .inr h2
   ·exact key (d6G (by simpa using hi) h)
  |false=>exact h
theorem b7c{ops:Array Oper}{T:List AV}{H:AHeap}{o:Oper}(hk:u7 P o≤1):b5s P E ops T H o=d0Z P E ops T H o:=by
 unfold b5s d0Z
 rw[d4Z hk]
theorem b9p{ops:Array Oper}:∀ {l:List Oper} {T:List AV} {H:AHeap} {Q Q':List AV→AHeap→Prop},(∀T H,Q T H→Q' T H)→b8k P E w0 ops l T H Q→b8k P E w0 ops l T H Q'
 | [],T,H,Q,Q',hq,h=>hq _ _ h
 |o::l,T,H,Q,Q',hq,h=>by
  rw[b8k]at*
  split at h
  ·rename_i hk
   rw[if_pos hk]
   obtain⟨v,h1,h2⟩:=h
   exact⟨v,h1,b9p hq h2⟩
  ·rename_i hk
   rw[if_neg hk]
   exact a4o h fun v H' h'=>b9p hq h'
theorem c6j{ops:Array Oper}:∀ {l:List Oper} {T:List AV} {H:AHeap} {Q:List AV→AHeap→Prop},b8k P E w0 ops l T H Q→d5Q P E w0 ops l T H Q
 | [],T,H,Q,h=>h
 |o::l,T,H,Q,h=>by
  rw[b8k]at h
  split at h
  ·rename_i hk
   obtain⟨v,h1,h2⟩:=h
   exact a4o (c3W hk h1) fun v' H' e=>by obtain⟨rfl,rfl⟩:=e;exact c6j h2
  ·exact a4o h fun v H' h'=>c6j h'
def j7:List Nat→Code→Code
 | [],c=>c
 |n::l,c=>match c with
  | .seq a b| .cond _ a b=>if n=0 then j7 l a else j7 l b
  | .block _ a| .loop a=>j7 l a
  |c=>c
end
end Go.Am
end
