/-
  ImageBackSaid: part Kaj of its proof.
-/
import Derived.Test.YtchnpgddpaonhaaKai
set_option linter.unusedVariables false
set_option linter.unusedSimpArgs false
set_option maxRecDepth 100000
section
namespace Go.Am
def a5j(r:Option (AV×AHeap))(K:AV→AHeap→Prop):Prop:=match r with
 |some (v,H')=>K v H'
 |none=>False
def c9P(c a b:AV):Option AV:=match c with
 | .bool t=>some (if t then a else b)
 |_=>none
def d0m(x:AV):Option AV:=match x with
 | .nilPtr| .nilIfc| .nilFn| .opq _=>none
 | .fn (.method _) _ _=>none
 |y=>some y
def b5G(x:AV)(ix:Nat):Option AV:=match x with
 | .tup vs=>vs[ix]?
 |_=>none
section
variable(P:Program)(E:m7)
def c9f(H:AHeap)(t:TypeId)(a:AV):Option AV:=match a with
 | .ptr o i=>M9 P E H t o i
 |_=>none
def c4N(t:TypeId)(x:AV):Option AV:=match P.underlying t with
 |some (.interface _)=>none
 |some _=>some (.ifc t x)
 |none=>none
def d1r(H:AHeap)(t:TypeId)(x:AV):Option AV:=match b7B P t x with
 |some n=>some (.int .i64 n)
 |none=>(a7y P H t x).map fun(n:Nat)=> .int .i64 n
def c7K(op:BinOp)(t:TypeId)(x y:Operand)(a b:AV):Option AV:=if a1W P op t x y a b then b4J P op t a b else none
def opV(T:List AV)(H:AHeap)(o:Oper):Option AV:=
 match o.op with
 | .move x| .assign x=>some (o4 T x)
 | .pick c a b=>c9P (o4 T c) (o4 T a) (o4 T b)
 | .build t parts=>b1J P t (parts.toList.map fun p=>(p.1,o4 T p.2))
 | .load t a=>c9f P E H t (o4 T a)
 | .nilCheck x=>d0m (o4 T x)
 | .binOp op t x y _=>c7K P op t x y (o4 T x) (o4 T y)
 | .unOp op _ x=>unA op (o4 T x)
 | .convert src dst x=>(O7 P E H src dst (o4 T x)).map (·.1)
 | .makeInterface t x=>c4N P t (o4 T x)
 | .makeFunc fn first captured=>some (.fn fn (first.toList.map (o4 T)) (captured.toList.map (o4 T)))
 | .slice t x lo hi mx=>a2g P H t (o4 T x) (lo.map (o4 T)) (hi.map (o4 T)) (mx.map (o4 T))
 | .fieldAddr s x f=>a6q P s (o4 T x) f
 | .field s x f=>b4T P s (o4 T x) f
 | .indexAddr t x ix=>a1U P t (o4 T x) (o4 T ix)
 | .index t x ix=>b2Y P t (o4 T x) (o4 T ix)
 | .lookup t x ix ok=>a7r P H t (o4 T x) (o4 T ix) ok
 | .typeAssert x _ asserted ok=>b0u P (o4 T x) asserted ok
 | .extract t ix=>b5G (o4 T t) ix
 | .call c=>match c.callee with
  | .builtin b=>match b,c.args.toList.map (o4 T),c.argTypes.toList with
   | .len,[x],[t]=>d1r P H t x
   | .cap,[x],[t]=>(c5f P t x).map fun(n:Nat)=> .int .i64 n
   | .min,l,_=>a4p false l
   | .max,l,_=>a4p true l
   |_,_,_=>none
  |_=>none
 |_=>none
abbrev FW:=FuncId→List AV→AHeap→(AV→AHeap→Prop)→Prop
def b4I(F:FW)(r:Option a1o)(K:AV→AHeap→Prop):Prop:=match r with
 |some (.val v H')=>K v H'
 |some (.call f args H')=>F f args H' K
 |none=>False
def b8a(H:AHeap)(f:AV)(args:List AV):Option a1o:=match f with
 | .fn (.func g) first captured=>U7 P H g (first++args++captured)
 | .fn (.method name) first captured=>match captured,first++args with
  | [], .ifc t v::rest=>(a1E P E H t v name).bind fun(g,r)=>U7 P H g (r::rest)
  |_,_=>none
 | .fn (.via t path g pointer) first captured=>match captured,path.toList,first++args,P.underlying t with
  | [],[],x::rest,some (.pointer _)=>if pointer then U7 P H g (x::rest) else none
  |_,_,_,_=>none
 |_=>none
def c9C(H:AHeap)(r:AV)(name:String)(args:List AV):Option a1o:=match r with
 | .ifc t v=>(a1E P E H t v name).bind fun(g,r)=>U7 P H g (r::args)
 |_=>none
def c4t(H:AHeap)(t:TypeId)(a x:AV)(K:AV→AHeap→Prop):Prop:=match a with
 | .ptr o i=>if D8 P t=some x.cells.length then a9 (E1 H o i x.cells) fun H'=>K A3 H' else False
 |_=>False
def opW(F:FW)(T:List AV)(H:AHeap)(o:Oper)(K:AV→AHeap→Prop):Prop:=
 match o.op with
 | .alloc e=>a9 (P0 P e) fun z=>K (.ptr (.new H.next) 0) (newCells H z.cells)
 | .box _ x=>K (.ptr (.new H.next) 0) (newCells H (o4 T x).cells)
 | .buildSlice t len parts=>a5j (O5 P H t len (parts.toList.map fun p=>(p.1,o4 T p.2))) K
 | .store t a x=>c4t P H t (o4 T a) (o4 T x) K
 | .convert src dst x=>a5j (O7 P E H src dst (o4 T x)) K
 | .makeMap _ r=>match r with
  |none=>K (.map H.next) (H.new (.map [] 0))
  |some _=>False
 | .makeSlice t l c=>a5j (O8 P H t (o4 T l) (o4 T c)) K
 | .mapUpdate t m k x| .insert t m k x=>a9 (a1D P H t (o4 T m) (o4 T k) (o4 T x)) fun H'=>K A3 H'
 | .mapEntry t m k=>a5j (a7R P H t (o4 T m) (o4 T k)) K
 | .entryStore _ m s x=>a9 (L4 H (o4 T m) (o4 T s) (o4 T x)) fun H'=>K A3 H'
 | .call c=>match c.callee with
  | .value (.func g)=>if a9c P g then F g (c.args.toList.map (o4 T)) H K else False
  | .value f=>b4I F (b8a P E H (o4 T f) (c.args.toList.map (o4 T))) K
  | .invoke r name=>b4I F (c9C P E H (o4 T r) name (c.args.toList.map (o4 T))) K
  | .builtin b=>match b,c.args.toList.map (o4 T),c.argTypes.toList with
   | .append,[s,x],[sT,xT]=>a5j (a1y P E H sT s xT x) K
   | .copy,[d,x],dT::_=>a5j (b2U P E H dT d x) K
   |_,_,_=>a9 (opV P E T H o) fun v=>K v H
 |_=>a9 (opV P E T H o) fun v=>K v H
end
section
variable(P:Program)(E:m7)(w0:a6E)
def c2r(F:FW)(ops:Array Oper)(T:List AV)(H:AHeap)(o:Oper)(K:AV→AHeap→Prop):Prop:=a7O (a0W ops T o) (opW P E F T H o) H K
def c8t(ops:Array Oper)(T:List AV)(H:AHeap)(o:Oper):Option AV:=c8B (a0W ops T o) (opV P E T H o)
def b3u(o:Oper):Option Operand:=match o.guard with
 |none=>match o.op with
  | .move x| .assign x=>some x
  |_=>none
 |some _=>none
def b8j(ops:Array Oper):List Oper→List AV→AHeap→(List AV→AHeap→Prop)→Prop
 | [],T,H,Q=>Q T H
 |o::l,T,H,Q=>if y9 P o≤1 then ∃v,b5f P E ops T H o=some v∧b8j ops l (a3o T o.dst v) H Q else a3i P E w0 ops T H o fun v H'=>b8j ops l (a3o T o.dst v) H' Q
end
section
variable{P:Program}{E:m7}{w0:a6E}
theorem c0r{r:Option AV}{H:AHeap}:c3t (r.map fun x=>a1o.val x H)=r:=by cases r<;>rfl
theorem d1T{T:List AV}{H:AHeap}{o:Oper}(hk:y9 P o≤1):c3t (opA P E T H o)=opV P E T H o:=by
 obtain⟨dst,op,type,pos,after,guard⟩:=o
 cases op<;>simp only[opA,opV]<;>try (first|rfl|exact c0r|(simp only[y9]at hk;omega))
 case pick c a b=>unfold c9P;cases o4 T c<;>rfl
 case load t a=>
  unfold c9f
  cases o4 T a<;>first|rfl|exact c0r
 case nilCheck x=>unfold d0m;split<;>simp_all [c3t]
 case binOp op t x y yt=>
  unfold c7K
  split
  ·exact c0r
  ·rfl
 case convert src dst x=>cases O7 P E H src dst (o4 T x)<;>rfl
 case makeInterface t x=>
  unfold c4N
  cases P.underlying t with
  |none=>rfl
  |some d=>cases d<;>rfl
 case extract t ix=>
  unfold b5G
  cases o4 T t<;>first|rfl|exact c0r
 case call c=>
  unfold a0V
  cases hc:c.callee with
  |value f=>simp only[y9,hc]at hk;omega
  |invoke r m=>simp only[y9,hc]at hk;omega
  |builtin b=>
   simp only[y9,hc]at hk
   generalize c.args.toList.map (o4 T)=as
   generalize c.argTypes.toList=ts
   cases b<;>simp at hk
   case len=>
    simp only[d1r]
    rcases as with _|⟨x,_|⟨y,as⟩⟩<;>rcases ts with _|⟨t,_|⟨u,ts⟩⟩<;>simp only<;>try rfl
    cases b7B P t x
    ·exact(by cases a7y P H t x<;>rfl)
    ·rfl
   case cap=>
    rcases as with _|⟨x,_|⟨y,as⟩⟩<;>rcases ts with _|⟨t,_|⟨u,ts⟩⟩<;>simp only<;>try rfl
    cases c5f P t x<;>rfl
   case min=>simp only;cases a4p false as<;>rfl
   case max=>simp only;cases a4p true as<;>rfl
theorem b3w{F:FW}{r:Option (AV×AHeap)}{K:AV→AHeap→Prop}(h:a5j r K):b4I F (r.map fun x=>a1o.val x.1 x.2) K:=by cases r<;>exact h
theorem c5k{F:FW}{r:Option AHeap}{K:AV→AHeap→Prop}(h:a9 r fun H'=>K A3 H'):b4I F (r.map fun H'=>a1o.val A3 H') K:=by cases r<;>exact h
theorem c6q{F:FW}{T:List AV}{H:AHeap}{o:Oper}{K:AV→AHeap→Prop}(hk:y9 P o≤1)(h:a9 (opV P E T H o) fun v=>K v H):b4I F (opA P E T H o) K:=by
 rw[←d1T hk]at h
 cases hr:opA P E T H o with
 |none=>rw[hr]at h;exact h.elim
 |some r=>
  rw[hr]at h
  cases r with
  |val v H1=>
   have:=c1w hk hr
   subst this
   exact h
  |call f args H1=>exact h.elim
theorem d4Z{F:FW}{T:List AV}{H:AHeap}{o:Oper}{K:AV→AHeap→Prop}(h:opW P E F T H o K):b4I F (opA P E T H o) K:=by
 by_cases hk:y9 P o≤1
 ·refine c6q hk ?_
  obtain⟨dst,op,type,pos,after,guard⟩:=o
  cases op<;>simp only[opW]at h<;>try (first|exact h|(simp only[y9]at hk;omega))
  case convert src dst x=>
   simp only[opV]
   have hr:∀v H1,O7 P E H src dst (o4 T x)=some (v,H1)→H1=H:=by
    intro v H1 e
    refine c1w (P:=P) (E:=E) (T:=T) (v:=v) hk ?_
    simp only[opA,e];rfl
   cases hc:O7 P E H src dst (o4 T x) with
   |none=>rw[hc]at h;exact h
   |some r=>
    obtain⟨v,H1⟩:=r
    rw[hc]at h
    have:=hr v H1 hc
    subst this
    exact h
  case call c=>
   cases hc:c.callee with
   |value f=>simp only[y9,hc]at hk;omega
   |invoke r m=>simp only[y9,hc]at hk;omega
   |builtin b=>
    simp only[y9,hc]at hk
    simp only[hc]at h
    cases b<;>simp at hk<;>exact h
 ·obtain⟨dst,op,type,pos,after,guard⟩:=o
  cases op<;>simp only[opW]at h<;>try ((simp only[y9]at hk;omega))
  all_goals try (simp only[opV]at h;exact h.elim)
  case alloc e=>
   simp only[opA]
   cases hz:P0 P e with
   |none=>rw[hz]at h;exact h.elim
   |some z=>rw[hz]at h;exact h
  case box e x=>exact h
  case buildSlice t n ps=>exact b3w h
  case insert t m k x=>exact c5k h
  case store t a x=>
   simp only[opA]
   cases ha:o4 T a<;>simp only[ha,c4t]at h ⊢
   split at h
   ·rename_i hs
    rw[if_pos hs];exact c5k h
   ·exact h.elim
  case convert src dst x=>exact b3w h
  case makeMap t r=>
   simp only[opA]
   cases r with
   |none=>exact h
   |some x=>exact h.elim
  case makeSlice t l c=>exact b3w h
  case mapUpdate t m k x=>exact c5k h
  case mapEntry t m k=>exact b3w h
  case entryStore t m s x=>exact c5k h
  case call c=>
   simp only[opA]
   unfold a0V
   cases hc:c.callee with
   |value f=>
    simp only[hc]at h ⊢
    cases f with
    |func g=>
     simp only[o4,U7]at h ⊢
     split at h
     ·rename_i hb;rw[if_pos hb];simp only[List.nil_append,List.append_nil];exact h
     ·exact h.elim
    |tmp t=>unfold b8a at h;exact h
    |const v=>unfold b8a at h;exact h
    |global g=>unfold b8a at h;exact h
   |invoke r m=>
    simp only[hc]at h ⊢
    exact h
   |builtin b=>
    simp only[y9,hc]at hk
    simp only[hc]at h ⊢
    generalize c.args.toList.map (o4 T)=as at h ⊢
    generalize c.argTypes.toList=ts at h ⊢
    simp only[opV,hc]at h
    cases b<;>simp at hk
    case append=>
     rcases as with _|⟨s,_|⟨x,_|⟨y,as⟩⟩⟩<;>rcases ts with _|⟨sT,_|⟨xT,_|⟨u,ts⟩⟩⟩<;>first|exact b3w h|exact h.elim
    case copy=>
     rcases as with _|⟨s,_|⟨x,_|⟨y,as⟩⟩⟩<;>rcases ts with _|⟨sT,ts⟩<;>first|exact b3w h|exact h.elim
    all_goals exact h.elim
theorem c0M{o:Oper}{x:Operand}(h:b3u o=some x):y9 P o=0∧∀(ops:Array Oper) (T:List AV) (H:AHeap),c8t P E ops T H o=some (o4 T x):=by
 obtain⟨dst,op,type,pos,after,guard⟩:=o
 unfold b3u at h
 cases guard with
 |some g=>cases h
 |none=>
  cases op<;>first|(cases h;done)|(cases h;exact⟨rfl,fun _ _ _=>rfl⟩)
theorem c9I{ops:Array Oper}{T:List AV}{H:AHeap}{o:Oper}{K:AV→AHeap→Prop}(h:c2r P E (FnW P E w0) ops T H o K):a3i P E w0 ops T H o K:=by
 have key:∀ {r:Option a1o},b4I (FnW P E w0) r K→c2T P E w0 T H o r K:=fun{r} h=>by
  cases r with
  |none=>exact h.elim
  |some r=>cases r<;>exact h
 unfold c2r at h
 unfold a3i
 generalize a0W ops T o=g at h ⊢
 cases g with
 |none=>exact h
 |some b=>cases b with
  |true=>exact key (d4Z h)
  |false=>exact h
theorem b7f{ops:Array Oper}{T:List AV}{H:AHeap}{o:Oper}(hk:y9 P o≤1):b5f P E ops T H o=c8t P E ops T H o:=by
 unfold b5f c8t
 rw[d1T hk]
theorem b3n{ops:Array Oper}:∀ {l:List Oper} {T:List AV} {H:AHeap} {Q Q':List AV→AHeap→Prop},(∀T H,Q T H→Q' T H)→b8j P E w0 ops l T H Q→b8j P E w0 ops l T H Q'
 | [],T,H,Q,Q',hq,h=>hq _ _ h
 |o::l,T,H,Q,Q',hq,h=>by
  rw[b8j]at*
  split at h
  ·rename_i hk
   rw[if_pos hk]
   obtain⟨v,h1,h2⟩:=h
   exact⟨v,h1,b3n hq h2⟩
  ·rename_i hk
   rw[if_neg hk]
   exact a3P h fun v H' h'=>b3n hq h'
theorem c0j{ops:Array Oper}:∀ {l:List Oper} {T:List AV} {H:AHeap} {Q:List AV→AHeap→Prop},b8j P E w0 ops l T H Q→c8Y P E w0 ops l T H Q
 | [],T,H,Q,h=>h
 |o::l,T,H,Q,h=>by
  rw[b8j]at h
  split at h
  ·rename_i hk
   obtain⟨v,h1,h2⟩:=h
   exact a3P (c2m hk h1) fun v' H' e=>by obtain⟨rfl,rfl⟩:=e;exact c0j h2
  ·exact a3P h fun v H' h'=>c0j h'
def l9:List Nat→Code→Code
 | [],c=>c
 |n::l,c=>match c with
  | .seq a b| .cond _ a b=>if n=0 then l9 l a else l9 l b
  | .block _ a| .loop a=>l9 l a
  |c=>c
end
end Go.Am
end
