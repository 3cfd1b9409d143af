/-
  ImageSpoiltSaid: part Paj of its proof.
-/
import Derived.Test.YtchnpgddpaonhaaPai
set_option linter.unusedVariables false
set_option linter.unusedSimpArgs false
set_option maxRecDepth 100000
section
namespace Go.Am
def a4F(r:Option (AV×AHeap))(K:AV→AHeap→Prop):Prop:=match r with
 |some (v,H')=>K v H'
 |none=>False
def c8N(c a b:AV):Option AV:=match c with
 | .bool t=>some (if t then a else b)
 |_=>none
def d0v(x:AV):Option AV:=match x with
 | .nilPtr| .nilIfc| .nilFn| .opq _=>none
 | .fn (.method _) _ _=>none
 |y=>some y
def b6c(x:AV)(ix:Nat):Option AV:=match x with
 | .tup vs=>vs[ix]?
 |_=>none
section
variable(P:Program)(E:m6)
def c8M(H:AHeap)(t:TypeId)(a:AV):Option AV:=match a with
 | .ptr o i=>M4 P E H t o i
 |_=>none
def c3S(t:TypeId)(x:AV):Option AV:=match P.underlying t with
 |some (.interface _)=>none
 |some _=>some (.ifc t x)
 |none=>none
def d1Y(H:AHeap)(t:TypeId)(x:AV):Option AV:=match b6R P t x with
 |some n=>some (.int .i64 n)
 |none=>(a6T P H t x).map fun(n:Nat)=> .int .i64 n
def c7H(op:BinOp)(t:TypeId)(x y:Operand)(a b:AV):Option AV:=if a1Q P op t x y a b then b3M P op t a b else none
def opV(T:List AV)(H:AHeap)(o:Oper):Option AV:=
 match o.op with
 | .move x| .assign x=>some (o0 T x)
 | .pick c a b=>c8N (o0 T c) (o0 T a) (o0 T b)
 | .build t parts=>b2n P t (parts.toList.map fun p=>(p.1,o0 T p.2))
 | .load t a=>c8M P E H t (o0 T a)
 | .nilCheck x=>d0v (o0 T x)
 | .binOp op t x y _=>c7H P op t x y (o0 T x) (o0 T y)
 | .unOp op _ x=>unA op (o0 T x)
 | .convert src dst x=>(P3 P E H src dst (o0 T x)).map (·.1)
 | .makeInterface t x=>c3S P t (o0 T x)
 | .makeFunc fn first captured=>some (.fn fn (first.toList.map (o0 T)) (captured.toList.map (o0 T)))
 | .slice t x lo hi mx=>a2e P H t (o0 T x) (lo.map (o0 T)) (hi.map (o0 T)) (mx.map (o0 T))
 | .fieldAddr s x f=>a5w P s (o0 T x) f
 | .field s x f=>b3J P s (o0 T x) f
 | .indexAddr t x ix=>a1N P t (o0 T x) (o0 T ix)
 | .index t x ix=>b1N P t (o0 T x) (o0 T ix)
 | .lookup t x ix ok=>a6P P H t (o0 T x) (o0 T ix) ok
 | .typeAssert x _ asserted ok=>a8W P (o0 T x) asserted ok
 | .extract t ix=>b6c (o0 T t) ix
 | .call c=>match c.callee with
  | .builtin b=>match b,c.args.toList.map (o0 T),c.argTypes.toList with
   | .len,[x],[t]=>d1Y P H t x
   | .cap,[x],[t]=>(c5b P t x).map fun(n:Nat)=> .int .i64 n
   | .min,l,_=>a3W false l
   | .max,l,_=>a3W true l
   |_,_,_=>none
  |_=>none
 |_=>none
abbrev FW:=FuncId→List AV→AHeap→(AV→AHeap→Prop)→Prop
def b3T(F:FW)(r:Option a0Y)(K:AV→AHeap→Prop):Prop:=match r with
 |some (.val v H')=>K v H'
 |some (.call f args H')=>F f args H' K
 |none=>False
def b6Z(H:AHeap)(f:AV)(args:List AV):Option a0Y:=match f with
 | .fn (.func g) first captured=>W9 P H g (first++args++captured)
 | .fn (.method name) first captured=>match captured,first++args with
  | [], .ifc t v::rest=>(a1v P E H t v name).bind fun(g,r)=>W9 P H g (r::rest)
  |_,_=>none
 | .fn (.via t path g pointer) first captured=>match captured,path.toList,first++args,P.underlying t with
  | [],[],x::rest,some (.pointer _)=>if pointer then W9 P H g (x::rest) else none
  |_,_,_,_=>none
 |_=>none
def c8Z(H:AHeap)(r:AV)(name:String)(args:List AV):Option a0Y:=match r with
 | .ifc t v=>(a1v P E H t v name).bind fun(g,r)=>W9 P H g (r::args)
 |_=>none
def c4G(H:AHeap)(t:TypeId)(a x:AV)(K:AV→AHeap→Prop):Prop:=match a with
 | .ptr o i=>if D7 P t=some x.cells.length then a9 (E1 H o i x.cells) fun H'=>K A0 H' else False
 |_=>False
def opW(F:FW)(T:List AV)(H:AHeap)(o:Oper)(K:AV→AHeap→Prop):Prop:=
 match o.op with
 | .alloc e=>a9 (P5 P e) fun z=>K (.ptr (.new H.next) 0) (newCells H z.cells)
 | .box _ x=>K (.ptr (.new H.next) 0) (newCells H (o0 T x).cells)
 | .buildSlice t len parts=>a4F (O1 P H t len (parts.toList.map fun p=>(p.1,o0 T p.2))) K
 | .store t a x=>c4G P H t (o0 T a) (o0 T x) K
 | .convert src dst x=>a4F (P3 P E H src dst (o0 T x)) K
 | .makeMap _ r=>match r with
  |none=>K (.map H.next) (H.new (.map [] 0))
  |some _=>False
 | .makeSlice t l c=>a4F (O6 P H t (o0 T l) (o0 T c)) K
 | .mapUpdate t m k x| .insert t m k x=>a9 (a1r P H t (o0 T m) (o0 T k) (o0 T x)) fun H'=>K A0 H'
 | .mapEntry t m k=>a4F (a7t P H t (o0 T m) (o0 T k)) K
 | .entryStore _ m s x=>a9 (K8 H (o0 T m) (o0 T s) (o0 T x)) fun H'=>K A0 H'
 | .call c=>match c.callee with
  | .value (.func g)=>if a9X P g then F g (c.args.toList.map (o0 T)) H K else False
  | .value f=>b3T F (b6Z P E H (o0 T f) (c.args.toList.map (o0 T))) K
  | .invoke r name=>b3T F (c8Z P E H (o0 T r) name (c.args.toList.map (o0 T))) K
  | .builtin b=>match b,c.args.toList.map (o0 T),c.argTypes.toList with
   | .append,[s,x],[sT,xT]=>a4F (a1s P E H sT s xT x) K
   | .copy,[d,x],dT::_=>a4F (b1u P E H dT d x) K
   |_,_,_=>a9 (opV P E T H o) fun v=>K v H
 |_=>a9 (opV P E T H o) fun v=>K v H
end
section
variable(P:Program)(E:m6)(w0:a5P)
def b9V(F:FW)(ops:Array Oper)(T:List AV)(H:AHeap)(o:Oper)(K:AV→AHeap→Prop):Prop:=a7F (a0M ops T o) (opW P E F T H o) H K
def c8a(ops:Array Oper)(T:List AV)(H:AHeap)(o:Oper):Option AV:=c7R (a0M ops T o) (opV P E T H o)
def b2A(o:Oper):Option Operand:=match o.guard with
 |none=>match o.op with
  | .move x| .assign x=>some x
  |_=>none
 |some _=>none
def b6u(ops:Array Oper):List Oper→List AV→AHeap→(List AV→AHeap→Prop)→Prop
 | [],T,H,Q=>Q T H
 |o::l,T,H,Q=>if y8 P o≤1 then ∃v,b4w P E ops T H o=some v∧b6u ops l (a2T T o.dst v) H Q else a2M P E w0 ops T H o fun v H'=>b6u ops l (a2T T o.dst v) H' Q
end
section
variable{P:Program}{E:m6}{w0:a5P}
theorem b9o{r:Option AV}{H:AHeap}:c3l (r.map fun x=>a0Y.val x H)=r:=by cases r<;>rfl
theorem d1J{T:List AV}{H:AHeap}{o:Oper}(hk:y8 P o≤1):c3l (opA P E T H o)=opV P E T H o:=by
 obtain⟨dst,op,type,pos,after,guard⟩:=o
 cases op<;>simp only[opA,opV]<;>try (first|rfl|exact b9o|(simp only[y8]at hk;omega))
 case pick c a b=>unfold c8N;cases o0 T c<;>rfl
 case load t a=>
  unfold c8M
  cases o0 T a<;>first|rfl|exact b9o
 case nilCheck x=>unfold d0v;split<;>simp_all [c3l]
 case binOp op t x y yt=>
  unfold c7H
  split
  ·exact b9o
  ·rfl
 case convert src dst x=>cases P3 P E H src dst (o0 T x)<;>rfl
 case makeInterface t x=>
  unfold c3S
  cases P.underlying t with
  |none=>rfl
  |some d=>cases d<;>rfl
 case extract t ix=>
  unfold b6c
  cases o0 T t<;>first|rfl|exact b9o
 case call c=>
  unfold a0N
  cases hc:c.callee with
  |value f=>simp only[y8,hc]at hk;omega
  |invoke r m=>simp only[y8,hc]at hk;omega
  |builtin b=>
   simp only[y8,hc]at hk
   generalize c.args.toList.map (o0 T)=as
   generalize c.argTypes.toList=ts
   cases b<;>simp at hk
   case len=>
    simp only[d1Y]
    rcases as with _|⟨x,_|⟨y,as⟩⟩<;>rcases ts with _|⟨t,_|⟨u,ts⟩⟩<;>simp only<;>try rfl
    cases b6R P t x
    ·exact(by cases a6T P H t x<;>rfl)
    ·rfl
   case cap=>
    rcases as with _|⟨x,_|⟨y,as⟩⟩<;>rcases ts with _|⟨t,_|⟨u,ts⟩⟩<;>simp only<;>try rfl
    cases c5b P t x<;>rfl
   case min=>simp only;cases a3W false as<;>rfl
   case max=>simp only;cases a3W true as<;>rfl
theorem b2K{F:FW}{r:Option (AV×AHeap)}{K:AV→AHeap→Prop}(h:a4F r K):b3T F (r.map fun x=>a0Y.val x.1 x.2) K:=by cases r<;>exact h
theorem c3M{F:FW}{r:Option AHeap}{K:AV→AHeap→Prop}(h:a9 r fun H'=>K A0 H'):b3T F (r.map fun H'=>a0Y.val A0 H') K:=by cases r<;>exact h
theorem c7c{F:FW}{T:List AV}{H:AHeap}{o:Oper}{K:AV→AHeap→Prop}(hk:y8 P o≤1)(h:a9 (opV P E T H o) fun v=>K v H):b3T F (opA P E T H o) K:=by
 rw[←d1J hk]at h
 cases hr:opA P E T H o with
 |none=>rw[hr]at h;exact h.elim
 |some r=>
  rw[hr]at h
  cases r with
  |val v H1=>
   have:=c0j hk hr
   subst this
   exact h
  |call f args H1=>exact h.elim
theorem d4h{F:FW}{T:List AV}{H:AHeap}{o:Oper}{K:AV→AHeap→Prop}(h:opW P E F T H o K):b3T F (opA P E T H o) K:=by
 by_cases hk:y8 P o≤1
 ·refine c7c hk ?_
  obtain⟨dst,op,type,pos,after,guard⟩:=o
  cases op<;>simp only[opW]at h<;>try (first|exact h|(simp only[y8]at hk;omega))
  case convert src dst x=>
   simp only[opV]
   have hr:∀v H1,P3 P E H src dst (o0 T x)=some (v,H1)→H1=H:=by
    intro v H1 e
    refine c0j (P:=P) (E:=E) (T:=T) (v:=v) hk ?_
    simp only[opA,e];rfl
   cases hc:P3 P E H src dst (o0 T x) with
   |none=>rw[hc]at h;exact h
   |some r=>
    obtain⟨v,H1⟩:=r
    rw[hc]at h
    have:=hr v H1 hc
    subst this
    exact h
  case call c=>
   cases hc:c.callee with
   |value f=>simp only[y8,hc]at hk;omega
   |invoke r m=>simp only[y8,hc]at hk;omega
   |builtin b=>
    simp only[y8,hc]at hk
    simp only[hc]at h
    cases b<;>simp at hk<;>exact h
 ·obtain⟨dst,op,type,pos,after,guard⟩:=o
  cases op<;>simp only[opW]at h<;>try ((simp only[y8]at hk;omega))
  all_goals try (simp only[opV]at h;exact h.elim)
  case alloc e=>
   simp only[opA]
   cases hz:P5 P e with
   |none=>rw[hz]at h;exact h.elim
   |some z=>rw[hz]at h;exact h
  case box e x=>exact h
  case buildSlice t n ps=>exact b2K h
  case insert t m k x=>exact c3M h
  case store t a x=>
   simp only[opA]
   cases ha:o0 T a<;>simp only[ha,c4G]at h ⊢
   split at h
   ·rename_i hs
    rw[if_pos hs];exact c3M h
   ·exact h.elim
  case convert src dst x=>exact b2K h
  case makeMap t r=>
   simp only[opA]
   cases r with
   |none=>exact h
   |some x=>exact h.elim
  case makeSlice t l c=>exact b2K h
  case mapUpdate t m k x=>exact c3M h
  case mapEntry t m k=>exact b2K h
  case entryStore t m s x=>exact c3M h
  case call c=>
   simp only[opA]
   unfold a0N
   cases hc:c.callee with
   |value f=>
    simp only[hc]at h ⊢
    cases f with
    |func g=>
     simp only[o0,W9]at h ⊢
     split at h
     ·rename_i hb;rw[if_pos hb];simp only[List.nil_append,List.append_nil];exact h
     ·exact h.elim
    |tmp t=>unfold b6Z at h;exact h
    |const v=>unfold b6Z at h;exact h
    |global g=>unfold b6Z at h;exact h
   |invoke r m=>
    simp only[hc]at h ⊢
    exact h
   |builtin b=>
    simp only[y8,hc]at hk
    simp only[hc]at h ⊢
    generalize c.args.toList.map (o0 T)=as at h ⊢
    generalize c.argTypes.toList=ts at h ⊢
    simp only[opV,hc]at h
    cases b<;>simp at hk
    case append=>
     rcases as with _|⟨s,_|⟨x,_|⟨y,as⟩⟩⟩<;>rcases ts with _|⟨sT,_|⟨xT,_|⟨u,ts⟩⟩⟩<;>first|exact b2K h|exact h.elim
    case copy=>
     rcases as with _|⟨s,_|⟨x,_|⟨y,as⟩⟩⟩<;>rcases ts with _|⟨sT,ts⟩<;>first|exact b2K h|exact h.elim
    all_goals exact h.elim
theorem c0z{o:Oper}{x:Operand}(h:b2A o=some x):y8 P o=0∧∀(ops:Array Oper) (T:List AV) (H:AHeap),c8a P E ops T H o=some (o0 T x):=by
 obtain⟨dst,op,type,pos,after,guard⟩:=o
 unfold b2A at h
 cases guard with
 |some g=>cases h
 |none=>
  cases op<;>first|(cases h;done)|(cases h;exact⟨rfl,fun _ _ _=>rfl⟩)
theorem c8S{ops:Array Oper}{T:List AV}{H:AHeap}{o:Oper}{K:AV→AHeap→Prop}(h:b9V P E (FnW P E w0) ops T H o K):a2M P E w0 ops T H o K:=by
 have key:∀ {r:Option a0Y},b3T (FnW P E w0) r K→c2r P E w0 T H o r K:=fun{r} h=>by
  cases r with
  |none=>exact h.elim
  |some r=>cases r<;>exact h
 unfold b9V at h
 unfold a2M
 generalize a0M ops T o=g at h ⊢
 cases g with
 |none=>exact h
 |some b=>cases b with
  |true=>exact key (d4h h)
  |false=>exact h
theorem b4V{ops:Array Oper}{T:List AV}{H:AHeap}{o:Oper}(hk:y8 P o≤1):b4w P E ops T H o=c8a P E ops T H o:=by
 unfold b4w c8a
 rw[d1J hk]
theorem b2H{ops:Array Oper}:∀ {l:List Oper} {T:List AV} {H:AHeap} {Q Q':List AV→AHeap→Prop},(∀T H,Q T H→Q' T H)→b6u P E w0 ops l T H Q→b6u P E w0 ops l T H Q'
 | [],T,H,Q,Q',hq,h=>hq _ _ h
 |o::l,T,H,Q,Q',hq,h=>by
  rw[b6u]at*
  split at h
  ·rename_i hk
   rw[if_pos hk]
   obtain⟨v,h1,h2⟩:=h
   exact⟨v,h1,b2H hq h2⟩
  ·rename_i hk
   rw[if_neg hk]
   exact a3N h fun v H' h'=>b2H hq h'
theorem b9l{ops:Array Oper}:∀ {l:List Oper} {T:List AV} {H:AHeap} {Q:List AV→AHeap→Prop},b6u P E w0 ops l T H Q→c8f P E w0 ops l T H Q
 | [],T,H,Q,h=>h
 |o::l,T,H,Q,h=>by
  rw[b6u]at h
  split at h
  ·rename_i hk
   obtain⟨v,h1,h2⟩:=h
   exact a3N (c0y hk h1) fun v' H' e=>by obtain⟨rfl,rfl⟩:=e;exact b9l h2
  ·exact a3N h fun v H' h'=>b9l h'
def l9:List Nat→Code→Code
 | [],c=>c
 |n::l,c=>match c with
  | .seq a b| .cond _ a b=>if n=0 then l9 l a else l9 l b
  | .block _ a| .loop a=>l9 l a
  |c=>c
end
end Go.Am
end
