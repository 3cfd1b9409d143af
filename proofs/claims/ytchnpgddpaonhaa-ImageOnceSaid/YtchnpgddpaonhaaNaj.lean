/-
  ImageOnceSaid: part Naj of its proof.
-/
import Derived.Test.YtchnpgddpaonhaaNai
set_option linter.unusedVariables false
set_option linter.unusedSimpArgs false
set_option maxRecDepth 100000
section
namespace Go.Am
def a4q(r:Option (AV×AHeap))(K:AV→AHeap→Prop):Prop:=match r with
 |some (v,H')=>K v H'
 |none=>False
def c7p(c a b:AV):Option AV:=match c with
 | .bool t=>some (if t then a else b)
 |_=>none
def c8f(x:AV):Option AV:=match x with
 | .nilPtr| .nilIfc| .nilFn| .opq _=>none
 | .fn (.method _) _ _=>none
 |y=>some y
def b5e(x:AV)(ix:Nat):Option AV:=match x with
 | .tup vs=>vs[ix]?
 |_=>none
section
variable(P:Program)(E:l9)
def c7R(H:AHeap)(t:TypeId)(a:AV):Option AV:=match a with
 | .ptr o i=>L6 P E H t o i
 |_=>none
def c2T(t:TypeId)(x:AV):Option AV:=match P.underlying t with
 |some (.interface _)=>none
 |some _=>some (.ifc t x)
 |none=>none
def c9I(H:AHeap)(t:TypeId)(x:AV):Option AV:=match b5C P t x with
 |some n=>some (.int .i64 n)
 |none=>(a6z P H t x).map fun(n:Nat)=> .int .i64 n
def c6V(op:BinOp)(t:TypeId)(x y:Operand)(a b:AV):Option AV:=if a1C P op t x y a b then b3e P op t a b else none
def opV(T:List AV)(H:AHeap)(o:Oper):Option AV:=
 match o.op with
 | .move x| .assign x=>some (m8 T x)
 | .pick c a b=>c7p (m8 T c) (m8 T a) (m8 T b)
 | .build t parts=>b0s P t (parts.toList.map fun p=>(p.1,m8 T p.2))
 | .load t a=>c7R P E H t (m8 T a)
 | .nilCheck x=>c8f (m8 T x)
 | .binOp op t x y _=>c6V P op t x y (m8 T x) (m8 T y)
 | .unOp op _ x=>unA op (m8 T x)
 | .convert src dst x=>(O2 P E H src dst (m8 T x)).map (·.1)
 | .makeInterface t x=>c2T P t (m8 T x)
 | .makeFunc fn first captured=>some (.fn fn (first.toList.map (m8 T)) (captured.toList.map (m8 T)))
 | .slice t x lo hi mx=>a1P P H t (m8 T x) (lo.map (m8 T)) (hi.map (m8 T)) (mx.map (m8 T))
 | .fieldAddr s x f=>a5U P s (m8 T x) f
 | .field s x f=>b3a P s (m8 T x) f
 | .indexAddr t x ix=>a1y P t (m8 T x) (m8 T ix)
 | .index t x ix=>b0p P t (m8 T x) (m8 T ix)
 | .lookup t x ix ok=>a6t P H t (m8 T x) (m8 T ix) ok
 | .typeAssert x _ asserted ok=>a8V P (m8 T x) asserted ok
 | .extract t ix=>b5e (m8 T t) ix
 | .call c=>match c.callee with
  | .builtin b=>match b,c.args.toList.map (m8 T),c.argTypes.toList with
   | .len,[x],[t]=>c9I P H t x
   | .cap,[x],[t]=>(c2r P t x).map fun(n:Nat)=> .int .i64 n
   | .min,l,_=>a3C false l
   | .max,l,_=>a3C true l
   |_,_,_=>none
  |_=>none
 |_=>none
abbrev FW:=FuncId→List AV→AHeap→(AV→AHeap→Prop)→Prop
def b3v(F:FW)(r:Option a0S)(K:AV→AHeap→Prop):Prop:=match r with
 |some (.val v H')=>K v H'
 |some (.call f args H')=>F f args H' K
 |none=>False
def b6z(H:AHeap)(f:AV)(args:List AV):Option a0S:=match f with
 | .fn (.func g) first captured=>R9 P H g (first++args++captured)
 | .fn (.method name) first captured=>match captured,first++args with
  | [], .ifc t v::rest=>(a1d P E H t v name).bind fun(g,r)=>R9 P H g (r::rest)
  |_,_=>none
 | .fn (.via t path g pointer) first captured=>match captured,path.toList,first++args,P.underlying t with
  | [],[],x::rest,some (.pointer _)=>if pointer then R9 P H g (x::rest) else none
  |_,_,_,_=>none
 |_=>none
def c7Z(H:AHeap)(r:AV)(name:String)(args:List AV):Option a0S:=match r with
 | .ifc t v=>(a1d P E H t v name).bind fun(g,r)=>R9 P H g (r::args)
 |_=>none
def c3f(H:AHeap)(t:TypeId)(a x:AV)(K:AV→AHeap→Prop):Prop:=match a with
 | .ptr o i=>if C9 P t=some x.cells.length then a9 (D4 H o i x.cells) fun H'=>K y9 H' else False
 |_=>False
def opW(F:FW)(T:List AV)(H:AHeap)(o:Oper)(K:AV→AHeap→Prop):Prop:=
 match o.op with
 | .alloc e=>a9 (N6 P e) fun z=>K (.ptr (.new H.next) 0) (newCells H z.cells)
 | .box _ x=>K (.ptr (.new H.next) 0) (newCells H (m8 T x).cells)
 | .buildSlice t len parts=>a4q (M7 P H t len (parts.toList.map fun p=>(p.1,m8 T p.2))) K
 | .store t a x=>c3f P H t (m8 T a) (m8 T x) K
 | .convert src dst x=>a4q (O2 P E H src dst (m8 T x)) K
 | .makeMap _ r=>match r with
  |none=>K (.map H.next) (H.new (.map [] 0))
  |some _=>False
 | .makeSlice t l c=>a4q (N8 P H t (m8 T l) (m8 T c)) K
 | .mapUpdate t m k x| .insert t m k x=>a9 (a1i P H t (m8 T m) (m8 T k) (m8 T x)) fun H'=>K y9 H'
 | .mapEntry t m k=>a4q (a7h P H t (m8 T m) (m8 T k)) K
 | .entryStore _ m s x=>a9 (K0 H (m8 T m) (m8 T s) (m8 T x)) fun H'=>K y9 H'
 | .call c=>match c.callee with
  | .value (.func g)=>if a7Y P g then F g (c.args.toList.map (m8 T)) H K else False
  | .value f=>b3v F (b6z P E H (m8 T f) (c.args.toList.map (m8 T))) K
  | .invoke r name=>b3v F (c7Z P E H (m8 T r) name (c.args.toList.map (m8 T))) K
  | .builtin b=>match b,c.args.toList.map (m8 T),c.argTypes.toList with
   | .append,[s,x],[sT,xT]=>a4q (a1e P E H sT s xT x) K
   | .copy,[d,x],dT::_=>a4q (b0z P E H dT d x) K
   |_,_,_=>a9 (opV P E T H o) fun v=>K v H
 |_=>a9 (opV P E T H o) fun v=>K v H
end
section
variable(P:Program)(E:l9)(w0:a5H)
def b8x(F:FW)(ops:Array Oper)(T:List AV)(H:AHeap)(o:Oper)(K:AV→AHeap→Prop):Prop:=a6T (a0y ops T o) (opW P E F T H o) H K
def c6J(ops:Array Oper)(T:List AV)(H:AHeap)(o:Oper):Option AV:=c6K (a0y ops T o) (opV P E T H o)
def b1O(o:Oper):Option Operand:=match o.guard with
 |none=>match o.op with
  | .move x| .assign x=>some x
  |_=>none
 |some _=>none
def b5Q(ops:Array Oper):List Oper→List AV→AHeap→(List AV→AHeap→Prop)→Prop
 | [],T,H,Q=>Q T H
 |o::l,T,H,Q=>if w7 P o≤1 then ∃v,b3h P E ops T H o=some v∧b5Q ops l (a2q T o.dst v) H Q else a2I P E w0 ops T H o fun v H'=>b5Q ops l (a2q T o.dst v) H' Q
end
section
variable{P:Program}{E:l9}{w0:a5H}
theorem b8n{r:Option AV}{H:AHeap}:c1T (r.map fun x=>a0S.val x H)=r:=by cases r<;>rfl
theorem d0i{T:List AV}{H:AHeap}{o:Oper}(hk:w7 P o≤1):c1T (opA P E T H o)=opV P E T H o:=by
 obtain⟨dst,op,type,pos,after,guard⟩:=o
 cases op<;>simp only[opA,opV]<;>try (first|rfl|exact b8n|(simp only[w7]at hk;omega))
 case pick c a b=>unfold c7p;cases m8 T c<;>rfl
 case load t a=>
  unfold c7R
  cases m8 T a<;>first|rfl|exact b8n
 case nilCheck x=>unfold c8f;split<;>simp_all [c1T]
 case binOp op t x y yt=>
  unfold c6V
  split
  ·exact b8n
  ·rfl
 case convert src dst x=>cases O2 P E H src dst (m8 T x)<;>rfl
 case makeInterface t x=>
  unfold c2T
  cases P.underlying t with
  |none=>rfl
  |some d=>cases d<;>rfl
 case extract t ix=>
  unfold b5e
  cases m8 T t<;>first|rfl|exact b8n
 case call c=>
  unfold a0z
  cases hc:c.callee with
  |value f=>simp only[w7,hc]at hk;omega
  |invoke r m=>simp only[w7,hc]at hk;omega
  |builtin b=>
   simp only[w7,hc]at hk
   generalize c.args.toList.map (m8 T)=as
   generalize c.argTypes.toList=ts
   cases b<;>simp at hk
   case len=>
    simp only[c9I]
    rcases as with _|⟨x,_|⟨y,as⟩⟩<;>rcases ts with _|⟨t,_|⟨u,ts⟩⟩<;>simp only<;>try rfl
    cases b5C P t x
    ·exact(by cases a6z P H t x<;>rfl)
    ·rfl
   case cap=>
    rcases as with _|⟨x,_|⟨y,as⟩⟩<;>rcases ts with _|⟨t,_|⟨u,ts⟩⟩<;>simp only<;>try rfl
    cases c2r P t x<;>rfl
   case min=>simp only;cases a3C false as<;>rfl
   case max=>simp only;cases a3C true as<;>rfl
theorem b1N{F:FW}{r:Option (AV×AHeap)}{K:AV→AHeap→Prop}(h:a4q r K):b3v F (r.map fun x=>a0S.val x.1 x.2) K:=by cases r<;>exact h
theorem c2q{F:FW}{r:Option AHeap}{K:AV→AHeap→Prop}(h:a9 r fun H'=>K y9 H'):b3v F (r.map fun H'=>a0S.val y9 H') K:=by cases r<;>exact h
theorem c4t{F:FW}{T:List AV}{H:AHeap}{o:Oper}{K:AV→AHeap→Prop}(hk:w7 P o≤1)(h:a9 (opV P E T H o) fun v=>K v H):b3v F (opA P E T H o) K:=by
 rw[←d0i hk]at h
 cases hr:opA P E T H o with
 |none=>rw[hr]at h;exact h.elim
 |some r=>
  rw[hr]at h
  cases r with
  |val v H1=>
   have:=b9B hk hr
   subst this
   exact h
  |call f args H1=>exact h.elim
theorem d1V{F:FW}{T:List AV}{H:AHeap}{o:Oper}{K:AV→AHeap→Prop}(h:opW P E F T H o K):b3v F (opA P E T H o) K:=by
 by_cases hk:w7 P o≤1
 ·refine c4t hk ?_
  obtain⟨dst,op,type,pos,after,guard⟩:=o
  cases op<;>simp only[opW]at h<;>try (first|exact h|(simp only[w7]at hk;omega))
  case convert src dst x=>
   simp only[opV]
   have hr:∀v H1,O2 P E H src dst (m8 T x)=some (v,H1)→H1=H:=by
    intro v H1 e
    refine b9B (P:=P) (E:=E) (T:=T) (v:=v) hk ?_
    simp only[opA,e];rfl
   cases hc:O2 P E H src dst (m8 T x) with
   |none=>rw[hc]at h;exact h
   |some r=>
    obtain⟨v,H1⟩:=r
    rw[hc]at h
    have:=hr v H1 hc
    subst this
    exact h
  case call c=>
   cases hc:c.callee with
   |value f=>simp only[w7,hc]at hk;omega
   |invoke r m=>simp only[w7,hc]at hk;omega
   |builtin b=>
    simp only[w7,hc]at hk
    simp only[hc]at h
    cases b<;>simp at hk<;>exact h
 ·obtain⟨dst,op,type,pos,after,guard⟩:=o
  cases op<;>simp only[opW]at h<;>try ((simp only[w7]at hk;omega))
  all_goals try (simp only[opV]at h;exact h.elim)
  case alloc e=>
   simp only[opA]
   cases hz:N6 P e with
   |none=>rw[hz]at h;exact h.elim
   |some z=>rw[hz]at h;exact h
  case box e x=>exact h
  case buildSlice t n ps=>exact b1N h
  case insert t m k x=>exact c2q h
  case store t a x=>
   simp only[opA]
   cases ha:m8 T a<;>simp only[ha,c3f]at h ⊢
   split at h
   ·rename_i hs
    rw[if_pos hs];exact c2q h
   ·exact h.elim
  case convert src dst x=>exact b1N h
  case makeMap t r=>
   simp only[opA]
   cases r with
   |none=>exact h
   |some x=>exact h.elim
  case makeSlice t l c=>exact b1N h
  case mapUpdate t m k x=>exact c2q h
  case mapEntry t m k=>exact b1N h
  case entryStore t m s x=>exact c2q h
  case call c=>
   simp only[opA]
   unfold a0z
   cases hc:c.callee with
   |value f=>
    simp only[hc]at h ⊢
    cases f with
    |func g=>
     simp only[m8,R9]at h ⊢
     split at h
     ·rename_i hb;rw[if_pos hb];simp only[List.nil_append,List.append_nil];exact h
     ·exact h.elim
    |tmp t=>unfold b6z at h;exact h
    |const v=>unfold b6z at h;exact h
    |global g=>unfold b6z at h;exact h
   |invoke r m=>
    simp only[hc]at h ⊢
    exact h
   |builtin b=>
    simp only[w7,hc]at hk
    simp only[hc]at h ⊢
    generalize c.args.toList.map (m8 T)=as at h ⊢
    generalize c.argTypes.toList=ts at h ⊢
    simp only[opV,hc]at h
    cases b<;>simp at hk
    case append=>
     rcases as with _|⟨s,_|⟨x,_|⟨y,as⟩⟩⟩<;>rcases ts with _|⟨sT,_|⟨xT,_|⟨u,ts⟩⟩⟩<;>first|exact b1N h|exact h.elim
    case copy=>
     rcases as with _|⟨s,_|⟨x,_|⟨y,as⟩⟩⟩<;>rcases ts with _|⟨sT,ts⟩<;>first|exact b1N h|exact h.elim
    all_goals exact h.elim
theorem b9S{o:Oper}{x:Operand}(h:b1O o=some x):w7 P o=0∧∀(ops:Array Oper) (T:List AV) (H:AHeap),c6J P E ops T H o=some (m8 T x):=by
 obtain⟨dst,op,type,pos,after,guard⟩:=o
 unfold b1O at h
 cases guard with
 |some g=>cases h
 |none=>
  cases op<;>first|(cases h;done)|(cases h;exact⟨rfl,fun _ _ _=>rfl⟩)
theorem c7d{ops:Array Oper}{T:List AV}{H:AHeap}{o:Oper}{K:AV→AHeap→Prop}(h:b8x P E (FnW P E w0) ops T H o K):a2I P E w0 ops T H o K:=by
 have key:∀ {r:Option a0S},b3v (FnW P E w0) r K→c0K P E w0 T H o r K:=fun{r} h=>by
  cases r with
  |none=>exact h.elim
  |some r=>cases r<;>exact h
 unfold b8x at h
 unfold a2I
 generalize a0y ops T o=g at h ⊢
 cases g with
 |none=>exact h
 |some b=>cases b with
  |true=>exact key (d1V h)
  |false=>exact h
theorem b4N{ops:Array Oper}{T:List AV}{H:AHeap}{o:Oper}(hk:w7 P o≤1):b3h P E ops T H o=c6J P E ops T H o:=by
 unfold b3h c6J
 rw[d0i hk]
theorem b1V{ops:Array Oper}:∀ {l:List Oper} {T:List AV} {H:AHeap} {Q Q':List AV→AHeap→Prop},(∀T H,Q T H→Q' T H)→b5Q P E w0 ops l T H Q→b5Q P E w0 ops l T H Q'
 | [],T,H,Q,Q',hq,h=>hq _ _ h
 |o::l,T,H,Q,Q',hq,h=>by
  rw[b5Q]at*
  split at h
  ·rename_i hk
   rw[if_pos hk]
   obtain⟨v,h1,h2⟩:=h
   exact⟨v,h1,b1V hq h2⟩
  ·rename_i hk
   rw[if_neg hk]
   exact a3l h fun v H' h'=>b1V hq h'
theorem b8j{ops:Array Oper}:∀ {l:List Oper} {T:List AV} {H:AHeap} {Q:List AV→AHeap→Prop},b5Q P E w0 ops l T H Q→c5J P E w0 ops l T H Q
 | [],T,H,Q,h=>h
 |o::l,T,H,Q,h=>by
  rw[b5Q]at h
  split at h
  ·rename_i hk
   obtain⟨v,h1,h2⟩:=h
   exact a3l (b8W hk h1) fun v' H' e=>by obtain⟨rfl,rfl⟩:=e;exact b8j h2
  ·exact a3l h fun v H' h'=>b8j h'
def l8:List Nat→Code→Code
 | [],c=>c
 |n::l,c=>match c with
  | .seq a b| .cond _ a b=>if n=0 then l8 l a else l8 l b
  | .block _ a| .loop a=>l8 l a
  |c=>c
end
end Go.Am
end
