/-
  BlocksCutsSaid: part Paj of its proof.
-/
import Derived.Test.YtdkidgkiplcggaaPai
set_option linter.unusedVariables false
set_option linter.unusedSimpArgs false
set_option maxRecDepth 100000
section
namespace Go.Am
def a2g(r:Option (AV×AHeap))(K:AV→AHeap→Prop):Prop:=match r with
 |some (v,H')=>K v H'
 |none=>False
def c5i(c a b:AV):Option AV:=match c with
 | .bool t=>some (if t then a else b)
 |_=>none
def c5Z(x:AV):Option AV:=match x with
 | .nilPtr| .nilIfc| .nilFn| .opq _=>none
 | .fn (.method _) _ _=>none
 |y=>some y
def b1p(x:AV)(ix:Nat):Option AV:=match x with
 | .tup vs=>vs[ix]?
 |_=>none
section
variable(P:Program)(E:g8)
def c4f(H:AHeap)(t:TypeId)(a:AV):Option AV:=match a with
 | .ptr o i=>H4 P E H t o i
 |_=>none
def b9X(t:TypeId)(x:AV):Option AV:=match P.underlying t with
 |some (.interface _)=>none
 |some _=>some (.ifc t x)
 |none=>none
def c3W(H:AHeap)(t:TypeId)(x:AV):Option AV:=match b0D P t x with
 |some n=>some (.int .i64 n)
 |none=>(a1P P H t x).map fun(n:Nat)=> .int .i64 n
def c4c(op:BinOp)(t:TypeId)(x y:Operand)(a b:AV):Option AV:=if a0j P op t x y a b then a9Y P op t a b else none
def opV(T:List AV)(H:AHeap)(o:Oper):Option AV:=
 match o.op with
 | .move x| .assign x=>some (i4 T x)
 | .pick c a b=>c5i (i4 T c) (i4 T a) (i4 T b)
 | .build t parts=>a7Y P t (parts.toList.map fun p=>(p.1,i4 T p.2))
 | .load t a=>c4f P E H t (i4 T a)
 | .nilCheck x=>c5Z (i4 T x)
 | .binOp op t x y _=>c4c P op t x y (i4 T x) (i4 T y)
 | .unOp op _ x=>unA op (i4 T x)
 | .convert src dst x=>(J3 P E H src dst (i4 T x)).map (·.1)
 | .makeInterface t x=>b9X P t (i4 T x)
 | .makeFunc fn first captured=>some (.fn fn (first.toList.map (i4 T)) (captured.toList.map (i4 T)))
 | .slice t x lo hi mx=>a0G P H t (i4 T x) (lo.map (i4 T)) (hi.map (i4 T)) (mx.map (i4 T))
 | .fieldAddr s x f=>a3E P s (i4 T x) f
 | .field s x f=>b0b P s (i4 T x) f
 | .indexAddr t x ix=>a0o P t (i4 T x) (i4 T ix)
 | .index t x ix=>a7n P t (i4 T x) (i4 T ix)
 | .lookup t x ix ok=>a1g P H t (i4 T x) (i4 T ix) ok
 | .typeAssert x _ asserted ok=>a6k P (i4 T x) asserted ok
 | .extract t ix=>b1p (i4 T t) ix
 | .call c=>match c.callee with
  | .builtin b=>match b,c.args.toList.map (i4 T),c.argTypes.toList with
   | .len,[x],[t]=>c3W P H t x
   | .cap,[x],[t]=>(b9w P t x).map fun(n:Nat)=> .int .i64 n
   | .min,l,_=>a1W false l
   | .max,l,_=>a1W true l
   |_,_,_=>none
  |_=>none
 |_=>none
abbrev FW:=FuncId→List AV→AHeap→(AV→AHeap→Prop)→Prop
def b0q(F:FW)(r:Option W7)(K:AV→AHeap→Prop):Prop:=match r with
 |some (.val v H')=>K v H'
 |some (.call f args H')=>F f args H' K
 |none=>False
def b3e(H:AHeap)(f:AV)(args:List AV):Option W7:=match f with
 | .fn (.func g) first captured=>J7 P H g (first++args++captured)
 | .fn (.method name) first captured=>match captured,first++args with
  | [], .ifc t v::rest=>(Z3 P E H t v name).bind fun(g,r)=>J7 P H g (r::rest)
  |_,_=>none
 | .fn (.via t path g pointer) first captured=>match captured,path.toList,first++args,P.underlying t with
  | [],[],x::rest,some (.pointer _)=>if pointer then J7 P H g (x::rest) else none
  |_,_,_,_=>none
 |_=>none
def c5k(H:AHeap)(r:AV)(name:String)(args:List AV):Option W7:=match r with
 | .ifc t v=>(Z3 P E H t v name).bind fun(g,r)=>J7 P H g (r::args)
 |_=>none
def b9I(H:AHeap)(t:TypeId)(a x:AV)(K:AV→AHeap→Prop):Prop:=match a with
 | .ptr o i=>if A4 P t=some x.cells.length then b4 (z8 H o i x.cells) fun H'=>K s8 H' else False
 |_=>False
def opW(F:FW)(T:List AV)(H:AHeap)(o:Oper)(K:AV→AHeap→Prop):Prop:=
 match o.op with
 | .alloc e=>b4 (G7 P e) fun z=>K (.ptr (.new H.next) 0) (newCells H z.cells)
 | .box _ x=>K (.ptr (.new H.next) 0) (newCells H (i4 T x).cells)
 | .buildSlice t len parts=>a2g (I2 P H t len (parts.toList.map fun p=>(p.1,i4 T p.2))) K
 | .store t a x=>b9I P H t (i4 T a) (i4 T x) K
 | .convert src dst x=>a2g (J3 P E H src dst (i4 T x)) K
 | .makeMap _ r=>match r with
  |none=>K (.map H.next) (H.new (.map [] 0))
  |some _=>False
 | .makeSlice t l c=>a2g (I6 P H t (i4 T l) (i4 T c)) K
 | .mapUpdate t m k x| .insert t m k x=>b4 (P5 P H t (i4 T m) (i4 T k) (i4 T x)) fun H'=>K s8 H'
 | .mapEntry t m k=>a2g (a2v P H t (i4 T m) (i4 T k)) K
 | .entryStore _ m s x=>b4 (D1 H (i4 T m) (i4 T s) (i4 T x)) fun H'=>K s8 H'
 | .range t x=>a7Q P H t (i4 T x) K
 | .next it s=>b9r s H (i4 T it) K
 | .entry it=>a7J H (i4 T it) K
 | .call c=>match c.callee with
  | .value (.func g)=>if a3L P g then F g (c.args.toList.map (i4 T)) H K else False
  | .value f=>b0q F (b3e P E H (i4 T f) (c.args.toList.map (i4 T))) K
  | .invoke r name=>b0q F (c5k P E H (i4 T r) name (c.args.toList.map (i4 T))) K
  | .builtin b=>match b,c.args.toList.map (i4 T),c.argTypes.toList with
   | .append,[s,x],[sT,xT]=>a2g (Y8 P E H sT s xT x) K
   | .copy,[d,x],dT::_=>a2g (a8h P E H dT d x) K
   |_,_,_=>b4 (opV P E T H o) fun v=>K v H
 |_=>b4 (opV P E T H o) fun v=>K v H
end
section
variable(P:Program)(E:g8)(w0:a4P)
def b6S(F:FW)(ops:Array Oper)(T:List AV)(H:AHeap)(o:Oper)(K:AV→AHeap→Prop):Prop:=a6g (U8 ops T o) (opW P E F T H o) H K
def c2Z(ops:Array Oper)(T:List AV)(H:AHeap)(o:Oper):Option AV:=c3m (U8 ops T o) (opV P E T H o)
def a8J(o:Oper):Option Operand:=match o.guard with
 |none=>match o.op with
  | .move x| .assign x=>some x
  |_=>none
 |some _=>none
def b3x(ops:Array Oper):List Oper→List AV→AHeap→(List AV→AHeap→Prop)→Prop
 | [],T,H,Q=>Q T H
 |o::l,T,H,Q=>if r7 P o≤1 then ∃v,b0x P E ops T H o=some v∧b3x ops l (a0X T o.dst v) H Q else a1t P E w0 ops T H o fun v H'=>b3x ops l (a0X T o.dst v) H' Q
end
section
variable{P:Program}{E:g8}{w0:a4P}
theorem b5e{r:Option AV}{H:AHeap}:b8Y (r.map fun x=>W7.val x H)=r:=by cases r<;>rfl
theorem c6u{T:List AV}{H:AHeap}{o:Oper}(hk:r7 P o≤1):b8Y (V8 P E T H o)=opV P E T H o:=by
 obtain⟨dst,op,type,pos,after,guard⟩:=o
 cases op<;>simp only[V8,opV]<;>try (first|rfl|exact b5e|(simp only[r7]at hk;omega))
 case pick c a b=>unfold c5i;cases i4 T c<;>rfl
 case load t a=>
  unfold c4f
  cases i4 T a<;>first|rfl|exact b5e
 case nilCheck x=>unfold c5Z;split<;>simp_all [b8Y]
 case binOp op t x y yt=>
  unfold c4c
  split
  ·exact b5e
  ·rfl
 case convert src dst x=>cases J3 P E H src dst (i4 T x)<;>rfl
 case makeInterface t x=>
  unfold b9X
  cases P.underlying t with
  |none=>rfl
  |some d=>cases d<;>rfl
 case extract t ix=>
  unfold b1p
  cases i4 T t<;>first|rfl|exact b5e
 case call c=>
  unfold Q8
  cases hc:c.callee with
  |value f=>simp only[r7,hc]at hk;omega
  |invoke r m=>simp only[r7,hc]at hk;omega
  |builtin b=>
   simp only[r7,hc]at hk
   generalize c.args.toList.map (i4 T)=as
   generalize c.argTypes.toList=ts
   cases b<;>simp at hk
   case len=>
    simp only[c3W]
    rcases as with _|⟨x,_|⟨y,as⟩⟩<;>rcases ts with _|⟨t,_|⟨u,ts⟩⟩<;>simp only<;>try rfl
    cases b0D P t x
    ·exact(by cases a1P P H t x<;>rfl)
    ·rfl
   case cap=>
    rcases as with _|⟨x,_|⟨y,as⟩⟩<;>rcases ts with _|⟨t,_|⟨u,ts⟩⟩<;>simp only<;>try rfl
    cases b9w P t x<;>rfl
   case min=>simp only;cases a1W false as<;>rfl
   case max=>simp only;cases a1W true as<;>rfl
theorem a8w{F:FW}{r:Option (AV×AHeap)}{K:AV→AHeap→Prop}(h:a2g r K):b0q F (r.map fun x=>W7.val x.1 x.2) K:=by cases r<;>exact h
theorem c0i{F:FW}{r:Option AHeap}{K:AV→AHeap→Prop}(h:b4 r fun H'=>K s8 H'):b0q F (r.map fun H'=>W7.val s8 H') K:=by cases r<;>exact h
theorem c2b{F:FW}{T:List AV}{H:AHeap}{o:Oper}{K:AV→AHeap→Prop}(hk:r7 P o≤1)(h:b4 (opV P E T H o) fun v=>K v H):b0q F (V8 P E T H o) K:=by
 rw[←c6u hk]at h
 cases hr:V8 P E T H o with
 |none=>rw[hr]at h;exact h.elim
 |some r=>
  rw[hr]at h
  cases r with
  |val v H1=>
   have:=b5G hk hr
   subst this
   exact h
  |call f args H1=>exact h.elim
def b3p(o:Oper):Bool:=match o.op with
 | .range .. | .next .. | .entry _=>true
 |_=>false
theorem c9G{F:FW}{T:List AV}{H:AHeap}{o:Oper}{K:AV→AHeap→Prop}(hi:b3p o=false)(h:opW P E F T H o K):b0q F (V8 P E T H o) K:=by
 by_cases hk:r7 P o≤1
 ·refine c2b hk ?_
  obtain⟨dst,op,type,pos,after,guard⟩:=o
  cases op<;>simp only[b3p]at hi<;>(try (cases hi;done))<;>simp only[opW]at h<;>try (first|exact h|(simp only[r7]at hk;omega))
  case convert src dst x=>
   simp only[opV]
   have hr:∀v H1,J3 P E H src dst (i4 T x)=some (v,H1)→H1=H:=by
    intro v H1 e
    refine b5G (P:=P) (E:=E) (T:=T) (v:=v) hk ?_
    simp only[V8,e];rfl
   cases hc:J3 P E H src dst (i4 T x) with
   |none=>rw[hc]at h;exact h
   |some r=>
    obtain⟨v,H1⟩:=r
    rw[hc]at h
    have:=hr v H1 hc
    subst this
    exact h
  case call c=>
   cases hc:c.callee with
   |value f=>simp only[r7,hc]at hk;omega
   |invoke r m=>simp only[r7,hc]at hk;omega
   |builtin b=>
    simp only[r7,hc]at hk
    simp only[hc]at h
    cases b<;>simp at hk<;>exact h
 ·obtain⟨dst,op,type,pos,after,guard⟩:=o
  cases op<;>simp only[b3p]at hi<;>(try (cases hi;done))<;>simp only[opW]at h<;>try ((simp only[r7]at hk;omega))
  all_goals try (simp only[opV]at h;exact h.elim)
  case alloc e=>
   simp only[V8]
   cases hz:G7 P e with
   |none=>rw[hz]at h;exact h.elim
   |some z=>rw[hz]at h;exact h
  case box e x=>exact h
  case buildSlice t n ps=>exact a8w h
  case insert t m k x=>exact c0i h
  case store t a x=>
   simp only[V8]
   cases ha:i4 T a<;>simp only[ha,b9I]at h ⊢
   split at h
   ·rename_i hs
    rw[if_pos hs];exact c0i h
   ·exact h.elim
  case convert src dst x=>exact a8w h
  case makeMap t r=>
   simp only[V8]
   cases r with
   |none=>exact h
   |some x=>exact h.elim
  case makeSlice t l c=>exact a8w h
  case mapUpdate t m k x=>exact c0i h
  case mapEntry t m k=>exact a8w h
  case entryStore t m s x=>exact c0i h
  case call c=>
   simp only[V8]
   unfold Q8
   cases hc:c.callee with
   |value f=>
    simp only[hc]at h ⊢
    cases f with
    |func g=>
     simp only[i4,J7]at h ⊢
     split at h
     ·rename_i hb;rw[if_pos hb];simp only[List.nil_append,List.append_nil];exact h
     ·exact h.elim
    |tmp t=>unfold b3e at h;exact h
    |const v=>unfold b3e at h;exact h
    |global g=>unfold b3e at h;exact h
   |invoke r m=>
    simp only[hc]at h ⊢
    exact h
   |builtin b=>
    simp only[r7,hc]at hk
    simp only[hc]at h ⊢
    generalize c.args.toList.map (i4 T)=as at h ⊢
    generalize c.argTypes.toList=ts at h ⊢
    simp only[opV,hc]at h
    cases b<;>simp at hk
    case append=>
     rcases as with _|⟨s,_|⟨x,_|⟨y,as⟩⟩⟩<;>rcases ts with _|⟨sT,_|⟨xT,_|⟨u,ts⟩⟩⟩<;>first|exact a8w h|exact h.elim
    case copy=>
     rcases as with _|⟨s,_|⟨x,_|⟨y,as⟩⟩⟩<;>rcases ts with _|⟨sT,ts⟩<;>first|exact a8w h|exact h.elim
    all_goals exact h.elim
theorem b5W{o:Oper}{x:Operand}(h:a8J o=some x):r7 P o=0∧∀(ops:Array Oper) (T:List AV) (H:AHeap),c2Z P E ops T H o=some (i4 T x):=by
 obtain⟨dst,op,type,pos,after,guard⟩:=o
 unfold a8J at h
 cases guard with
 |some g=>cases h
 |none=>
  cases op<;>first|(cases h;done)|(cases h;exact⟨rfl,fun _ _ _=>rfl⟩)
theorem c5R{F:FW}{T:List AV}{H:AHeap}{o:Oper}{K:AV→AHeap→Prop}(hi:b3p o=true)(h:opW P E F T H o K):V8 P E T H o=none∧a7b P T H o K:=by
 obtain⟨dst,op,type,pos,after,guard⟩:=o
 cases op<;>simp only[b3p]at hi<;>(try (cases hi;done))
 case range t x=>exact⟨rfl,h⟩
 case next it s=>exact⟨rfl,h⟩
 case entry it=>exact⟨rfl,h⟩
theorem c4h{ops:Array Oper}{T:List AV}{H:AHeap}{o:Oper}{K:AV→AHeap→Prop}(h:b6S P E (FnW P E w0) ops T H o K):a1t P E w0 ops T H o K:=by
 have key:∀ {r:Option W7},b0q (FnW P E w0) r K→b7Z P E w0 T H o r K:=fun{r} h=>by
  cases r with
  |none=>exact h.elim
  |some r=>cases r<;>exact h
 unfold b6S at h
 unfold a1t
 generalize U8 ops T o=g at h ⊢
 cases g with
 |none=>exact h
 |some b=>cases b with
  |true=>
   show b7Z P E w0 T H o (V8 P E T H o) K
   by_cases hi:b3p o=true
   ·obtain⟨h1,h2⟩:=c5R hi h
    rw[h1]
    exact .inr h2
   ·exact key (c9G (by simpa using hi) h)
  |false=>exact h
theorem b1V{ops:Array Oper}{T:List AV}{H:AHeap}{o:Oper}(hk:r7 P o≤1):b0x P E ops T H o=c2Z P E ops T H o:=by
 unfold b0x c2Z
 rw[c6u hk]
theorem b3A{ops:Array Oper}:∀ {l:List Oper} {T:List AV} {H:AHeap} {Q Q':List AV→AHeap→Prop},(∀T H,Q T H→Q' T H)→b3x P E w0 ops l T H Q→b3x P E w0 ops l T H Q'
 | [],T,H,Q,Q',hq,h=>hq _ _ h
 |o::l,T,H,Q,Q',hq,h=>by
  rw[b3x]at*
  split at h
  ·rename_i hk
   rw[if_pos hk]
   obtain⟨v,h1,h2⟩:=h
   exact⟨v,h1,b3A hq h2⟩
  ·rename_i hk
   rw[if_neg hk]
   exact a0I h fun v H' h'=>b3A hq h'
theorem b1T{ops:Array Oper}:∀ {l:List Oper} {T:List AV} {H:AHeap} {Q:List AV→AHeap→Prop},b3x P E w0 ops l T H Q→c0v P E w0 ops l T H Q
 | [],T,H,Q,h=>h
 |o::l,T,H,Q,h=>by
  rw[b3x]at h
  split at h
  ·rename_i hk
   obtain⟨v,h1,h2⟩:=h
   exact a0I (b6k hk h1) fun v' H' e=>by obtain⟨rfl,rfl⟩:=e;exact b1T h2
  ·exact a0I h fun v H' h'=>b1T h'
def i9:List Nat→Code→Code
 | [],c=>c
 |n::l,c=>match c with
  | .seq a b| .cond _ a b=>if n=0 then i9 l a else i9 l b
  | .block _ a| .loop a=>i9 l a
  |c=>c
end
end Go.Am
end
