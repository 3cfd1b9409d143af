/-
  ImageBackSaid: part Kaj of its proof.
-/
import Derived.Test.YtchnpgddpaonhaaKai
set_option linter.unusedVariables false
set_option linter.unusedSimpArgs false
set_option maxRecDepth 100000
section
namespace Go.Am
def a5i(r:Option (AV×AHeap))(K:AV→AHeap→Prop):Prop:=match r with
 |some (v,H')=>K v H'
 |none=>False
def d0f(c a b:AV):Option AV:=match c with
 | .bool t=>some (if t then a else b)
 |_=>none
def d0y(x:AV):Option AV:=match x with
 | .nilPtr| .nilIfc| .nilFn| .opq _=>none
 | .fn (.method _) _ _=>none
 |y=>some y
def b6X(x:AV)(ix:Nat):Option AV:=match x with
 | .tup vs=>vs[ix]?
 |_=>none
section
variable(P:Program)(E:m7)
def c9o(H:AHeap)(t:TypeId)(a:AV):Option AV:=match a with
 | .ptr o i=>M9 P E H t o i
 |_=>none
def c4z(t:TypeId)(x:AV):Option AV:=match P.underlying t with
 |some (.interface _)=>none
 |some _=>some (.ifc t x)
 |none=>none
def d2i(H:AHeap)(t:TypeId)(x:AV):Option AV:=match b7A P t x with
 |some n=>some (.int .i64 n)
 |none=>(a7p P H t x).map fun(n:Nat)=> .int .i64 n
def c7N(op:BinOp)(t:TypeId)(x y:Operand)(a b:AV):Option AV:=if a1V P op t x y a b then b4x P op t a b else none
def opV(T:List AV)(H:AHeap)(o:Oper):Option AV:=
 match o.op with
 | .move x| .assign x=>some (o4 T x)
 | .pick c a b=>d0f (o4 T c) (o4 T a) (o4 T b)
 | .build t parts=>b2Y P t (parts.toList.map fun p=>(p.1,o4 T p.2))
 | .load t a=>c9o P E H t (o4 T a)
 | .nilCheck x=>d0y (o4 T x)
 | .binOp op t x y _=>c7N P op t x y (o4 T x) (o4 T y)
 | .unOp op _ x=>unA op (o4 T x)
 | .convert src dst x=>(O6 P E H src dst (o4 T x)).map (·.1)
 | .makeInterface t x=>c4z P t (o4 T x)
 | .makeFunc fn first captured=>some (.fn fn (first.toList.map (o4 T)) (captured.toList.map (o4 T)))
 | .slice t x lo hi mx=>a2t P H t (o4 T x) (lo.map (o4 T)) (hi.map (o4 T)) (mx.map (o4 T))
 | .fieldAddr s x f=>a6q P s (o4 T x) f
 | .field s x f=>b4R P s (o4 T x) f
 | .indexAddr t x ix=>a1S P t (o4 T x) (o4 T ix)
 | .index t x ix=>b2X P t (o4 T x) (o4 T ix)
 | .lookup t x ix ok=>a7m P H t (o4 T x) (o4 T ix) ok
 | .typeAssert x _ asserted ok=>b0e P (o4 T x) asserted ok
 | .extract t ix=>b6X (o4 T t) ix
 | .call c=>match c.callee with
  | .builtin b=>match b,c.args.toList.map (o4 T),c.argTypes.toList with
   | .len,[x],[t]=>d2i P H t x
   | .cap,[x],[t]=>(c4y P t x).map fun(n:Nat)=> .int .i64 n
   | .min,l,_=>a4n false l
   | .max,l,_=>a4n true l
   |_,_,_=>none
  |_=>none
 |_=>none
abbrev FW:=FuncId→List AV→AHeap→(AV→AHeap→Prop)→Prop
def b5o(F:FW)(r:Option a1t)(K:AV→AHeap→Prop):Prop:=match r with
 |some (.val v H')=>K v H'
 |some (.call f args H')=>F f args H' K
 |none=>False
def b7M(H:AHeap)(f:AV)(args:List AV):Option a1t:=match f with
 | .fn (.func g) first captured=>W2 P H g (first++args++captured)
 | .fn (.method name) first captured=>match captured,first++args with
  | [], .ifc t v::rest=>(a1C P E H t v name).bind fun(g,r)=>W2 P H g (r::rest)
  |_,_=>none
 | .fn (.via t path g pointer) first captured=>match captured,path.toList,first++args,P.underlying t with
  | [],[],x::rest,some (.pointer _)=>if pointer then W2 P H g (x::rest) else none
  |_,_,_,_=>none
 |_=>none
def c9z(H:AHeap)(r:AV)(name:String)(args:List AV):Option a1t:=match r with
 | .ifc t v=>(a1C P E H t v name).bind fun(g,r)=>W2 P H g (r::args)
 |_=>none
def c4S(H:AHeap)(t:TypeId)(a x:AV)(K:AV→AHeap→Prop):Prop:=match a with
 | .ptr o i=>if D7 P t=some x.cells.length then a9 (E1 H o i x.cells) fun H'=>K A2 H' else False
 |_=>False
def opW(F:FW)(T:List AV)(H:AHeap)(o:Oper)(K:AV→AHeap→Prop):Prop:=
 match o.op with
 | .alloc e=>a9 (P6 P e) fun z=>K (.ptr (.new H.next) 0) (newCells H z.cells)
 | .box _ x=>K (.ptr (.new H.next) 0) (newCells H (o4 T x).cells)
 | .buildSlice t len parts=>a5i (O2 P H t len (parts.toList.map fun p=>(p.1,o4 T p.2))) K
 | .store t a x=>c4S P H t (o4 T a) (o4 T x) K
 | .convert src dst x=>a5i (O6 P E H src dst (o4 T x)) K
 | .makeMap _ r=>match r with
  |none=>K (.map H.next) (H.new (.map [] 0))
  |some _=>False
 | .makeSlice t l c=>a5i (P5 P H t (o4 T l) (o4 T c)) K
 | .mapUpdate t m k x| .insert t m k x=>a9 (a1A P H t (o4 T m) (o4 T k) (o4 T x)) fun H'=>K A2 H'
 | .mapEntry t m k=>a5i (a8c P H t (o4 T m) (o4 T k)) K
 | .entryStore _ m s x=>a9 (L0 H (o4 T m) (o4 T s) (o4 T x)) fun H'=>K A2 H'
 | .call c=>match c.callee with
  | .value (.func g)=>if a9I P g then F g (c.args.toList.map (o4 T)) H K else False
  | .value f=>b5o F (b7M P E H (o4 T f) (c.args.toList.map (o4 T))) K
  | .invoke r name=>b5o F (c9z P E H (o4 T r) name (c.args.toList.map (o4 T))) K
  | .builtin b=>match b,c.args.toList.map (o4 T),c.argTypes.toList with
   | .append,[s,x],[sT,xT]=>a5i (a1y P E H sT s xT x) K
   | .copy,[d,x],dT::_=>a5i (b3e P E H dT d x) K
   |_,_,_=>a9 (opV P E T H o) fun v=>K v H
 |_=>a9 (opV P E T H o) fun v=>K v H
end
section
variable(P:Program)(E:m7)(w0:a6a)
def c2o(F:FW)(ops:Array Oper)(T:List AV)(H:AHeap)(o:Oper)(K:AV→AHeap→Prop):Prop:=a7S (a0S ops T o) (opW P E F T H o) H K
def c8X(ops:Array Oper)(T:List AV)(H:AHeap)(o:Oper):Option AV:=c7I (a0S ops T o) (opV P E T H o)
def b3g(o:Oper):Option Operand:=match o.guard with
 |none=>match o.op with
  | .move x| .assign x=>some x
  |_=>none
 |some _=>none
def b7P(ops:Array Oper):List Oper→List AV→AHeap→(List AV→AHeap→Prop)→Prop
 | [],T,H,Q=>Q T H
 |o::l,T,H,Q=>if y9 P o≤1 then ∃v,b4v P E ops T H o=some v∧b7P ops l (a3a T o.dst v) H Q else a3u P E w0 ops T H o fun v H'=>b7P ops l (a3a T o.dst v) H' Q
end
section
variable{P:Program}{E:m7}{w0:a6a}
theorem c0q{r:Option AV}{H:AHeap}:c3D (r.map fun x=>a1t.val x H)=r:=by cases r<;>rfl
theorem d2p{T:List AV}{H:AHeap}{o:Oper}(hk:y9 P o≤1):c3D (opA P E T H o)=opV P E T H o:=by
 obtain⟨dst,op,type,pos,after,guard⟩:=o
 cases op<;>simp only[opA,opV]<;>try (first|rfl|exact c0q|(simp only[y9]at hk;omega))
 case pick c a b=>unfold d0f;cases o4 T c<;>rfl
 case load t a=>
  unfold c9o
  cases o4 T a<;>first|rfl|exact c0q
 case nilCheck x=>unfold d0y;split<;>simp_all [c3D]
 case binOp op t x y yt=>
  unfold c7N
  split
  ·exact c0q
  ·rfl
 case convert src dst x=>cases O6 P E H src dst (o4 T x)<;>rfl
 case makeInterface t x=>
  unfold c4z
  cases P.underlying t with
  |none=>rfl
  |some d=>cases d<;>rfl
 case extract t ix=>
  unfold b6X
  cases o4 T t<;>first|rfl|exact c0q
 case call c=>
  unfold a0W
  cases hc:c.callee with
  |value f=>simp only[y9,hc]at hk;omega
  |invoke r m=>simp only[y9,hc]at hk;omega
  |builtin b=>
   simp only[y9,hc]at hk
   generalize c.args.toList.map (o4 T)=as
   generalize c.argTypes.toList=ts
   cases b<;>simp at hk
   case len=>
    simp only[d2i]
    rcases as with _|⟨x,_|⟨y,as⟩⟩<;>rcases ts with _|⟨t,_|⟨u,ts⟩⟩<;>simp only<;>try rfl
    cases b7A P t x
    ·exact(by cases a7p P H t x<;>rfl)
    ·rfl
   case cap=>
    rcases as with _|⟨x,_|⟨y,as⟩⟩<;>rcases ts with _|⟨t,_|⟨u,ts⟩⟩<;>simp only<;>try rfl
    cases c4y P t x<;>rfl
   case min=>simp only;cases a4n false as<;>rfl
   case max=>simp only;cases a4n true as<;>rfl
theorem b3u{F:FW}{r:Option (AV×AHeap)}{K:AV→AHeap→Prop}(h:a5i r K):b5o F (r.map fun x=>a1t.val x.1 x.2) K:=by cases r<;>exact h
theorem c4R{F:FW}{r:Option AHeap}{K:AV→AHeap→Prop}(h:a9 r fun H'=>K A2 H'):b5o F (r.map fun H'=>a1t.val A2 H') K:=by cases r<;>exact h
theorem c6w{F:FW}{T:List AV}{H:AHeap}{o:Oper}{K:AV→AHeap→Prop}(hk:y9 P o≤1)(h:a9 (opV P E T H o) fun v=>K v H):b5o F (opA P E T H o) K:=by
 rw[←d2p hk]at h
 cases hr:opA P E T H o with
 |none=>rw[hr]at h;exact h.elim
 |some r=>
  rw[hr]at h
  cases r with
  |val v H1=>
   have:=c1v hk hr
   subst this
   exact h
  |call f args H1=>exact h.elim
theorem d4i{F:FW}{T:List AV}{H:AHeap}{o:Oper}{K:AV→AHeap→Prop}(h:opW P E F T H o K):b5o F (opA P E T H o) K:=by
 by_cases hk:y9 P o≤1
 ·refine c6w hk ?_
  obtain⟨dst,op,type,pos,after,guard⟩:=o
  cases op<;>simp only[opW]at h<;>try (first|exact h|(simp only[y9]at hk;omega))
  case convert src dst x=>
   simp only[opV]
   have hr:∀v H1,O6 P E H src dst (o4 T x)=some (v,H1)→H1=H:=by
    intro v H1 e
    refine c1v (P:=P) (E:=E) (T:=T) (v:=v) hk ?_
    simp only[opA,e];rfl
   cases hc:O6 P E H src dst (o4 T x) with
   |none=>rw[hc]at h;exact h
   |some r=>
    obtain⟨v,H1⟩:=r
    rw[hc]at h
    have:=hr v H1 hc
    subst this
    exact h
  case call c=>
   cases hc:c.callee with
   |value f=>simp only[y9,hc]at hk;omega
   |invoke r m=>simp only[y9,hc]at hk;omega
   |builtin b=>
    simp only[y9,hc]at hk
    simp only[hc]at h
    cases b<;>simp at hk<;>exact h
 ·obtain⟨dst,op,type,pos,after,guard⟩:=o
  cases op<;>simp only[opW]at h<;>try ((simp only[y9]at hk;omega))
  all_goals try (simp only[opV]at h;exact h.elim)
  case alloc e=>
   simp only[opA]
   cases hz:P6 P e with
   |none=>rw[hz]at h;exact h.elim
   |some z=>rw[hz]at h;exact h
  case box e x=>exact h
  case buildSlice t n ps=>exact b3u h
  case insert t m k x=>exact c4R h
  case store t a x=>
   simp only[opA]
   cases ha:o4 T a<;>simp only[ha,c4S]at h ⊢
   split at h
   ·rename_i hs
    rw[if_pos hs];exact c4R h
   ·exact h.elim
  case convert src dst x=>exact b3u h
  case makeMap t r=>
   simp only[opA]
   cases r with
   |none=>exact h
   |some x=>exact h.elim
  case makeSlice t l c=>exact b3u h
  case mapUpdate t m k x=>exact c4R h
  case mapEntry t m k=>exact b3u h
  case entryStore t m s x=>exact c4R h
  case call c=>
   simp only[opA]
   unfold a0W
   cases hc:c.callee with
   |value f=>
    simp only[hc]at h ⊢
    cases f with
    |func g=>
     simp only[o4,W2]at h ⊢
     split at h
     ·rename_i hb;rw[if_pos hb];simp only[List.nil_append,List.append_nil];exact h
     ·exact h.elim
    |tmp t=>unfold b7M at h;exact h
    |const v=>unfold b7M at h;exact h
    |global g=>unfold b7M at h;exact h
   |invoke r m=>
    simp only[hc]at h ⊢
    exact h
   |builtin b=>
    simp only[y9,hc]at hk
    simp only[hc]at h ⊢
    generalize c.args.toList.map (o4 T)=as at h ⊢
    generalize c.argTypes.toList=ts at h ⊢
    simp only[opV,hc]at h
    cases b<;>simp at hk
    case append=>
     rcases as with _|⟨s,_|⟨x,_|⟨y,as⟩⟩⟩<;>rcases ts with _|⟨sT,_|⟨xT,_|⟨u,ts⟩⟩⟩<;>first|exact b3u h|exact h.elim
    case copy=>
     rcases as with _|⟨s,_|⟨x,_|⟨y,as⟩⟩⟩<;>rcases ts with _|⟨sT,ts⟩<;>first|exact b3u h|exact h.elim
    all_goals exact h.elim
theorem c0w{o:Oper}{x:Operand}(h:b3g o=some x):y9 P o=0∧∀(ops:Array Oper) (T:List AV) (H:AHeap),c8X P E ops T H o=some (o4 T x):=by
 obtain⟨dst,op,type,pos,after,guard⟩:=o
 unfold b3g at h
 cases guard with
 |some g=>cases h
 |none=>
  cases op<;>first|(cases h;done)|(cases h;exact⟨rfl,fun _ _ _=>rfl⟩)
theorem c9d{ops:Array Oper}{T:List AV}{H:AHeap}{o:Oper}{K:AV→AHeap→Prop}(h:c2o P E (FnW P E w0) ops T H o K):a3u P E w0 ops T H o K:=by
 have key:∀ {r:Option a1t},b5o (FnW P E w0) r K→c3p P E w0 T H o r K:=fun{r} h=>by
  cases r with
  |none=>exact h.elim
  |some r=>cases r<;>exact h
 unfold c2o at h
 unfold a3u
 generalize a0S ops T o=g at h ⊢
 cases g with
 |none=>exact h
 |some b=>cases b with
  |true=>exact key (d4i h)
  |false=>exact h
theorem b6w{ops:Array Oper}{T:List AV}{H:AHeap}{o:Oper}(hk:y9 P o≤1):b4v P E ops T H o=c8X P E ops T H o:=by
 unfold b4v c8X
 rw[d2p hk]
theorem b3v{ops:Array Oper}:∀ {l:List Oper} {T:List AV} {H:AHeap} {Q Q':List AV→AHeap→Prop},(∀T H,Q T H→Q' T H)→b7P P E w0 ops l T H Q→b7P P E w0 ops l T H Q'
 | [],T,H,Q,Q',hq,h=>hq _ _ h
 |o::l,T,H,Q,Q',hq,h=>by
  rw[b7P]at*
  split at h
  ·rename_i hk
   rw[if_pos hk]
   obtain⟨v,h1,h2⟩:=h
   exact⟨v,h1,b3v hq h2⟩
  ·rename_i hk
   rw[if_neg hk]
   exact a4i h fun v H' h'=>b3v hq h'
theorem c0n{ops:Array Oper}:∀ {l:List Oper} {T:List AV} {H:AHeap} {Q:List AV→AHeap→Prop},b7P P E w0 ops l T H Q→c8R P E w0 ops l T H Q
 | [],T,H,Q,h=>h
 |o::l,T,H,Q,h=>by
  rw[b7P]at h
  split at h
  ·rename_i hk
   obtain⟨v,h1,h2⟩:=h
   exact a4i (c1E hk h1) fun v' H' e=>by obtain⟨rfl,rfl⟩:=e;exact c0n h2
  ·exact a4i h fun v H' h'=>c0n h'
def l9:List Nat→Code→Code
 | [],c=>c
 |n::l,c=>match c with
  | .seq a b| .cond _ a b=>if n=0 then l9 l a else l9 l b
  | .block _ a| .loop a=>l9 l a
  |c=>c
end
end Go.Am
end
