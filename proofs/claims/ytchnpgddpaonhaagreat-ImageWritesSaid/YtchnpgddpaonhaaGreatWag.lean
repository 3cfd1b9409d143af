/- A part of the proof of ImageWrites. -/
import Derived.Test.YtchnpgddpaonhaaGreatWaf
set_option linter.unusedVariables false
set_option linter.unusedSimpArgs false
set_option maxRecDepth 100000
section
namespace Go.Am
def a6Q(r:Option (AV×AHeap))(K:AV→AHeap→Prop):Prop:=match r with
 |some (v,H')=>K v H'
 |none=>False
def d6Q(c a b:AV):Option AV:=match c with
 | .bool t=>some (if t then a else b)
 |_=>none
def d8c(x:AV):Option AV:=match x with
 | .nilPtr| .nilIfc| .nilFn| .opq _=>none
 | .fn (.method _) _ _=>none
 |y=>some y
def b6E(x:AV)(ix:Nat):Option AV:=match x with
 | .tup vs=>vs[ix]?
 |_=>none
section
variable(P:Program)(E:j6)
def d6r(H:AHeap)(t:TypeId)(a:AV):Option AV:=match a with
 | .ptr o i=>L7 P E H t o i
 |_=>none
def d1y(t:TypeId)(x:AV):Option AV:=match P.underlying t with
 |some (.interface _)=>none
 |some _=>some (.ifc t x)
 |none=>none
def d8G(H:AHeap)(t:TypeId)(x:AV):Option AV:=match c4m P t x with
 |some n=>some (.int .i64 n)
 |none=>(b0w P H t x).map fun(n:Nat)=> .int .i64 n
def d5f(op:BinOp)(t:TypeId)(x y:Operand)(a b:AV):Option AV:=if a2o P op t x y a b then b9K P op t a b else none
def opV(T:List AV)(H:AHeap)(o:Oper):Option AV:=
 match o.op with
 | .move x| .assign x=>some (p8 T x)
 | .pick c a b=>d6Q (p8 T c) (p8 T a) (p8 T b)
 | .build t parts=>b6w P t (parts.toList.map fun p=>(p.1,p8 T p.2))
 | .load t a=>d6r P E H t (p8 T a)
 | .nilCheck x=>d8c (p8 T x)
 | .binOp op t x y _=>d5f P op t x y (p8 T x) (p8 T y)
 | .unOp op _ x=>unA op (p8 T x)
 | .convert src dst x=>(U7 P E H src dst (p8 T x)).map (·.1)
 | .makeInterface t x=>d1y P t (p8 T x)
 | .makeFunc fn first captured=>some (.fn fn (first.toList.map (p8 T)) (captured.toList.map (p8 T)))
 | .slice t x lo hi mx=>a2N P H t (p8 T x) (lo.map (p8 T)) (hi.map (p8 T)) (mx.map (p8 T))
 | .fieldAddr s x f=>a9o P s (p8 T x) f
 | .field s x f=>b9C P s (p8 T x) f
 | .indexAddr t x ix=>a2p P t (p8 T x) (p8 T ix)
 | .index t x ix=>b5t P t (p8 T x) (p8 T ix)
 | .lookup t x ix ok=>b0v P H t (p8 T x) (p8 T ix) ok
 | .typeAssert x _ asserted ok=>b2C P (p8 T x) asserted ok
 | .extract t ix=>b6E (p8 T t) ix
 | .call c=>match c.callee with
  | .builtin b=>match b,c.args.toList.map (p8 T),c.argTypes.toList with
   | .len,[x],[t]=>d8G P H t x
   | .cap,[x],[t]=>(d1D P t x).map fun(n:Nat)=> .int .i64 n
   | .min,l,_=>a5D false l
   | .max,l,_=>a5D true l
   |_,_,_=>none
  |_=>none
 |_=>none
abbrev FW:=FuncId→List AV→AHeap→(AV→AHeap→Prop)→Prop
def b7D(F:FW)(r:Option a1u)(K:AV→AHeap→Prop):Prop:=match r with
 |some (.val v H')=>K v H'
 |some (.call f args H')=>F f args H' K
 |none=>False
def c2Q(H:AHeap)(f:AV)(args:List AV):Option a1u:=match f with
 | .fn (.func g) first captured=>Y2 P H g (first++args++captured)
 | .fn (.method name) first captured=>match captured,first++args with
  | [], .ifc t v::rest=>(a1Y P E H t v name).bind fun(g,r)=>Y2 P H g (r::rest)
  |_,_=>none
 | .fn (.via t path g pointer) first captured=>match captured,path.toList,first++args,P.underlying t with
  | [],[],x::rest,some (.pointer _)=>if pointer then Y2 P H g (x::rest) else none
  |_,_,_,_=>none
 |_=>none
def d6O(H:AHeap)(r:AV)(name:String)(args:List AV):Option a1u:=match r with
 | .ifc t v=>(a1Y P E H t v name).bind fun(g,r)=>Y2 P H g (r::args)
 |_=>none
def d2Q(H:AHeap)(t:TypeId)(a x:AV)(K:AV→AHeap→Prop):Prop:=match a with
 | .ptr o i=>if E2 P t=some x.cells.length then b7 (F0 H o i x.cells) fun H'=>K A8 H' else False
 |_=>False
def opW(F:FW)(T:List AV)(H:AHeap)(o:Oper)(K:AV→AHeap→Prop):Prop:=
 match o.op with
 | .alloc e=>b7 (U3 P e) fun z=>K (.ptr (.new H.next) 0) (newCells H z.cells)
 | .box _ x=>K (.ptr (.new H.next) 0) (newCells H (p8 T x).cells)
 | .buildSlice t len parts=>a6Q (R9 P H t len (parts.toList.map fun p=>(p.1,p8 T p.2))) K
 | .store t a x=>d2Q P H t (p8 T a) (p8 T x) K
 | .convert src dst x=>a6Q (U7 P E H src dst (p8 T x)) K
 | .makeMap _ r=>match r with
  |none=>K (.map H.next) (H.new (.map [] 0))
  |some _=>False
 | .makeSlice t l c=>a6Q (U0 P H t (p8 T l) (p8 T c)) K
 | .mapUpdate t m k x| .insert t m k x=>b7 (a2a P H t (p8 T m) (p8 T k) (p8 T x)) fun H'=>K A8 H'
 | .mapEntry t m k=>a6Q (b1v P H t (p8 T m) (p8 T k)) K
 | .entryStore _ m s x=>b7 (O7 H (p8 T m) (p8 T s) (p8 T x)) fun H'=>K A8 H'
 | .call c=>match c.callee with
  | .value (.func g)=>if b2X P g then F g (c.args.toList.map (p8 T)) H K else False
  | .value f=>b7D F (c2Q P E H (p8 T f) (c.args.toList.map (p8 T))) K
  | .invoke r name=>b7D F (d6O P E H (p8 T r) name (c.args.toList.map (p8 T))) K
  | .builtin b=>match b,c.args.toList.map (p8 T),c.argTypes.toList with
   | .append,[s,x],[sT,xT]=>a6Q (a1T P E H sT s xT x) K
   | .copy,[d,x],dT::_=>a6Q (b6T P E H dT d x) K
   |_,_,_=>b7 (opV P E T H o) fun v=>K v H
 |_=>b7 (opV P E T H o) fun v=>K v H
end
section
variable(P:Program)(E:j6)(w0:World)
def b1O(F:FW)(ops:Array Oper)(T:List AV)(H:AHeap)(o:Oper)(K:AV→AHeap→Prop):Prop:=a3c (a0w ops T o) (opW P E F T H o) H K
def a6h(ops:Array Oper)(T:List AV)(H:AHeap)(o:Oper):Option AV:=d3o (a0w ops T o) (opV P E T H o)
def a8x:List AV→(List AV→Prop)→Prop
 | [],k=>k []
 |a::l,k=>a8x l fun l'=>k (a::l')
def d6W:List AV→Nat→(AV→Prop)→Prop
 | [],_,k=>k A8
 |a::l,n,k=>match n with
  |0=>k a
  |n+1=>d6W l n k
def c7e(T:List AV)(x:Operand)(k:AV→Prop):Prop:=match x with
 | .tmp t=>d6W T t k
 |x=>k (p8 T x)
def a1m(o:Oper):Option Operand:=match o.guard with
 |none=>match o.op with
  | .move x| .assign x=>some x
  |_=>none
 |some _=>none
def a8S(ops:Array Oper):List Oper→List AV→AHeap→(List AV→AHeap→Prop)→Prop
 | [],T,H,Q=>a8x T fun T=>Q T H
 |o::l,T,H,Q=>a8x T fun T=>match a1m o with
  |some x=>c7e T x fun e=>a8S ops l (K1 T o.dst e) H Q
  |none=>match r9 P o with
  |0|1=>b7 (a6h P E ops T H o) fun v=>a8S ops l (K1 T o.dst v) H Q
  |_=>b1O P E (FnW P E w0) ops T H o fun v H'=>a8S ops l (K1 T o.dst v) H' Q
def d3Q(ops:Array Oper)(T:List AV)(o:Oper)(v:AV):List AHeap→Prop
 | []=>True
 |G::Gs=>a6h P E ops T G o=some v∧d3Q ops T o v Gs
def b6S(ops:Array Oper)(H':AHeap)(anc:Nat):Nat→List r5→Prop
 |_,[]=>True
 |j,d::ds=>if d.hi==1&& !anc.testBit j then a6h P E ops d.T H' d.o=some d.v∧b6S ops H' anc (j+1) ds else b6S ops H' anc (j+1) ds
def d3S(ops:Array Oper):List Oper→List r5→List AV→AHeap→List AHeap→(List AV→AHeap→Prop)→Prop
 | [],_,T,H,_,Q=>a8x T fun T=>Q T H
 |o::l,ds,T,H,older,Q=>match a1A ds o.after.toList 0 with
  |none=>False
  |some anc=>if b2h (fun j e=>anc.testBit j||o.apart ops e.o) 0 ds then a8x T fun T=>
    match a1m o with
    |some x=>c7e T x fun v=>d3S ops l (ds++[⟨o,anc,T,v,older.length,0,false,[]⟩]) (K1 T o.dst v) H older Q
    |none=>match r9 P o with
    |0=>b7 (a6h P E ops T H o) fun v=>d3S ops l (ds++[⟨o,anc,T,v,older.length,0,false,[]⟩]) (K1 T o.dst v) H older Q
    |1=>b7 (a6h P E ops T H o) fun v=>d3Q P E ops T o v (older.take (older.length - c5z anc 0 ds 0))∧d3S ops l (ds++[⟨o,anc,T,v,older.length,1,false,[]⟩]) (K1 T o.dst v) H older Q
    |_=>if b2h (fun j e=> !e.wr||anc.testBit j) 0 ds then
      b1O P E (FnD P E w0) ops T H o fun v H'=>b6S P E ops H' anc 0 ds∧d3S ops l (ds++[⟨o,anc,T,v,older.length,2,true,[]⟩]) (K1 T o.dst v) H' (H::older) Q
     else False
   else False
def vc:Code→List AV→AHeap→(o6→List AV→AHeap→Prop)→Prop
 | .skip,T,H,Q=>Q .normal T H
 | .label _,T,H,Q=>Q .normal T H
 | .ret,T,H,Q=>Q .ret T H
 | .exit id,T,H,Q=>Q (.exit id) T H
 | .region _ ops draw,T,H,Q=>match draw with
  |false=>a8S P E w0 ops ops.toList T H (Q .normal)
  |true=>d3S P E w0 ops ops.toList [] T H [] (Q .normal)
 | .seq a b,T,H,Q=>vc a T H fun ex T' H'=>match ex with
  | .normal=>vc b T' H' Q
  |e=>Q e T' H'
 | .cond c a b,T,H,Q=>d1d (p8 T c) (vc a T H Q) (vc b T H Q)
 | .block id c,T,H,Q=>vc c T H (b3g id Q)
 | .loop c,T,H,Q=>H9 P E w0 (.loop c) T H Q
 |_,_,_,_=>False
end
section
variable{P:Program}{E:j6}{w0:World}
theorem c6Q{r:Option AV}{H:AHeap}:c7Z (r.map fun x=>a1u.val x H)=r:=by cases r<;>rfl
theorem d9F{T:List AV}{H:AHeap}{o:Oper}(hk:r9 P o≤1):c7Z (opA P E T H o)=opV P E T H o:=by
 obtain⟨dst,op,type,pos,after,guard⟩:=o
 cases op<;>simp only[opA,opV]<;>try (first|rfl|exact c6Q|(simp only[r9]at hk;omega))
 case pick c a b=>unfold d6Q;cases p8 T c<;>rfl
 case load t a=>
  unfold d6r
  cases p8 T a<;>first|rfl|exact c6Q
 case nilCheck x=>unfold d8c;split<;>simp_all [c7Z]
 case binOp op t x y yt=>
  unfold d5f
  split
  ·exact c6Q
  ·rfl
 case convert src dst x=>cases U7 P E H src dst (p8 T x)<;>rfl
 case makeInterface t x=>
  unfold d1y
  cases P.underlying t with
  |none=>rfl
  |some d=>cases d<;>rfl
 case extract t ix=>
  unfold b6E
  cases p8 T t<;>first|rfl|exact c6Q
 case call c=>
  unfold a1q
  cases hc:c.callee with
  |value f=>simp only[r9,hc]at hk;omega
  |invoke r m=>simp only[r9,hc]at hk;omega
  |builtin b=>
   simp only[r9,hc]at hk
   generalize c.args.toList.map (p8 T)=as
   generalize c.argTypes.toList=ts
   cases b<;>simp at hk
   case len=>
    simp only[d8G]
    rcases as with _|⟨x,_|⟨y,as⟩⟩<;>rcases ts with _|⟨t,_|⟨u,ts⟩⟩<;>simp only<;>try rfl
    cases c4m P t x
    ·exact(by cases b0w P H t x<;>rfl)
    ·rfl
   case cap=>
    rcases as with _|⟨x,_|⟨y,as⟩⟩<;>rcases ts with _|⟨t,_|⟨u,ts⟩⟩<;>simp only<;>try rfl
    cases d1D P t x<;>rfl
   case min=>simp only;cases a5D false as<;>rfl
   case max=>simp only;cases a5D true as<;>rfl
theorem b7v{F:FW}{r:Option (AV×AHeap)}{K:AV→AHeap→Prop}(h:a6Q r K):b7D F (r.map fun x=>a1u.val x.1 x.2) K:=by cases r<;>exact h
theorem d2a{F:FW}{r:Option AHeap}{K:AV→AHeap→Prop}(h:b7 r fun H'=>K A8 H'):b7D F (r.map fun H'=>a1u.val A8 H') K:=by cases r<;>exact h
theorem d3I{F:FW}{T:List AV}{H:AHeap}{o:Oper}{K:AV→AHeap→Prop}(hk:r9 P o≤1)(h:b7 (opV P E T H o) fun v=>K v H):b7D F (opA P E T H o) K:=by
 rw[←d9F hk]at h
 cases hr:opA P E T H o with
 |none=>rw[hr]at h;exact h.elim
 |some r=>
  rw[hr]at h
  cases r with
  |val v H1=>
   have:=c9A hk hr
   subst this
   exact h
  |call f args H1=>exact h.elim
theorem d8U{F:FW}{T:List AV}{H:AHeap}{o:Oper}{K:AV→AHeap→Prop}(h:opW P E F T H o K):b7D F (opA P E T H o) K:=by
 by_cases hk:r9 P o≤1
 ·refine d3I hk ?_
  obtain⟨dst,op,type,pos,after,guard⟩:=o
  cases op<;>simp only[opW]at h<;>try (first|exact h|(simp only[r9]at hk;omega))
  case convert src dst x=>
   simp only[opV]
   have hr:∀v H1,U7 P E H src dst (p8 T x)=some (v,H1)→H1=H:=by
    intro v H1 e
    refine c9A (P:=P) (E:=E) (T:=T) (v:=v) hk ?_
    simp only[opA,e];rfl
   cases hc:U7 P E H src dst (p8 T x) with
   |none=>rw[hc]at h;exact h
   |some r=>
    obtain⟨v,H1⟩:=r
    rw[hc]at h
    have:=hr v H1 hc
    subst this
    exact h
  case call c=>
   cases hc:c.callee with
   |value f=>simp only[r9,hc]at hk;omega
   |invoke r m=>simp only[r9,hc]at hk;omega
   |builtin b=>
    simp only[r9,hc]at hk
    simp only[hc]at h
    cases b<;>simp at hk<;>exact h
 ·obtain⟨dst,op,type,pos,after,guard⟩:=o
  cases op<;>simp only[opW]at h<;>try ((simp only[r9]at hk;omega))
  all_goals try (simp only[opV]at h;exact h.elim)
  case alloc e=>
   simp only[opA]
   cases hz:U3 P e with
   |none=>rw[hz]at h;exact h.elim
   |some z=>rw[hz]at h;exact h
  case box e x=>exact h
  case buildSlice t n ps=>exact b7v h
  case insert t m k x=>exact d2a h
  case store t a x=>
   simp only[opA]
   cases ha:p8 T a<;>simp only[ha,d2Q]at h ⊢
   split at h
   ·rename_i hs
    rw[if_pos hs];exact d2a h
   ·exact h.elim
  case convert src dst x=>exact b7v h
  case makeMap t r=>
   simp only[opA]
   cases r with
   |none=>exact h
   |some x=>exact h.elim
  case makeSlice t l c=>exact b7v h
  case mapUpdate t m k x=>exact d2a h
  case mapEntry t m k=>exact b7v h
  case entryStore t m s x=>exact d2a h
  case call c=>
   simp only[opA]
   unfold a1q
   cases hc:c.callee with
   |value f=>
    simp only[hc]at h ⊢
    cases f with
    |func g=>
     simp only[p8,Y2]at h ⊢
     split at h
     ·rename_i hb;rw[if_pos hb];simp only[List.nil_append,List.append_nil];exact h
     ·exact h.elim
    |tmp t=>unfold c2Q at h;exact h
    |const v=>unfold c2Q at h;exact h
    |global g=>unfold c2Q at h;exact h
   |invoke r m=>
    simp only[hc]at h ⊢
    exact h
   |builtin b=>
    simp only[r9,hc]at hk
    simp only[hc]at h ⊢
    generalize c.args.toList.map (p8 T)=as at h ⊢
    generalize c.argTypes.toList=ts at h ⊢
    simp only[opV,hc]at h
    cases b<;>simp at hk
    case append=>
     rcases as with _|⟨s,_|⟨x,_|⟨y,as⟩⟩⟩<;>rcases ts with _|⟨sT,_|⟨xT,_|⟨u,ts⟩⟩⟩<;>first|exact b7v h|exact h.elim
    case copy=>
     rcases as with _|⟨s,_|⟨x,_|⟨y,as⟩⟩⟩<;>rcases ts with _|⟨sT,ts⟩<;>first|exact b7v h|exact h.elim
    all_goals exact h.elim
theorem D0:∀ {T:List AV} {k:List AV→Prop},a8x T k=k T
 | [],k=>rfl
 |a::l,k=>by simp only[a8x];rw[D0]
theorem d3Z:∀ {T:List AV} {n:Nat} {k:AV→Prop},d6W T n k=k (T.getD n A8)
 | [],n,k=>rfl
 |a::l,0,k=>rfl
 |a::l,n+1,k=>by simp only[d6W];rw[d3Z];simp
theorem Z5{T:List AV}{x:Operand}{k:AV→Prop}:c7e T x k=k (p8 T x):=by
 cases x<;>first|rfl|exact d3Z
theorem a4V{o:Oper}{x:Operand}(h:a1m o=some x):r9 P o=0∧∀(ops:Array Oper) (T:List AV) (H:AHeap),a6h P E ops T H o=some (p8 T x):=by
 obtain⟨dst,op,type,pos,after,guard⟩:=o
 unfold a1m at h
 cases guard with
 |some g=>cases h
 |none=>
  cases op<;>first|(cases h;done)|(cases h;exact⟨rfl,fun _ _ _=>rfl⟩)
theorem d6X{ops:Array Oper}{T:List AV}{H:AHeap}{o:Oper}{K:AV→AHeap→Prop}(h:b1O P E (FnW P E w0) ops T H o K):a4g P E w0 ops T H o K:=by
 unfold b1O at h
 unfold a4g
 generalize a0w ops T o=g at h ⊢
 cases g with
 |none=>exact h
 |some b=>cases b with
  |true=>exact d8U h
  |false=>exact h
theorem d7C{r:Option a1u}{Q Q':AV→AHeap→Prop}(h:d4L P E w0 r Q)(hq:∀v H',Q v H'→Q' v H'):d4L P E w0 r Q':=by
 unfold d4L at*
 split
 ·exact hq _ _ h
 ·exact FnD.mono h hq
 ·exact h
theorem c8I{ops:Array Oper}{T:List AV}{H:AHeap}{o:Oper}{Q Q':AV→AHeap→Prop}(h:a9d P E w0 ops T H o Q)(hq:∀v H',Q v H'→Q' v H'):a9d P E w0 ops T H o Q':=by
 unfold a9d a3c at*
 split<;>rename_i e<;>rw[e]at h
 ·exact d7C h hq
 ·exact hq _ _ h
 ·exact h
theorem a5L{ops:Array Oper}{T:List AV}{H:AHeap}{o:Oper}(hk:r9 P o≤1):b1m P E ops T H o=a6h P E ops T H o:=by
 unfold b1m a6h
 rw[d9F hk]
theorem a7f{ops:Array Oper}{T:List AV}{H:AHeap}{o:Oper}(hk:r9 P o≤1){K:AV→AHeap→Prop}(h:b7 (a6h P E ops T H o) fun v=>K v H):a4g P E w0 ops T H o K:=by
 rw[←a5L hk]at h
 unfold b7 at h
 split at h
 ·rename_i v hv
  exact a1L (b7s (b3j (w0:=w0) hk hv)) fun v' H' e=>by obtain⟨rfl,rfl⟩:=e;exact h
 ·exact h.elim
theorem c1d{ops:Array Oper}:∀ {l:List Oper} {T:List AV} {H:AHeap} {Q:List AV→AHeap→Prop},a8S P E w0 ops l T H Q→d8j P E w0 ops l T H Q
 | [],T,H,Q,h=>by simp only[a8S,D0]at h;exact h
 |o::l,T,H,Q,h=>by
  simp only[a8S,D0]at h
  split at h
  ·rename_i x hx
   rw[Z5]at h
   obtain⟨hk,hv⟩:=a4V (P:=P) (E:=E) hx
   exact a1L (a7f (K:=fun v H=>a8S P E w0 ops l (K1 T o.dst v) H Q) (by omega) (by rw[hv];exact h)) fun v H' h'=>c1d h'
  split at h
  ·rename_i hk
   exact a1L (a7f (K:=fun v H=>a8S P E w0 ops l (K1 T o.dst v) H Q) (by omega) h) fun v H' h'=>c1d h'
  ·rename_i hk
   exact a1L (a7f (K:=fun v H=>a8S P E w0 ops l (K1 T o.dst v) H Q) (by omega) h) fun v H' h'=>c1d h'
  ·exact a1L (d6X h) fun v H' h'=>c1d h'
theorem d4i{ops:Array Oper}{T:List AV}{o:Oper}{v:AV}(hk:r9 P o≤1):∀ {Gs:List AHeap},d3Q P E ops T o v Gs→sameAt P E ops T o v Gs
 | [],h=>h
 |G::Gs,h=>⟨by rw[a5L hk];exact h.1,d4i hk h.2⟩
theorem c2T{ops:Array Oper}{H':AHeap}{anc:Nat}:∀ {ds:List r5} {j:Nat},(∀d∈ds,d.hi=1→r9 P d.o≤1)→b6S P E ops H' anc j ds→b9d P E ops H' anc j ds
 | [],j,_,h=>h
 |d::ds,j,hd,h=>by
  simp only[b6S]at h
  simp only[b9d]
  split at h
  ·rename_i hc
   rw[if_pos hc]
   simp only[Bool.and_eq_true,beq_iff_eq]at hc
   exact⟨by rw[a5L (hd d List.mem_cons_self hc.1)];exact h.1,c2T (fun e he=>hd e (List.mem_cons_of_mem _ he)) h.2⟩
  ·rename_i hc
   rw[if_neg hc]
   exact c2T (fun e he=>hd e (List.mem_cons_of_mem _ he)) h
def j4:List Nat→Code→Code
 | [],c=>c
 |n::l,c=>match c with
  | .seq a b| .cond _ a b=>if n=0 then j4 l a else j4 l b
  | .block _ a| .loop a=>j4 l a
  |c=>c
def e2C(v:AV)(H:AHeap)(K:AV→AHeap→Prop):Prop:=K v H
def e2j(P:Program)(E:j6)(H:AHeap)(t:TypeId)(a:AV)(K:AV→Prop):Prop:=match a with
 | .ptr o i=>b7 (L7 P E H t o i) K
 |_=>False
end
end Go.Am
end
