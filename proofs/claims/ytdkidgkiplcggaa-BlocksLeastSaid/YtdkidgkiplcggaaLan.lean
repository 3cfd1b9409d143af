/-
  BlocksLeastSaid: part Lan of its proof.
-/
import Derived.Test.YtdkidgkiplcggaaLam
set_option linter.unusedVariables false
set_option linter.unusedSimpArgs false
set_option maxRecDepth 100000
section
namespace Go.Am
section
def P8:AV→D
 | .bool b=> .bool b
 | .int k n=> .int k n
 | .str s=> .str s
 | .nilPtr=> .nilPtr
 | .nilSlc=> .nilSlc
 | .nilMap=> .nilMap
 | .nilFn=> .nilFn
 | .nilIfc=> .nilIfc
 |_=> .any
def b5O:AV→D
 | .agg cs=>if cs.all j4 then .agg (cs.map P8) else .any
 | .tup []=> .tup []
 |v=>P8 v
def r7:D→Option (List D)
 | .any| .tup _=>none
 | .agg cs=>some cs
 |d=>some [d]
def o3:List D→Nat→List D→List D
 |cs,_,[]=>cs
 |cs,i,v::vs=>o3 (cs.set i v) (i+1) vs
def k9(T:List D):Operand→D
 | .tmp t=>T.getD t b6
 | .const v=>b5O (b6x v)
 | .global _=> .any
 | .func f=> .fn (.func f) [] []
def a9U(S:b4):D→Option (List D×Nat)
 | .ptr k i=>match S k with
  |some o=>match o.rows with
   | [cs]=>some (cs,i)
   |_=>none
  |none=>none
 | .rel k r i sz=>match S k with
  |some o=>if o.sz=sz then match o.rows[r]? with
   |some row=>some (row,i)
   |none=>none
   else none
  |none=>none
 | .elt row i=>some (row,i)
 |_=>none
def s4(S:b4)(n:Nat)(a:D):Option D:=match a9U S a with
 |some (row,i)=>if 0<n∧i+n≤row.length then some (.agg ((row.drop i).take n)) else none
 |none=>none
def c8(S:b4)(a:D):Option D:=match a9U S a with
 |some (row,i)=>row[i]?
 |none=>none
def a7M:D→Option Nat
 | .ptr k _| .rel k _ _ _| .raw k _ _ _ _ _=>some k
 | .mp k=>some k
 |_=>none
def a7Q:D→Option Nat
 | .mp k=>some k
 |_=>none
def a4g(o:s8):Option (List (List D)):=if o.sz=D9 then(match o.rows with
 | []::[]::rows=>some rows
 |_=>none) else none
def a8n(P:Program)(t:TypeId):Option Nat:=match P.underlying t with
 |some (.int _)=>some 0
 |some .string=>some 1
 |some .bool=>some 2
 |_=>none
def a7B(kk:Nat)(d:D):Bool:=match d with
 | .int _ _=>kk==0
 | .str _=>kk==1
 | .bool _=>kk==2
 |_=>false
def b5d:D→D→Option Bool
 | .int k a, .int k' b=>if k=k' then some (a==b) else none
 | .str a, .str b=>some (a==b)
 | .bool a, .bool b=>some (a==b)
 |_,_=>none
def a6t(k:D):List (List D)→Nat→Option (Option (Nat×D×D))
 | [],_=>some none
 | [k',v,n]::es,i=>match b5d k k' with
  |some true=>some (some (i,v,n))
  |some false=>a6t k es (i+1)
  |none=>none
 |_::_,_=>none
def b7O(S:b4):D→Option (List (List D))
 | .nilMap=>some []
 | .mp k=>match S k with
  |some o=>a4g o
  |none=>none
 |_=>none
def c5D(z:D)(ok:Bool):Option (Option (Nat×D×D))→Option D
 |some (some (_,v,_))=>some (if ok then .tup [v, .bool true]else v)
 |some none=>some (if ok then .tup [z, .bool false]else z)
 |none=>none
def a4B(S:b4)(kk:Nat)(z:D)(ok:Bool)(x ix:D):Option D:=if a7B kk ix then(match b7O S x with
 |some es=>c5D z ok (a6t ix es 0)
 |none=>none) else none
def b4Q(P:Program)(S:b4)(t:TypeId)(x ix:D)(ok:Bool):Option D:=match P.underlying t with
 |some (.map kt e)=>match a8n P kt,C7 P e with
  |some kk,some z=>a4B S kk (b5O z) ok x ix
  |_,_=>none
 |_=>none
def c4O(S:b4)(x:D):Option D:=match b7O S x with
 |some es=>some (.int .i64 es.length)
 |none=>none
def a8z(P:Program)(t:TypeId):Bool:=match P.underlying t with
 |some (.map _ _)=>true
 |_=>false
def H9(c a b:D):Option D:=match c with
 | .bool t=>some (if t then a else b)
 |_=>none
def a2O:D→Option D
 | .nilPtr| .nilIfc| .nilFn| .any| .fn (.method _) _ _=>none
 |y=>some y
def s6(x:D)(ix:Nat):Option D:=match x with
 | .tup vs=>vs[ix]?
 |_=>none
def d4(op:BinOp)(a b:D):Option D:=match a,b with
 | .int k x, .int k' y=>match op with
  | .shl=>if y<0 then none else some (.int k (k.wrap (x*2^(min y.toNat k.bits))))
  | .shr=>if y<0 then none else some (.int k (x.fdiv (2^(min y.toNat k.bits))))
  |_=>if k=k' then(G6 op k x y).map P8 else none
 |_,_=>none
def b9Q(op:BinOp)(a b:D):Option D:=match a,b with
 | .str x, .str y=>(a2n op x y).map P8
 |_,_=>none
def b3a(op:BinOp)(r:Option Bool):Option D:=match op with
 | .eql=>r.map .bool
 | .neq=>r.map fun b=> .bool !b
 |_=>none
def c3Z(a b:D):Option Bool:=match a,b with
 | .bool x, .bool y=>some (x==y)
 |_,_=>none
def c3R(a b:D):Option Bool:=match a,b with
 | .nilSlc, .nilSlc=>some true
 | .nilSlc, .lst (_::_) _| .nilSlc, .ext _ _ _| .nilSlc, .raw _ _ _ _ _ _| .lst (_::_) _, .nilSlc| .ext _ _ _, .nilSlc| .raw _ _ _ _ _ _, .nilSlc=>some false
 |_,_=>none
def c4t(a b:D):Option Bool:=match a,b with
 | .nilPtr, .nilPtr=>some true
 | .nilPtr, .ptr _ _| .nilPtr, .rel _ _ _ _| .nilPtr, .elt _ _| .ptr _ _, .nilPtr| .rel _ _ _ _, .nilPtr| .elt _ _, .nilPtr=>some false
 |_,_=>none
def c4K(a b:D):Option Bool:=match a,b with
 | .nilFn, .nilFn=>some true
 | .nilFn, .fn _ _ _| .fn _ _ _, .nilFn=>some false
 |_,_=>none
def c4L(c:Bool)(a b:D):Option Bool:=match a,b with
 | .nilIfc, .nilIfc=>if c then some true else none
 | .nilIfc, .ifc _ _| .ifc _ _, .nilIfc=>some false
 |_,_=>none
mutual
def c0K:D→Option AV
 | .bool b=>some (.bool b)
 | .int k n=>some (.int k n)
 | .str s=>some (.str s)
 | .nilPtr=>some .nilPtr
 | .nilSlc=>some .nilSlc
 | .nilMap=>some .nilMap
 | .nilFn=>some .nilFn
 | .nilIfc=>some .nilIfc
 | .ptr k i=>some (.ptr (.new k) i)
 | .agg cs=>match b3u cs with
  |some l=>some (.agg l)
  |none=>none
 |_=>none
def b3u:List D→Option (List AV)
 | []=>some []
 |d::ds=>match c0K d,b3u ds with
  |some v,some vs=>some (v::vs)
  |_,_=>none
end
def c4A(P:Program)(t:TypeId)(a b:D):Option Bool:=match a,b with
 | .agg x, .agg y=>match b3u x,b3u y with
  |some x,some y=>if P.eqGuardType P.depth t then none else eqA P Op.maxDepth t (.agg x) (.agg y)
  |_,_=>none
 |_,_=>none
def c3k(P:Program)(op:BinOp)(t:TypeId)(x y:Operand)(a b:D):Option D:=match P.underlying t with
 |some (.int _)=>d4 op a b
 |some .string=>b9Q op a b
 |some .bool=>b3a op (c3Z a b)
 |some (.slice _)=>b3a op (c3R a b)
 |some (.pointer _)=>b3a op (c4t a b)
 |some (.func ..)=>b3a op (c4K a b)
 |some (.interface _)=>b3a op (c4L (Region.isConst x||Region.isConst y) a b)
 |some (.struct _)=>b3a op (c4A P t a b)
 |_=>none
def unD(op:UnOp)(x:D):Option D:=match op,x with
 | .neg, .int k n=>some (.int k (k.wrap (0 - n)))
 | .xor, .int k n=>some (.int k (k.wrap (BitVec.ofInt k.bits (if k.signed then -1 else k.max) ^^^ BitVec.ofInt k.bits n).toNat))
 | .not, .bool b=>some (.bool !b)
 |_,_=>none
def F4(S:b4)(sz:Nat):D→Option (List (List D))
 | .nilSlc=>some []
 | .lst rows z=>if z=sz then some rows else none
 | .ext rows _ z=>if z=sz then some rows else none
 | .raw k i len _ _ z=>match S k with
  |some o=>if z=sz∧o.sz=sz∧i+len≤o.rows.length then some ((o.rows.drop i).take len) else none
  |none=>none
 |_=>none
def b4i:List D→Option UInt8
 | [.int .u8 n]=>some (UInt8.ofNat n.toNat)
 |_=>none
def V1(k:IntKind):D→Option D
 | .int _ n=>some (.int k (k.wrap n))
 |_=>none
def b4U:D→Option D
 | .str s=>some (.str s)
 |_=>none
def c1l(S:b4)(x:D):Option D:=match F4 S 1 x with
 |some rows=>(rows.mapM b4i).map .str
 |none=>none
def c1n(P:Program)(S:b4)(src dst:TypeId)(x:D):Option D:=match P.underlying src,P.underlying dst with
 |some (.int _),some (.int k)=>V1 k x
 |some .string,some .string=>b4U x
 |some (.slice e),some .string=>match P.underlying e with
  |some (.int .u8)=>c1l S x
  |_=>none
 |_,_=>none
def A4(x:D)(y:Nat):Option Nat:=match x with
 | .int _ i=>if 0≤i∧i≤y then some i.toNat else none
 |_=>none
def b5f(cap:Nat):Option D→Option Nat
 |some v=>A4 v cap
 |none=>some cap
def a4G(len m:Nat):Option D→Option D→Option Nat
 |some v,_=>A4 v m
 |none,none=>some len
 |none,some _=>none
def b0C(h:Nat):Option D→Option Nat
 |some v=>A4 v h
 |none=>some 0
def D5(len cap:Nat)(low high max:Option D):Option (Nat×Nat×Nat):=
 (b5f cap max).bind fun m=>(a4G len m high max).bind fun h=>(b0C h low).bind fun l=>some (l,h,m)
def b7f(x:D)(lo hi:Option D):Option D:=match x with
 | .str s=>(D5 s.length s.length lo hi none).map fun r=> .str ((s.drop r.1).take (r.2.1 - r.1))
 |_=>none
def b4r(rows more:List (List D))(sz:Nat):D:=match more with
 | []=> .lst rows sz
 |m=> .ext rows m sz
def V6(sz:Nat)(x:D)(lo hi mx:Option D):Option D:=match x with
 | .nilSlc=>(D5 0 0 lo hi mx).map fun _=> .nilSlc
 | .lst rows z=>if z=sz then(D5 rows.length rows.length lo hi mx).map fun r=>b4r ((rows.drop r.1).take (r.2.1 - r.1)) ((rows.drop r.2.1).take (r.2.2 - r.2.1)) sz else none
 | .ext rows more z=>if z=sz then(D5 rows.length (rows++more).length lo hi mx).map fun r=>b4r (((rows++more).drop r.1).take (r.2.1 - r.1)) (((rows++more).drop r.2.1).take (r.2.2 - r.2.1)) sz else none
 | .raw k i len cap ex z=>if z=sz then(D5 len cap lo hi mx).map fun r=> .raw k (i+r.1) (r.2.1 - r.1) (r.2.2 - r.1) (ex||mx.isSome) sz else none
 |_=>none
def b7s(P:Program)(t:TypeId)(x:D)(lo hi mx:Option D):Option D:=match P.underlying t with
 |some .string=>match mx with
  |none=>b7f x lo hi
  |some _=>none
 |some (.slice e)=>match s7 P e with
  |some sz=>V6 sz x lo hi mx
  |none=>none
 |_=>none
def u7(off:Nat):D→Option D
 | .ptr k i=>some (.ptr k (i+off))
 | .rel k r i sz=>some (.rel k r (i+off) sz)
 | .elt row i=>some (.elt row (i+off))
 |_=>none
def b2l(P:Program)(s:TypeId)(x:D)(field:Nat):Option D:=match a0T P s field with
 |some f=>match s7 P f.type with
  |some (_+1)=>u7 f.offset x
  |_=>none
 |none=>none
def b5x(off n:Nat):D→Option D
 | .agg cs=>some (.agg ((cs.drop off).take n))
 |_=>none
def b5a(off:Nat):D→Option D
 | .agg cs=>cs[off]?
 |_=>none
def b6X(P:Program)(t:TypeId)(off:Nat)(x:D):Option D:=match a3O P t with
 |some true=>match s7 P t with
  |some n=>b5x off n x
  |none=>none
 |some false=>b5a off x
 |none=>none
def b7z(P:Program)(s:TypeId)(x:D)(field:Nat):Option D:=match a0T P s field with
 |some f=>b6X P f.type f.offset x
 |none=>none
def l7(sz:Nat)(x ix:D):Option D:=match ix with
 | .int _ n=>match x with
  | .lst rows z=>if z=sz∧0≤n then match rows[n.toNat]? with
   |some row=>some (.elt row 0)
   |none=>none
   else none
  | .ext rows _ z=>if z=sz∧0≤n then match rows[n.toNat]? with
   |some row=>some (.elt row 0)
   |none=>none
   else none
  | .raw k i len _ _ z=>if z=sz∧0≤n∧n<len then some (.rel k (i+n.toNat) 0 sz) else none
  |_=>none
 |_=>none
def c1y(len sz:Nat)(x ix:D):Option D:=match ix with
 | .int _ n=>if 0≤n∧n<len then u7 (n.toNat*sz) x else none
 |_=>none
def b2k(P:Program)(t:TypeId)(x ix:D):Option D:=match P.underlying t with
 |some (.slice e)=>match s7 P e with
  |some sz=>l7 sz x ix
  |none=>none
 |some (.array len e)=>match s7 P e with
  |some sz=>c1y len sz x ix
  |none=>none
 |_=>none
def c1M(x ix:D):Option D:=match ix,x with
 | .int _ n, .str s=>if 0≤n then match s[n.toNat]? with
  |some b=>some (.int .u8 b.toNat)
  |none=>none
  else none
 |_,_=>none
def c1j(len sz:Nat)(ag:Bool)(x ix:D):Option D:=match ix with
 | .int _ n=>if 0≤n∧n<len then(match ag with
  |true=>b5x (n.toNat*sz) sz x
  |false=>b5a (n.toNat*sz) x) else none
 |_=>none
def b7L(P:Program)(t:TypeId)(x ix:D):Option D:=match P.underlying t with
 |some .string=>c1M x ix
 |some (.array len e)=>match s7 P e,a3O P e with
  |some sz,some ag=>c1j len sz ag x ix
  |_,_=>none
 |_=>none
def b7Z:D→Option D
 | .str s=>some (.int .i64 s.length)
 |_=>none
def m8:D→Option D
 | .nilSlc=>some (.int .i64 0)
 | .lst rows _=>some (.int .i64 rows.length)
 | .ext rows _ _=>some (.int .i64 rows.length)
 | .raw _ _ len _ _ _=>some (.int .i64 len)
 |_=>none
def c3E(P:Program)(S:b4)(t:TypeId)(x:D):Option D:=match P.underlying t with
 |some .string=>b7Z x
 |some (.map _ _)=>c4O S x
 |some (.slice _)=>m8 x
 |some (.array n _)=>some (.int .i64 n)
 |_=>none
def c2L:D→Option D
 | .nilSlc=>some (.int .i64 0)
 | .raw _ _ _ cap true _=>some (.int .i64 cap)
 |_=>none
def c3O(P:Program)(t:TypeId)(x:D):Option D:=match P.underlying t with
 |some (.slice _)=>c2L x
 |some (.array n _)=>some (.int .i64 n)
 |_=>none
def mmD(isMax:Bool)(x y:D):Option D:=match x,y with
 | .int k a, .int _ b=>some (.int k (if isMax then(if b>a then b else a) else(if b<a then b else a)))
 |_,_=>none
def a7z(isMax:Bool):List D→Option D
 | []=>none
 |x::rest=>rest.foldlM (mmD isMax) x
def b8b(P:Program)(t:TypeId)(x:D):Option D:=match P.underlying t with
 |some (.interface _)=>none
 |some _=>some (.ifc t x)
 |none=>none
def asD(t:TypeId)(z:D)(ok:Bool)(x:D):Option D:=match x with
 | .nilIfc=>if ok then some (.tup [z, .bool false]) else none
 | .ifc t' v=>if t'=t then some (if ok then .tup [v, .bool true]else v) else if ok then some (.tup [z, .bool false]) else none
 |_=>none
def b5c(P:Program)(x:D)(asserted:TypeId)(ok:Bool):Option D:=match P.underlying asserted with
 |some (.interface _)=>none
 |some _=>match C7 P asserted with
  |some z=>asD asserted (b5O z) ok x
  |none=>none
 |none=>none
def r9:List D→List (Nat×Nat×D)→Option (List D)
 |cs,[]=>some cs
 |cs,(off,size,v)::rest=>match r7 v with
  |some ds=>if ds.length=size∧off+size≤cs.length then r9 (o3 cs off ds) rest else none
  |none=>none
def a5v(place:Nat→Option (Nat×Nat)):List (Nat×D)→Option (List (Nat×Nat×D))
 | []=>some []
 |(i,v)::rest=>match place i with
  |some (off,size)=>match a5v place rest with
   |some l=>some ((off,size,v)::l)
   |none=>none
  |none=>none
def C9(r:Option (List D)):Option D:=match r with
 |some cs=>some (.agg cs)
 |none=>none
def b7R(P:Program)(t:TypeId)(parts:List (Nat×D)):Option D:=match C7 P t with
 |some (.agg z)=>if z.all j4 then match P.underlying t with
  |some (.struct fields)=>match fields.toList.mapM fun f=>(s7 P f.type).map fun s=>(f.offset,s) with
   |some places=>match a5v (places[·]?) parts with
    |some l=>C9 (r9 (z.map P8) l)
    |none=>none
   |none=>none
  |some (.array _ e)=>match s7 P e with
   |some size=>match a5v (fun i=>some (i*size,size)) parts with
    |some l=>C9 (r9 (z.map P8) l)
    |none=>none
   |none=>none
  |_=>none
  else none
 |_=>none
def b8U(P:Program)(S:b4)(t:TypeId)(a:D):Option D:=match a3O P t with
 |some true=>match s7 P t with
  |some n=>s4 S n a
  |none=>none
 |some false=>c8 S a
 |none=>none
def c3b(P:Program)(T:List D)(S:b4)(o:Oper):Option D:=
 match o.op with
 | .move x| .assign x=>some (k9 T x)
 | .pick c a b=>H9 (k9 T c) (k9 T a) (k9 T b)
 | .build t parts=>b7R P t (parts.toList.map fun p=>(p.1,k9 T p.2))
 | .load t a=>b8U P S t (k9 T a)
 | .nilCheck x=>a2O (k9 T x)
 | .binOp op t x y _=>c3k P op t x y (k9 T x) (k9 T y)
 | .unOp op _ x=>unD op (k9 T x)
 | .convert src dst x=>c1n P S src dst (k9 T x)
 | .makeInterface t x=>b8b P t (k9 T x)
 | .makeFunc fn first captured=>some (.fn fn (first.toList.map (k9 T)) (captured.toList.map (k9 T)))
 | .slice t x lo hi mx=>b7s P t (k9 T x) (lo.map (k9 T)) (hi.map (k9 T)) (mx.map (k9 T))
 | .fieldAddr s x f=>b2l P s (k9 T x) f
 | .field s x f=>b7z P s (k9 T x) f
 | .indexAddr t x ix=>b2k P t (k9 T x) (k9 T ix)
 | .index t x ix=>b7L P t (k9 T x) (k9 T ix)
 | .lookup t x ix ok=>b4Q P S t (k9 T x) (k9 T ix) ok
 | .typeAssert x _ asserted ok=>b5c P (k9 T x) asserted ok
 | .extract t ix=>s6 (k9 T t) ix
 | .call c=>match c.callee with
  | .builtin b=>match b,c.args.toList.map (k9 T),c.argTypes.toList with
   | .len,[x],[t]=>c3E P S t x
   | .cap,[x],[t]=>c3O P t x
   | .min,l,_=>a7z false l
   | .max,l,_=>a7z true l
   |_,_,_=>none
  |_=>none
 |_=>none
def c2a(P:Program)(c:Call):Bool:=match c.callee with
 | .builtin .len=>match c.argTypes.toList with
  | [t]=>a8z P t
  |_=>false
 |_=>false
def b2w(T:List D)(c:Call):D:=match c.args.toList.map (k9 T) with
 | [x]=>x
 |_=> .any
def a4u(P:Program)(T:List D)(o:Oper):Option Nat:=match o.op with
 | .load _ a=>a7M (k9 T a)
 | .convert _ _ x=>a7M (k9 T x)
 | .lookup _ x _ _=>a7Q (k9 T x)
 | .call c=>if c2a P c then a7Q (b2w T c) else none
 |_=>none
structure Agr (R:Fz) (S:b4) (k:Option Nat) (H:AHeap):Prop where
 fz:∀j cs,R j=some cs→∃w p,H.get j=some (.cells cs w p)
 st:∀j o,k=some j→S j=some o→(o.sz<D9∨∃cs,o.rows=[cs])→∃w p,H.get j=some (.cells o.acs w p)
 mp:∀j o rows,k=some j→S j=some o→a4g o=some rows→∃es clock,o.acs=es.map b3n∧H.get j=some (.map es clock)
theorem b8u{o:s8}{rows:List (List D)}(h:a4g o=some rows):o.sz=D9∧o.rows=[]::[]::rows:=by
 unfold a4g at h
 split at h
 ·rename_i hs
  split at h
  ·rename_i r e;cases h;exact⟨hs,e⟩
  ·cases h
 ·cases h
theorem n9.mapAt{E:d6}{R:Fz}{S:b4}{H:AHeap}(h:n9 E R S H){k:Nat}{o:s8}{rows:List (List D)}(hk:S k=some o)(hm:a4g o=some rows):
  R k=none∧∃es clock,o.acs=es.map b3n∧H.get k=some (.map es clock)∧RpE E R rows es∧(es.map (·.2.2)).Nodup∧∀e∈es,e.2.2<clock:=by
 obtain⟨hs,hr⟩:=b8u hm
 rcases h.own k o hk with ⟨h1,⟨_,_,h2,_⟩|⟨es,cl,rws,_,b,a,g,r⟩⟩|⟨a,_⟩|⟨a,_⟩
 ·have:=h2 [] (by rw[hr];exact List.mem_cons_self)
  rw[hs]at this
  cases this
 ·rw[hr]at b
  cases b
  exact⟨h1,es,cl,a,g,r⟩
 ·rw[hs]at a
  exact absurd a (by decide)
 ·rw[hs]at a
  exact absurd a (by decide)
theorem n9.agr{E:d6}{R:Fz}{S:b4}{H:AHeap}(h:n9 E R S H)(k:Option Nat):Agr R S k H:=
 ⟨fun j cs e=>let ⟨w,pre,g⟩:=h.frozen j cs e;⟨w,pre,g⟩,fun j o _ e hc=>let ⟨_,⟨pre,g⟩,_⟩:=h.cells e hc;⟨_,pre,g⟩,fun j o rows _ e hm=>
  let ⟨_,es,cl,a,g,_⟩:=h.mapAt e hm;⟨es,cl,a,g⟩⟩
end
section
section
variable{P:Program}{E:d6}{R:Fz}{S:b4}{H0:AHeap}
theorem a8i{v:AV}:Rp E R (P8 v) v:=by
 cases v<;>simp only[P8,Rp]
theorem a9D:∀l:List AV,o6 E R (l.map P8) l
 | []=>u5
 |v::l=>m6 a8i (a9D l)
theorem a5r{v:AV}:Rp E R (b5O v) v:=by
 unfold b5O
 split
 ·rename_i cs
  split
  ·rename_i h
   simp only[Rp]
   exact⟨cs,rfl,a9D cs,h⟩
  ·simp only[Rp]
 ·exact O6
 ·exact a8i
theorem i7{T:List D}{avs:List AV}(h:o6 E R T avs)(x:Operand):Rp E R (k9 T x) (b8 avs x):=by
 cases x with
 |tmp t=>exact a4K h t
 |const v=>exact a5r
 |global g=>simp only[k9,Rp]
 |func f=>
  simp only[k9,b8,Rp]
  exact⟨[],[],rfl,u5,u5⟩
theorem a1z{T:List D}{avs:List AV}(h:o6 E R T avs):∀l:List Operand,o6 E R (l.map (k9 T)) (l.map (b8 avs))
 | []=>u5
 |x::l=>m6 (i7 h x) (a1z h l)
theorem a5k{d:D}{v:AV}(h:Rp E R d v){ds:List D}(hc:r7 d=some ds):o6 E R ds v.cells∧v.cells.all j4=true:=by
 cases d<;>simp only[r7,Option.some.injEq]at hc<;>try (cases hc;done)
 case agg cs=>
  subst hc
  simp only[Rp]at h
  obtain⟨vs,rfl,h1,h2⟩:=h
  exact⟨h1,h2⟩
 all_goals
  subst hc
  have hR:=h
  simp only[Rp]at h
  first
   |(subst h;exact⟨m6 hR u5,rfl⟩)
   |(rcases h with ⟨_,rfl⟩|⟨o,j,cap,ex,z,rfl,_⟩<;>exact⟨m6 hR u5,rfl⟩)
   |(obtain⟨o,j,cap,ex,z,all,rfl,_⟩:=h;exact⟨m6 hR u5,rfl⟩)
   |(obtain⟨o,j,all,rfl,_⟩:=h;exact⟨m6 hR u5,rfl⟩)
   |(obtain⟨a',b',rfl,_⟩:=h;exact⟨m6 hR u5,rfl⟩)
   |(obtain⟨v',rfl,_⟩:=h;exact⟨m6 hR u5,rfl⟩)
   |(obtain⟨_,rfl⟩:=(h:_∧_);exact⟨m6 hR u5,rfl⟩)
   |(obtain⟨_,j,cap,ex,all,rfl,_⟩:=(h:_∧_);exact⟨m6 hR u5,rfl⟩)
theorem a8Q{o:Id}{all:List AV}(h:rdE E R o=some all){k:Option Nat}{H:AHeap}(hA:Agr R S k H):cellsOf E H o=some all:=by
 cases o with
 |old b=>exact h
 |new j=>
  obtain⟨w,p,g⟩:=hA.fz j all h
  simp only[cellsOf,g]
theorem Q1{l:List AV}(h:l.all j4=true)(n:Nat):(l.drop n).all j4=true:=
 List.all_eq_true.2 fun x hx=>List.all_eq_true.1 h x (List.mem_of_mem_drop hx)
theorem C8{l:List AV}(h:l.all j4=true)(n:Nat):(l.take n).all j4=true:=
 List.all_eq_true.2 fun x hx=>List.all_eq_true.1 h x (List.mem_of_mem_take hx)
theorem b6r(hC:n9 E R S H0){a:D}{v:AV}(h:Rp E R a v){row:List D}{i:Nat}(hr:a9U S a=some (row,i)):
  ∃o j all,v= .ptr o (j+i)∧o6 E R row ((all.drop j).take row.length)∧((all.drop j).take row.length).all j4=true∧∀H,Agr R S (a7M a) H→cellsOf E H o=some all:=by
 cases a<;>simp only[a9U]at hr<;>try (cases hr;done)
 case ptr k j=>
  simp only[Rp]at h
  subst h
  cases hk:S k with
  |none=>rw[hk]at hr;cases hr
  |some o=>
   simp only[hk]at hr
   split at hr
   ·rename_i cs hcs
    obtain⟨h1,⟨pre,h2⟩,h3,h4,h5⟩:=hC.cells hk (.inr ⟨_,hcs⟩)
    cases hr
    rw[hcs,List.flatten_singleton]at h5
    have e:o.acs.take row.length=o.acs:=List.take_of_length_le (by rw[h5.length];exact Nat.le_refl _)
    refine⟨.new k,0,o.acs,by rw[Nat.zero_add], ?_, ?_,fun H hA=> ?_⟩
    ·rw[List.drop_zero,e];exact h5
    ·rw[List.drop_zero,e];exact h3
    ·obtain⟨w,p,g⟩:=hA.st k o rfl hk (.inr ⟨_,hcs⟩)
     simp only[cellsOf,g]
   ·cases hr
 case rel k r j sz=>
  simp only[Rp]at h
  obtain⟨hmz,rfl⟩:=h
  cases hk:S k with
  |none=>rw[hk]at hr;cases hr
  |some o=>
   simp only[hk]at hr
   split at hr
   ·rename_i hsz
    obtain⟨h1,⟨pre,h2⟩,h3,h4,h5⟩:=hC.cells hk (.inl (by rw[hsz];exact hmz))
    split at hr
    ·rename_i row' hrow
     cases hr
     have hl:row.length=sz:=by rw[h4 row (List.mem_of_getElem? hrow),hsz]
     refine⟨.new k,r*sz,o.acs,rfl, ?_,C8 (Q1 h3 _) _,fun H hA=> ?_⟩
     ·have:=(h5.drop (r*sz)).take row.length
      rw[←hsz]at this hl ⊢
      rw[hl,a4S h4 hrow]at this
      rw[hl]
      exact this
     ·obtain⟨w,p,g⟩:=hA.st k o rfl hk (.inl (by rw[hsz];exact hmz))
      simp only[cellsOf,g]
    ·cases hr
   ·cases hr
 case elt row' j=>
  cases hr
  simp only[Rp]at h
  obtain⟨o,j',all,rfl,e2,e3,e4⟩:=h
  exact⟨o,j',all,rfl,e3,e4,fun H hA=>a8Q e2 hA⟩
theorem a3o{α:Type}{all:List α}{j L i n:Nat}(h:i+n≤L):(all.drop (j+i)).take n=(((all.drop j).take L).drop i).take n:=by
 rw[List.drop_take,List.take_take,List.drop_drop,Nat.min_eq_left (by omega)]
theorem b8z(hC:n9 E R S H0){t:TypeId}{a:D}{v:AV}(h:Rp E R a v){d:D}(hd:b8U P S t a=some d):
  ∃x,Rp E R d x∧∀H,Agr R S (a7M a) H→b8v P E H t v=some x:=by
 unfold b8U at hd
 cases hg:a3O P t with
 |none=>rw[hg]at hd;cases hd
 |some b=>
  rw[hg]at hd
  cases b with
  |true=>
   cases hs:s7 P t with
   |none=>rw[hs]at hd;cases hd
   |some n=>
    simp only[hs,s4]at hd
    split at hd
    ·rename_i row i hrow
     split at hd
     ·rename_i hn
      cases hd
      obtain⟨o,j,all,rfl,h1,h2,h3⟩:=b6r hC h hrow
      have hl:=h1.length
      rw[List.length_take,List.length_drop]at hl
      refine⟨.agg ((all.drop (j+i)).take n), ?_,fun H hA=> ?_⟩
      ·rw[a3o hn.2]
       simp only[Rp]
       exact⟨_,rfl,(h1.drop i).take n,C8 (Q1 h2 i) n⟩
      ·show D4 P E H t o (j+i)=_
       simp only[D4,hg,hs,Option.pure_def,Option.bind_eq_bind,Option.bind_some,if_true,z7,h3 H hA]
       rw[if_pos (by omega)]
       rfl
     ·cases hd
    ·cases hd
  |false=>
   simp only[c8]at hd
   split at hd
   ·rename_i row i hrow
    obtain⟨o,j,all,rfl,h1,h2,h3⟩:=b6r hC h hrow
    obtain⟨x,e1,e2⟩:=a0R h1 hd
    refine⟨x,e2,fun H hA=> ?_⟩
    show D4 P E H t o (j+i)=_
    simp only[D4,hg,Option.pure_def,Option.bind_eq_bind,Option.bind_some,Bool.false_eq_true,if_false,a1B,h3 H hA]
    rw[List.getElem?_take]at e1
    split at e1
    ·rw[List.getElem?_drop]at e1;exact e1
    ·cases e1
   ·cases hd
theorem c1X{c a b:D}{vc va vb:AV}(hc:Rp E R c vc)(ha:Rp E R a va)(hb:Rp E R b vb){d:D}(h:H9 c a b=some d):∃x,Rp E R d x∧b9f vc va vb=some x:=by
 cases c<;>simp only[H9]at h<;>try (cases h;done)
 case bool t=>
  cases h
  simp only[Rp]at hc
  subst hc
  refine⟨_, ?_,rfl⟩
  cases t
  ·exact hb
  ·exact ha
theorem c3t{c:D}{v:AV}(hc:Rp E R c v){d:D}(h:a2O c=some d):Rp E R d v∧b9M v=some v:=by
 cases c<;>simp only[a2O]at h<;>try (cases h;done)
 case fn f a b=>
  have hR:=hc
  simp only[Rp]at hc
  obtain⟨a',b',rfl,_⟩:=hc
  cases f<;>simp at h<;>(subst h;exact⟨hR,rfl⟩)
 all_goals
  cases h
  have hR:=hc
  simp only[Rp]at hc
  first
   |(subst hc;exact⟨hR,rfl⟩)
   |(rcases hc with ⟨_,rfl⟩|⟨o,j,cap,ex,z,rfl,_⟩<;>exact⟨hR,rfl⟩)
   |(obtain⟨o,j,cap,ex,z,all,rfl,_⟩:=hc;exact⟨hR,rfl⟩)
   |(obtain⟨o,j,all,rfl,_⟩:=hc;exact⟨hR,rfl⟩)
   |(obtain⟨v',rfl,_⟩:=hc;exact⟨hR,rfl⟩)
   |(obtain⟨_,rfl⟩:=(hc:_∧_);exact⟨hR,rfl⟩)
   |(obtain⟨_,j,cap,ex,all,rfl,_⟩:=(hc:_∧_);exact⟨hR,rfl⟩)
theorem b7P{c:D}{v:AV}(hc:Rp E R c v){ix:Nat}{d:D}(h:s6 c ix=some d):∃x,Rp E R d x∧a7V v ix=some x:=by
 cases c<;>simp only[s6]at h<;>try (cases h;done)
 case tup vs=>
  simp only[Rp]at hc
  obtain⟨ws,rfl,h1⟩:=hc
  obtain⟨x,e1,e2⟩:=a0R h1 h
  exact⟨x,e2,e1⟩
theorem b9F{op:BinOp}{x y:List UInt8}{d:D}(h:(a2n op x y).map P8=some d):∃v,Rp E R d v∧a2n op x y=some v:=by
 cases hs:a2n op x y with
 |none=>rw[hs]at h;cases h
 |some v=>rw[hs]at h;cases h;exact⟨v,a8i,rfl⟩
theorem a5A{op:BinOp}{r:Option Bool}{d:D}(h:b3a op r=some d):∃b,r=some b∧((op= .eql∧d= .bool b)∨(op= .neq∧d= .bool !b)):=by
 cases op<;>simp only[b3a]at h<;>try (cases h;done)
 all_goals
  cases r with
  |none=>cases h
  |some b=>cases h;exact⟨b,rfl,by simp⟩
theorem a2m{op:BinOp}{t:TypeId}{x y:Operand}{a b:AV}{r:Bool}{d:D}(hd:(op= .eql∧d= .bool r)∨(op= .neq∧d= .bool !r))(hg:U6 P op t x y a b=true)
  (hi:∀k n k' m,¬(a= .int k n∧b= .int k' m)) (hs:∀s u,¬(a= .str s∧b= .str u)) (he:eqA P Op.maxDepth t a b=some r):∃v,Rp E R d v∧b7D P op t x y a b=some v:=by
 have hb:∀op,(op=BinOp.eql∨op= .neq)→a6J P op t a b=match op with
   | .eql=>(eqA P Op.maxDepth t a b).map .bool
   | .neq=>(eqA P Op.maxDepth t a b).map fun r=> .bool !r
   |_=>none:=by
  intro op ho
  unfold a6J
  split
  ·exact(hi _ _ _ _ ⟨rfl,rfl⟩).elim
  ·exact(hs _ _ ⟨rfl,rfl⟩).elim
  ·rfl
 unfold b7D
 rw[if_pos hg]
 rcases hd with ⟨rfl,rfl⟩|⟨rfl,rfl⟩
 ·refine⟨.bool r,by simp only[Rp], ?_⟩
  rw[hb _ (.inl rfl),he];rfl
 ·refine⟨.bool !r,by simp only[Rp], ?_⟩
  rw[hb _ (.inr rfl),he];rfl
mutual
theorem b5n:∀ {d:D} {v x:AV},Rp E R d v→c0K d=some x→v=x
 | .any,v,x,_,e=>by cases e
 | .bool b,v,x,h,e=>by simp only[Rp]at h;cases e;exact h
 | .int k n,v,x,h,e=>by simp only[Rp]at h;cases e;exact h
 | .str s,v,x,h,e=>by simp only[Rp]at h;cases e;exact h
 | .nilPtr,v,x,h,e=>by simp only[Rp]at h;cases e;exact h
 | .nilSlc,v,x,h,e=>by simp only[Rp]at h;cases e;exact h
 | .nilMap,v,x,h,e=>by simp only[Rp]at h;cases e;exact h
 | .nilFn,v,x,h,e=>by simp only[Rp]at h;cases e;exact h
 | .nilIfc,v,x,h,e=>by simp only[Rp]at h;cases e;exact h
 | .mp k,v,x,h,e=>by cases e
 | .ptr k i,v,x,h,e=>by simp only[Rp]at h;cases e;exact h
 | .rel ..,v,x,h,e=>by cases e
 | .elt ..,v,x,h,e=>by cases e
 | .lst ..,v,x,h,e=>by cases e
 | .ext ..,v,x,h,e=>by cases e
 | .raw ..,v,x,h,e=>by cases e
 | .tip ..,v,x,h,e=>by cases e
 | .fn ..,v,x,h,e=>by cases e
 | .ifc ..,v,x,h,e=>by cases e
 | .tup ..,v,x,h,e=>by cases e
 | .agg cs,v,x,h,e=>by
  simp only[Rp]at h
  obtain⟨vs,rfl,h1,h2⟩:=h
  simp only[c0K]at e
  split at e
  ·rename_i l hl
   cases e
   rw[b5J h1 hl]
  ·cases e
theorem b5J:∀ {ds:List D} {vs xs:List AV},o6 E R ds vs→b3u ds=some xs→vs=xs
 | [],vs,xs,h,e=>by simp only[o6]at h;cases e;exact h
 |d::ds,vs,xs,h,e=>by
  simp only[o6]at h
  obtain⟨v,ws,rfl,h1,h2⟩:=h
  simp only[b3u]at e
  split at e
  ·rename_i a b ha hb
   cases e
   rw[b5n h1 ha,b5J h2 hb]
  ·cases e
end
theorem c3j{op:BinOp}{t:TypeId}{x y:Operand}{a b:D}{va vb:AV}(ha:Rp E R a va)(hb:Rp E R b vb){d:D}(h:c3k P op t x y a b=some d):∃v,Rp E R d v∧b7D P op t x y va vb=some v:=by
 unfold c3k at h
 split at h
 ·
  cases a<;>simp only[d4]at h<;>try (cases h;done)
  rename_i k n
  cases b<;>simp only at h<;>try (cases h;done)
  rename_i k' m
  simp only[Rp]at ha hb
  subst ha hb
  have hg:U6 P op t x y (.int k n) (.int k' m)=true:=by cases op<;>rfl
  unfold b7D
  rw[if_pos hg]
  simp only[a6J]
  cases op
  case shl=>
   simp only at h ⊢
   split at h
   ·cases h
   ·rename_i h0;cases h;rw[if_neg h0];exact⟨_,by simp only[Rp],rfl⟩
  case shr=>
   simp only at h ⊢
   split at h
   ·cases h
   ·rename_i h0;cases h;rw[if_neg h0];exact⟨_,by simp only[Rp],rfl⟩
  all_goals
   simp only at h ⊢
   split at h
   ·rename_i hk
    rw[if_pos hk]
    cases hr:G6 _ k n m with
    |none=>rw[hr]at h;cases h
    |some v=>rw[hr]at h;cases h;exact⟨v,a8i,rfl⟩
   ·cases h
 ·
  cases a<;>simp only[b9Q]at h<;>try (cases h;done)
  rename_i s
  cases b<;>simp only at h<;>try (cases h;done)
  rename_i u
  simp only[Rp]at ha hb
  subst ha hb
  have hg:U6 P op t x y (.str s) (.str u)=true:=by cases op<;>rfl
  unfold b7D
  rw[if_pos hg]
  exact b9F h
 ·
  rename_i hu
  obtain⟨r,hr,hd⟩:=a5A h
  cases a<;>simp only[c3Z]at hr<;>try (cases hr;done)
  cases b<;>simp only at hr<;>try (cases hr;done)
  simp only[Rp]at ha hb
  subst ha hb
  cases hr
  exact a2m hd (by rcases hd with ⟨rfl,_⟩|⟨rfl,_⟩<;>rfl) (by simp) (by simp) (by simp only[Op.maxDepth,eqA,hu])
 ·
  rename_i e hu
  obtain⟨r,hr,hd⟩:=a5A h
  unfold c3R at hr
  split at hr<;>try (cases hr;done)
  all_goals
   cases hr
   simp only[Rp]at ha hb
   try (rcases ha with ⟨e0,_⟩|⟨o,j,cap,ex,z,rfl,_⟩; ·cases e0)
   try (rcases hb with ⟨e0,_⟩|⟨o,j,cap,ex,z,rfl,_⟩; ·cases e0)
   try (obtain⟨o,j,cap,ex,z,all,rfl,_⟩:=ha)
   try (obtain⟨o,j,cap,ex,z,all,rfl,_⟩:=hb)
   try (obtain⟨_,rfl⟩:=(ha:_∧_))
   try (obtain⟨_,rfl⟩:=(hb:_∧_))
   try subst ha
   try subst hb
   exact a2m hd (by rcases hd with ⟨rfl,_⟩|⟨rfl,_⟩<;>rfl) (by simp) (by simp) (by simp only[Op.maxDepth,eqA,hu])
 ·
  rename_i e hu
  obtain⟨r,hr,hd⟩:=a5A h
  cases a<;>simp only[c4t]at hr<;>try (cases hr;done)
  all_goals
   cases b<;>simp only at hr<;>try (cases hr;done)
   all_goals
    cases hr
    simp only[Rp]at ha hb
    try (obtain⟨o,j,all,rfl,_⟩:=ha)
    try (obtain⟨o,j,all,rfl,_⟩:=hb)
    try (obtain⟨_,rfl⟩:=(ha:_∧_))
    try (obtain⟨_,rfl⟩:=(hb:_∧_))
    try subst ha
    try subst hb
    exact a2m hd (by rcases hd with ⟨rfl,_⟩|⟨rfl,_⟩<;>rfl) (by simp) (by simp) (by simp only[Op.maxDepth,eqA,hu])
 ·
  rename_i hu
  obtain⟨r,hr,hd⟩:=a5A h
  cases a<;>simp only[c4K]at hr<;>try (cases hr;done)
  all_goals
   cases b<;>simp only at hr<;>try (cases hr;done)
   all_goals
    cases hr
    simp only[Rp]at ha hb
    try (obtain⟨a',b',rfl,_⟩:=ha)
    try (obtain⟨a',b',rfl,_⟩:=hb)
    try subst ha
    try subst hb
    exact a2m hd (by rcases hd with ⟨rfl,_⟩|⟨rfl,_⟩<;>rfl) (by simp) (by simp) (by simp only[Op.maxDepth,eqA,hu])
 ·
  rename_i e hu
  obtain⟨r,hr,hd⟩:=a5A h
  cases a<;>simp only[c4L]at hr<;>try (cases hr;done)
  ·cases b<;>simp only at hr<;>try (cases hr;done)
   ·split at hr
    ·rename_i hc
     cases hr
     simp only[Rp]at ha hb
     subst ha hb
     exact a2m hd (by rcases hd with ⟨rfl,_⟩|⟨rfl,_⟩<;>exact hc) (by simp) (by simp) (by simp only[Op.maxDepth,eqA,hu])
    ·cases hr
   ·cases hr
    simp only[Rp]at ha hb
    obtain⟨v',rfl,_⟩:=hb
    subst ha
    exact a2m hd (by rcases hd with ⟨rfl,_⟩|⟨rfl,_⟩<;>rfl) (by simp) (by simp) (by simp only[Op.maxDepth,eqA,hu])
  ·cases b<;>simp only at hr<;>try (cases hr;done)
   cases hr
   simp only[Rp]at ha hb
   obtain⟨v',rfl,_⟩:=ha
   subst hb
   exact a2m hd (by rcases hd with ⟨rfl,_⟩|⟨rfl,_⟩<;>rfl) (by simp) (by simp) (by simp only[Op.maxDepth,eqA,hu])
 ·
  rename_i e hu
  obtain⟨r,hr,hd⟩:=a5A h
  cases a<;>simp only[c4A]at hr<;>try (cases hr;done)
  cases b<;>simp only at hr<;>try (cases hr;done)
  rename_i xs ys
  split at hr
  ·rename_i xa ya hx hy
   split at hr
   ·cases hr
   ·rename_i hg
    have e1:=b5n ha (x:= .agg xa) (by simp only[c0K,hx])
    have e2:=b5n hb (x:= .agg ya) (by simp only[c0K,hy])
    subst e1 e2
    have hg':P.eqGuardType P.depth t=false:=by simpa using hg
    exact a2m hd (by rcases hd with ⟨rfl,_⟩|⟨rfl,_⟩<;>simp only[U6,hg',Bool.not_false]) (by simp) (by simp) hr
  ·cases hr
 ·cases h
theorem c4H{op:UnOp}{a:D}{v:AV}(ha:Rp E R a v){d:D}(h:unD op a=some d):∃x,Rp E R d x∧unA op v=some x:=by
 cases op<;>cases a<;>simp only[unD]at h<;>try (cases h;done)
 all_goals
  cases h
  simp only[Rp]at ha
  subst ha
  exact⟨_,by simp only[Rp],rfl⟩
end
end
end Go.Am
end
