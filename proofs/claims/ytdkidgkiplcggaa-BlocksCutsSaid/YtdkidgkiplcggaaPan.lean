/-
  BlocksCutsSaid: part Pan of its proof.
-/
import Derived.Test.YtdkidgkiplcggaaPam
set_option linter.unusedVariables false
set_option linter.unusedSimpArgs false
set_option maxRecDepth 100000
section
namespace Go.Am
section
def W9:AV→D
 | .bool b=> .bool b
 | .int k n=> .int k n
 | .str s=> .str s
 | .nilPtr=> .nilPtr
 | .nilSlc=> .nilSlc
 | .nilMap=> .nilMap
 | .nilFn=> .nilFn
 | .nilIfc=> .nilIfc
 |_=> .any
def c1A:AV→D
 | .agg cs=>if cs.all m9 then .agg (cs.map W9) else .any
 | .tup []=> .tup []
 |v=>W9 v
def s5:D→Option (List D)
 | .any| .tup _=>none
 | .agg cs=>some cs
 |d=>some [d]
def j4:List D→Nat→List D→List D
 |cs,_,[]=>cs
 |cs,i,v::vs=>j4 (cs.set i v) (i+1) vs
def q7(T:List D):Operand→D
 | .tmp t=>T.getD t b6
 | .const v=>c1A (c1f v)
 | .global _=> .any
 | .func f=> .fn (.func f) [] []
def b3J(S:b5):D→Option (List D×Nat)
 | .ptr k i=>match S k with
  |some o=>match o.rows with
   | [cs]=>some (cs,i)
   |_=>none
  |none=>none
 | .rel k r i sz=>match S k with
  |some o=>if o.sz=sz then match o.rows[r]? with
   |some row=>some (row,i)
   |none=>none
   else none
  |none=>none
 | .elt row i=>some (row,i)
 |_=>none
def l9(S:b5)(n:Nat)(a:D):Option D:=match b3J S a with
 |some (row,i)=>if 0<n∧i+n≤row.length then some (.agg ((row.drop i).take n)) else none
 |none=>none
def d9(S:b5)(a:D):Option D:=match b3J S a with
 |some (row,i)=>row[i]?
 |none=>none
def b2i:D→Option Nat
 | .ptr k _| .rel k _ _ _| .raw k _ _ _ _ _=>some k
 | .mp k=>some k
 |_=>none
def b0X:D→Option Nat
 | .mp k=>some k
 |_=>none
def a6S(o:A2):Option (List (List D)):=if o.sz=H3 then(match o.rows with
 | []::[]::rows=>some rows
 |_=>none) else none
def b1A(P:Program)(t:TypeId):Option Nat:=match P.underlying t with
 |some (.int _)=>some 0
 |some .string=>some 1
 |some .bool=>some 2
 |_=>none
def b1N(kk:Nat)(d:D):Bool:=match d with
 | .int _ _=>kk==0
 | .str _=>kk==1
 | .bool _=>kk==2
 |_=>false
def b9R:D→D→Option Bool
 | .int k a, .int k' b=>if k=k' then some (a==b) else none
 | .str a, .str b=>some (a==b)
 | .bool a, .bool b=>some (a==b)
 |_,_=>none
def a9q(k:D):List (List D)→Nat→Option (Option (Nat×D×D))
 | [],_=>some none
 | [k',v,n]::es,i=>match b9R k k' with
  |some true=>some (some (i,v,n))
  |some false=>a9q k es (i+1)
  |none=>none
 |_::_,_=>none
def c3D(S:b5):D→Option (List (List D))
 | .nilMap=>some []
 | .mp k=>match S k with
  |some o=>a6S o
  |none=>none
 |_=>none
def d1r(z:D)(ok:Bool):Option (Option (Nat×D×D))→Option D
 |some (some (_,v,_))=>some (if ok then .tup [v, .bool true]else v)
 |some none=>some (if ok then .tup [z, .bool false]else z)
 |none=>none
def a7O(S:b5)(kk:Nat)(z:D)(ok:Bool)(x ix:D):Option D:=if b1N kk ix then(match c3D S x with
 |some es=>d1r z ok (a9q ix es 0)
 |none=>none) else none
def c0g(P:Program)(S:b5)(t:TypeId)(x ix:D)(ok:Bool):Option D:=match P.underlying t with
 |some (.map kt e)=>match b1A P kt,G7 P e with
  |some kk,some z=>a7O S kk (c1A z) ok x ix
  |_,_=>none
 |_=>none
def d0o(S:b5)(x:D):Option D:=match c3D S x with
 |some es=>some (.int .i64 es.length)
 |none=>none
def b2C(P:Program)(t:TypeId):Bool:=match P.underlying t with
 |some (.map _ _)=>true
 |_=>false
def y9(c a b:D):Option D:=match c with
 | .bool t=>some (if t then a else b)
 |_=>none
def W6:D→Option D
 | .nilPtr| .nilIfc| .nilFn| .any| .fn (.method _) _ _=>none
 |y=>some y
def o5(x:D)(ix:Nat):Option D:=match x with
 | .tup vs=>vs[ix]?
 |_=>none
def d5(op:BinOp)(a b:D):Option D:=match a,b with
 | .int k x, .int k' y=>match op with
  | .shl=>if y<0 then none else some (.int k (k.wrap (x*2^(min y.toNat k.bits))))
  | .shr=>if y<0 then none else some (.int k (x.fdiv (2^(min y.toNat k.bits))))
  |_=>if k=k' then(L6 op k x y).map W9 else none
 |_,_=>none
def c3n(op:BinOp)(a b:D):Option D:=match a,b with
 | .str x, .str y=>(a4t op x y).map W9
 |_,_=>none
def b7O(op:BinOp)(r:Option Bool):Option D:=match op with
 | .eql=>r.map .bool
 | .neq=>r.map fun b=> .bool !b
 |_=>none
def c9z(a b:D):Option Bool:=match a,b with
 | .bool x, .bool y=>some (x==y)
 |_,_=>none
def c9e(a b:D):Option Bool:=match a,b with
 | .nilSlc, .nilSlc=>some true
 | .nilSlc, .lst (_::_) _| .nilSlc, .ext _ _ _| .nilSlc, .raw _ _ _ _ _ _| .lst (_::_) _, .nilSlc| .ext _ _ _, .nilSlc| .raw _ _ _ _ _ _, .nilSlc=>some false
 |_,_=>none
def d0t(a b:D):Option Bool:=match a,b with
 | .nilPtr, .nilPtr=>some true
 | .nilPtr, .ptr _ _| .nilPtr, .rel _ _ _ _| .nilPtr, .elt _ _| .ptr _ _, .nilPtr| .rel _ _ _ _, .nilPtr| .elt _ _, .nilPtr=>some false
 |_,_=>none
def d0F(a b:D):Option Bool:=match a,b with
 | .nilFn, .nilFn=>some true
 | .nilFn, .fn _ _ _| .fn _ _ _, .nilFn=>some false
 |_,_=>none
def d0f(c:Bool)(a b:D):Option Bool:=match a,b with
 | .nilIfc, .nilIfc=>if c then some true else none
 | .nilIfc, .ifc _ _| .ifc _ _, .nilIfc=>some false
 |_,_=>none
mutual
def c6j:D→Option AV
 | .bool b=>some (.bool b)
 | .int k n=>some (.int k n)
 | .str s=>some (.str s)
 | .nilPtr=>some .nilPtr
 | .nilSlc=>some .nilSlc
 | .nilMap=>some .nilMap
 | .nilFn=>some .nilFn
 | .nilIfc=>some .nilIfc
 | .ptr k i=>some (.ptr (.new k) i)
 | .agg cs=>match b8R cs with
  |some l=>some (.agg l)
  |none=>none
 |_=>none
def b8R:List D→Option (List AV)
 | []=>some []
 |d::ds=>match c6j d,b8R ds with
  |some v,some vs=>some (v::vs)
  |_,_=>none
end
def d0y(P:Program)(t:TypeId)(a b:D):Option Bool:=match a,b with
 | .agg x, .agg y=>match b8R x,b8R y with
  |some x,some y=>if P.eqGuardType P.depth t then none else eqA P Op.maxDepth t (.agg x) (.agg y)
  |_,_=>none
 |_,_=>none
def c9x(P:Program)(op:BinOp)(t:TypeId)(x y:Operand)(a b:D):Option D:=match P.underlying t with
 |some (.int _)=>d5 op a b
 |some .string=>c3n op a b
 |some .bool=>b7O op (c9z a b)
 |some (.slice _)=>b7O op (c9e a b)
 |some (.pointer _)=>b7O op (d0t a b)
 |some (.func ..)=>b7O op (d0F a b)
 |some (.interface _)=>b7O op (d0f (Region.isConst x||Region.isConst y) a b)
 |some (.struct _)=>b7O op (d0y P t a b)
 |_=>none
def unD(op:UnOp)(x:D):Option D:=match op,x with
 | .neg, .int k n=>some (.int k (k.wrap (0 - n)))
 | .xor, .int k n=>some (.int k (k.wrap (BitVec.ofInt k.bits (if k.signed then -1 else k.max) ^^^ BitVec.ofInt k.bits n).toNat))
 | .not, .bool b=>some (.bool !b)
 |_,_=>none
def C1(S:b5)(sz:Nat):D→Option (List (List D))
 | .nilSlc=>some []
 | .lst rows z=>if z=sz then some rows else none
 | .ext rows _ z=>if z=sz then some rows else none
 | .raw k i len _ _ z=>match S k with
  |some o=>if z=sz∧o.sz=sz∧i+len≤o.rows.length then some ((o.rows.drop i).take len) else none
  |none=>none
 |_=>none
def b6G:List D→Option UInt8
 | [.int .u8 n]=>some (UInt8.ofNat n.toNat)
 |_=>none
def Q9(k:IntKind):D→Option D
 | .int _ n=>some (.int k (k.wrap n))
 |_=>none
def b9D:D→Option D
 | .str s=>some (.str s)
 |_=>none
def a7K(S:b5)(x:D):Option D:=match C1 S 1 x with
 |some rows=>(rows.mapM b6G).map .str
 |none=>none
def c6N(P:Program)(S:b5)(src dst:TypeId)(x:D):Option D:=match P.underlying src,P.underlying dst with
 |some (.int _),some (.int k)=>Q9 k x
 |some .string,some .string=>b9D x
 |some (.slice e),some .string=>match P.underlying e with
  |some (.int .u8)=>a7K S x
  |_=>none
 |_,_=>none
def C6(x:D)(y:Nat):Option Nat:=match x with
 | .int _ i=>if 0≤i∧i≤y then some i.toNat else none
 |_=>none
def b7E(cap:Nat):Option D→Option Nat
 |some v=>C6 v cap
 |none=>some cap
def a6Q(len m:Nat):Option D→Option D→Option Nat
 |some v,_=>C6 v m
 |none,none=>some len
 |none,some _=>none
def b2Q(h:Nat):Option D→Option Nat
 |some v=>C6 v h
 |none=>some 0
def G4(len cap:Nat)(low high max:Option D):Option (Nat×Nat×Nat):=
 (b7E cap max).bind fun m=>(a6Q len m high max).bind fun h=>(b2Q h low).bind fun l=>some (l,h,m)
def c1F(x:D)(lo hi:Option D):Option D:=match x with
 | .str s=>(G4 s.length s.length lo hi none).map fun r=> .str ((s.drop r.1).take (r.2.1 - r.1))
 |_=>none
def b8u(rows more:List (List D))(sz:Nat):D:=match more with
 | []=> .lst rows sz
 |m=> .ext rows m sz
def V2(sz:Nat)(x:D)(lo hi mx:Option D):Option D:=match x with
 | .nilSlc=>(G4 0 0 lo hi mx).map fun _=> .nilSlc
 | .lst rows z=>if z=sz then(G4 rows.length rows.length lo hi mx).map fun r=>b8u ((rows.drop r.1).take (r.2.1 - r.1)) ((rows.drop r.2.1).take (r.2.2 - r.2.1)) sz else none
 | .ext rows more z=>if z=sz then(G4 rows.length (rows++more).length lo hi mx).map fun r=>b8u (((rows++more).drop r.1).take (r.2.1 - r.1)) (((rows++more).drop r.2.1).take (r.2.2 - r.2.1)) sz else none
 | .raw k i len cap ex z=>if z=sz then(G4 len cap lo hi mx).map fun r=> .raw k (i+r.1) (r.2.1 - r.1) (r.2.2 - r.1) (ex||mx.isSome) sz else none
 |_=>none
def c3y(P:Program)(t:TypeId)(x:D)(lo hi mx:Option D):Option D:=match P.underlying t with
 |some .string=>match mx with
  |none=>c1F x lo hi
  |some _=>none
 |some (.slice e)=>match A4 P e with
  |some sz=>V2 sz x lo hi mx
  |none=>none
 |_=>none
def p9(off:Nat):D→Option D
 | .ptr k i=>some (.ptr k (i+off))
 | .rel k r i sz=>some (.rel k r (i+off) sz)
 | .elt row i=>some (.elt row (i+off))
 |_=>none
def b7e(P:Program)(s:TypeId)(x:D)(field:Nat):Option D:=match a2M P s field with
 |some f=>match A4 P f.type with
  |some (_+1)=>p9 f.offset x
  |_=>none
 |none=>none
def b9P(off n:Nat):D→Option D
 | .agg cs=>some (.agg ((cs.drop off).take n))
 |_=>none
def c0u(off:Nat):D→Option D
 | .agg cs=>cs[off]?
 |_=>none
def c1J(P:Program)(t:TypeId)(off:Nat)(x:D):Option D:=match a6j P t with
 |some true=>match A4 P t with
  |some n=>b9P off n x
  |none=>none
 |some false=>c0u off x
 |none=>none
def c3f(P:Program)(s:TypeId)(x:D)(field:Nat):Option D:=match a2M P s field with
 |some f=>c1J P f.type f.offset x
 |none=>none
def j5(sz:Nat)(x ix:D):Option D:=match ix with
 | .int _ n=>match x with
  | .lst rows z=>if z=sz∧0≤n then match rows[n.toNat]? with
   |some row=>some (.elt row 0)
   |none=>none
   else none
  | .ext rows _ z=>if z=sz∧0≤n then match rows[n.toNat]? with
   |some row=>some (.elt row 0)
   |none=>none
   else none
  | .raw k i len _ _ z=>if z=sz∧0≤n∧n<len then some (.rel k (i+n.toNat) 0 sz) else none
  |_=>none
 |_=>none
def c7n(len sz:Nat)(x ix:D):Option D:=match ix with
 | .int _ n=>if 0≤n∧n<len then p9 (n.toNat*sz) x else none
 |_=>none
def b6A(P:Program)(t:TypeId)(x ix:D):Option D:=match P.underlying t with
 |some (.slice e)=>match A4 P e with
  |some sz=>j5 sz x ix
  |none=>none
 |some (.array len e)=>match A4 P e with
  |some sz=>c7n len sz x ix
  |none=>none
 |_=>none
def c7m(x ix:D):Option D:=match ix,x with
 | .int _ n, .str s=>if 0≤n then match s[n.toNat]? with
  |some b=>some (.int .u8 b.toNat)
  |none=>none
  else none
 |_,_=>none
def c6q(len sz:Nat)(ag:Bool)(x ix:D):Option D:=match ix with
 | .int _ n=>if 0≤n∧n<len then(match ag with
  |true=>b9P (n.toNat*sz) sz x
  |false=>c0u (n.toNat*sz) x) else none
 |_=>none
def c3a(P:Program)(t:TypeId)(x ix:D):Option D:=match P.underlying t with
 |some .string=>c7m x ix
 |some (.array len e)=>match A4 P e,a6j P e with
  |some sz,some ag=>c6q len sz ag x ix
  |_,_=>none
 |_=>none
def c3B:D→Option D
 | .str s=>some (.int .i64 s.length)
 |_=>none
def j9:D→Option D
 | .nilSlc=>some (.int .i64 0)
 | .lst rows _=>some (.int .i64 rows.length)
 | .ext rows _ _=>some (.int .i64 rows.length)
 | .raw _ _ len _ _ _=>some (.int .i64 len)
 |_=>none
def c9m(P:Program)(S:b5)(t:TypeId)(x:D):Option D:=match P.underlying t with
 |some .string=>c3B x
 |some (.map _ _)=>d0o S x
 |some (.slice _)=>j9 x
 |some (.array n _)=>some (.int .i64 n)
 |_=>none
def c8K:D→Option D
 | .nilSlc=>some (.int .i64 0)
 | .raw _ _ _ cap true _=>some (.int .i64 cap)
 |_=>none
def c9r(P:Program)(t:TypeId)(x:D):Option D:=match P.underlying t with
 |some (.slice _)=>c8K x
 |some (.array n _)=>some (.int .i64 n)
 |_=>none
def mmD(isMax:Bool)(x y:D):Option D:=match x,y with
 | .int k a, .int _ b=>some (.int k (if isMax then(if b>a then b else a) else(if b<a then b else a)))
 |_,_=>none
def b0W(isMax:Bool):List D→Option D
 | []=>none
 |x::rest=>rest.foldlM (mmD isMax) x
def c3K(P:Program)(t:TypeId)(x:D):Option D:=match P.underlying t with
 |some (.interface _)=>none
 |some _=>some (.ifc t x)
 |none=>none
def asD(t:TypeId)(z:D)(ok:Bool)(x:D):Option D:=match x with
 | .nilIfc=>if ok then some (.tup [z, .bool false]) else none
 | .ifc t' v=>if t'=t then some (if ok then .tup [v, .bool true]else v) else if ok then some (.tup [z, .bool false]) else none
 |_=>none
def c0y(P:Program)(x:D)(asserted:TypeId)(ok:Bool):Option D:=match P.underlying asserted with
 |some (.interface _)=>none
 |some _=>match G7 P asserted with
  |some z=>asD asserted (c1A z) ok x
  |none=>none
 |none=>none
def l8:List D→List (Nat×Nat×D)→Option (List D)
 |cs,[]=>some cs
 |cs,(off,size,v)::rest=>match s5 v with
  |some ds=>if ds.length=size∧off+size≤cs.length then l8 (j4 cs off ds) rest else none
  |none=>none
def a8R(place:Nat→Option (Nat×Nat)):List (Nat×D)→Option (List (Nat×Nat×D))
 | []=>some []
 |(i,v)::rest=>match place i with
  |some (off,size)=>match a8R place rest with
   |some l=>some ((off,size,v)::l)
   |none=>none
  |none=>none
def B3(r:Option (List D)):Option D:=match r with
 |some cs=>some (.agg cs)
 |none=>none
def c3r(P:Program)(t:TypeId)(parts:List (Nat×D)):Option D:=match G7 P t with
 |some (.agg z)=>if z.all m9 then match P.underlying t with
  |some (.struct fields)=>match fields.toList.mapM fun f=>(A4 P f.type).map fun s=>(f.offset,s) with
   |some places=>match a8R (places[·]?) parts with
    |some l=>B3 (l8 (z.map W9) l)
    |none=>none
   |none=>none
  |some (.array _ e)=>match A4 P e with
   |some size=>match a8R (fun i=>some (i*size,size)) parts with
    |some l=>B3 (l8 (z.map W9) l)
    |none=>none
   |none=>none
  |_=>none
  else none
 |_=>none
def c4y(P:Program)(S:b5)(t:TypeId)(a:D):Option D:=match a6j P t with
 |some true=>match A4 P t with
  |some n=>l9 S n a
  |none=>none
 |some false=>d9 S a
 |none=>none
def c8X(P:Program)(T:List D)(S:b5)(o:Oper):Option D:=
 match o.op with
 | .move x| .assign x=>some (q7 T x)
 | .pick c a b=>y9 (q7 T c) (q7 T a) (q7 T b)
 | .build t parts=>c3r P t (parts.toList.map fun p=>(p.1,q7 T p.2))
 | .load t a=>c4y P S t (q7 T a)
 | .nilCheck x=>W6 (q7 T x)
 | .binOp op t x y _=>c9x P op t x y (q7 T x) (q7 T y)
 | .unOp op _ x=>unD op (q7 T x)
 | .convert src dst x=>c6N P S src dst (q7 T x)
 | .makeInterface t x=>c3K P t (q7 T x)
 | .makeFunc fn first captured=>some (.fn fn (first.toList.map (q7 T)) (captured.toList.map (q7 T)))
 | .slice t x lo hi mx=>c3y P t (q7 T x) (lo.map (q7 T)) (hi.map (q7 T)) (mx.map (q7 T))
 | .fieldAddr s x f=>b7e P s (q7 T x) f
 | .field s x f=>c3f P s (q7 T x) f
 | .indexAddr t x ix=>b6A P t (q7 T x) (q7 T ix)
 | .index t x ix=>c3a P t (q7 T x) (q7 T ix)
 | .lookup t x ix ok=>c0g P S t (q7 T x) (q7 T ix) ok
 | .typeAssert x _ asserted ok=>c0y P (q7 T x) asserted ok
 | .extract t ix=>o5 (q7 T t) ix
 | .call c=>match c.callee with
  | .builtin b=>match b,c.args.toList.map (q7 T),c.argTypes.toList with
   | .len,[x],[t]=>c9m P S t x
   | .cap,[x],[t]=>c9r P t x
   | .min,l,_=>b0W false l
   | .max,l,_=>b0W true l
   |_,_,_=>none
  |_=>none
 |_=>none
def c7L(P:Program)(c:Call):Bool:=match c.callee with
 | .builtin .len=>match c.argTypes.toList with
  | [t]=>b2C P t
  |_=>false
 |_=>false
def b5R(T:List D)(c:Call):D:=match c.args.toList.map (q7 T) with
 | [x]=>x
 |_=> .any
def a7V(P:Program)(T:List D)(o:Oper):Option Nat:=match o.op with
 | .load _ a=>b2i (q7 T a)
 | .convert _ _ x=>b2i (q7 T x)
 | .lookup _ x _ _=>b0X (q7 T x)
 | .call c=>if c7L P c then b0X (b5R T c) else none
 |_=>none
structure Agr (R:Fz) (S:b5) (k:Option Nat) (H:AHeap):Prop where
 fz:∀j cs,R j=some cs→∃w p,H.get j=some (.cells cs w p)
 st:∀j o,k=some j→S j=some o→(o.sz<H3∨∃cs,o.rows=[cs])→∃w p,H.get j=some (.cells o.acs w p)
 mp:∀j o rows,k=some j→S j=some o→a6S o=some rows→∃es clock,o.acs=es.map b7T∧H.get j=some (.map es clock)
theorem c3c{o:A2}{rows:List (List D)}(h:a6S o=some rows):o.sz=H3∧o.rows=[]::[]::rows:=by
 unfold a6S at h
 split at h
 ·rename_i hs
  split at h
  ·rename_i r e;cases h;exact⟨hs,e⟩
  ·cases h
 ·cases h
theorem s0.mapAt{E:g8}{R:Fz}{S:b5}{H:AHeap}(h:s0 E R S H){k:Nat}{o:A2}{rows:List (List D)}(hk:S k=some o)(hm:a6S o=some rows):
  R k=none∧∃es clock,o.acs=es.map b7T∧H.get k=some (.map es clock)∧RpE E R rows es∧(es.map (·.2.2)).Nodup∧∀e∈es,e.2.2<clock:=by
 obtain⟨hs,hr⟩:=c3c hm
 rcases h.own k o hk with ⟨h1,⟨_,_,h2,_⟩|⟨es,cl,rws,_,b,a,g,r⟩⟩|⟨a,_⟩|⟨a,_⟩
 ·have:=h2 [] (by rw[hr];exact List.mem_cons_self)
  rw[hs]at this
  cases this
 ·rw[hr]at b
  cases b
  exact⟨h1,es,cl,a,g,r⟩
 ·rw[hs]at a
  exact absurd a (by decide)
 ·rw[hs]at a
  exact absurd a (by decide)
theorem s0.agr{E:g8}{R:Fz}{S:b5}{H:AHeap}(h:s0 E R S H)(k:Option Nat):Agr R S k H:=
 ⟨fun j cs e=>let ⟨w,pre,g⟩:=h.frozen j cs e;⟨w,pre,g⟩,fun j o _ e hc=>let ⟨_,⟨pre,g⟩,_⟩:=h.cells e hc;⟨_,pre,g⟩,fun j o rows _ e hm=>
  let ⟨_,es,cl,a,g,_⟩:=h.mapAt e hm;⟨es,cl,a,g⟩⟩
end
section
section
variable{P:Program}{E:g8}{R:Fz}{S:b5}{H0:AHeap}
theorem b1c{v:AV}:Rp E R (W9 v) v:=by
 cases v<;>simp only[W9,Rp]
theorem b2M:∀l:List AV,s7 E R (l.map W9) l
 | []=>A7
 |v::l=>q9 b1c (b2M l)
theorem a8I{v:AV}:Rp E R (c1A v) v:=by
 unfold c1A
 split
 ·rename_i cs
  split
  ·rename_i h
   simp only[Rp]
   exact⟨cs,rfl,b2M cs,h⟩
  ·simp only[Rp]
 ·exact W8
 ·exact b1c
theorem j8{T:List D}{avs:List AV}(h:s7 E R T avs)(x:Operand):Rp E R (q7 T x) (i4 avs x):=by
 cases x with
 |tmp t=>exact a7C h t
 |const v=>exact a8I
 |global g=>simp only[q7,Rp]
 |func f=>
  simp only[q7,i4,Rp]
  exact⟨[],[],rfl,A7,A7⟩
theorem a3y{T:List D}{avs:List AV}(h:s7 E R T avs):∀l:List Operand,s7 E R (l.map (q7 T)) (l.map (i4 avs))
 | []=>A7
 |x::l=>q9 (j8 h x) (a3y h l)
theorem a7o{d:D}{v:AV}(h:Rp E R d v){ds:List D}(hc:s5 d=some ds):s7 E R ds v.cells∧v.cells.all m9=true:=by
 cases d<;>simp only[s5,Option.some.injEq]at hc<;>try (cases hc;done)
 case agg cs=>
  subst hc
  simp only[Rp]at h
  obtain⟨vs,rfl,h1,h2⟩:=h
  exact⟨h1,h2⟩
 all_goals
  subst hc
  have hR:=h
  simp only[Rp]at h
  first
   |(subst h;exact⟨q9 hR A7,rfl⟩)
   |(rcases h with ⟨_,rfl⟩|⟨o,j,cap,ex,z,rfl,_⟩<;>exact⟨q9 hR A7,rfl⟩)
   |(obtain⟨o,j,cap,ex,z,all,rfl,_⟩:=h;exact⟨q9 hR A7,rfl⟩)
   |(obtain⟨o,j,all,rfl,_⟩:=h;exact⟨q9 hR A7,rfl⟩)
   |(obtain⟨a',b',rfl,_⟩:=h;exact⟨q9 hR A7,rfl⟩)
   |(obtain⟨v',rfl,_⟩:=h;exact⟨q9 hR A7,rfl⟩)
   |(obtain⟨_,rfl⟩:=(h:_∧_);exact⟨q9 hR A7,rfl⟩)
   |(obtain⟨_,j,cap,ex,all,rfl,_⟩:=(h:_∧_);exact⟨q9 hR A7,rfl⟩)
theorem b3z{o:Id}{all:List AV}(h:rdE E R o=some all){k:Option Nat}{H:AHeap}(hA:Agr R S k H):cellsOf E H o=some all:=by
 cases o with
 |old b=>exact h
 |new j=>
  obtain⟨w,p,g⟩:=hA.fz j all h
  simp only[cellsOf,g]
theorem W5{l:List AV}(h:l.all m9=true)(n:Nat):(l.drop n).all m9=true:=
 List.all_eq_true.2 fun x hx=>List.all_eq_true.1 h x (List.mem_of_mem_drop hx)
theorem G8{l:List AV}(h:l.all m9=true)(n:Nat):(l.take n).all m9=true:=
 List.all_eq_true.2 fun x hx=>List.all_eq_true.1 h x (List.mem_of_mem_take hx)
theorem c1B(hC:s0 E R S H0){a:D}{v:AV}(h:Rp E R a v){row:List D}{i:Nat}(hr:b3J S a=some (row,i)):
  ∃o j all,v= .ptr o (j+i)∧s7 E R row ((all.drop j).take row.length)∧((all.drop j).take row.length).all m9=true∧∀H,Agr R S (b2i a) H→cellsOf E H o=some all:=by
 cases a<;>simp only[b3J]at hr<;>try (cases hr;done)
 case ptr k j=>
  simp only[Rp]at h
  subst h
  cases hk:S k with
  |none=>rw[hk]at hr;cases hr
  |some o=>
   simp only[hk]at hr
   split at hr
   ·rename_i cs hcs
    obtain⟨h1,⟨pre,h2⟩,h3,h4,h5⟩:=hC.cells hk (.inr ⟨_,hcs⟩)
    cases hr
    rw[hcs,List.flatten_singleton]at h5
    have e:o.acs.take row.length=o.acs:=List.take_of_length_le (by rw[h5.length];exact Nat.le_refl _)
    refine⟨.new k,0,o.acs,by rw[Nat.zero_add], ?_, ?_,fun H hA=> ?_⟩
    ·rw[List.drop_zero,e];exact h5
    ·rw[List.drop_zero,e];exact h3
    ·obtain⟨w,p,g⟩:=hA.st k o rfl hk (.inr ⟨_,hcs⟩)
     simp only[cellsOf,g]
   ·cases hr
 case rel k r j sz=>
  simp only[Rp]at h
  obtain⟨hmz,rfl⟩:=h
  cases hk:S k with
  |none=>rw[hk]at hr;cases hr
  |some o=>
   simp only[hk]at hr
   split at hr
   ·rename_i hsz
    obtain⟨h1,⟨pre,h2⟩,h3,h4,h5⟩:=hC.cells hk (.inl (by rw[hsz];exact hmz))
    split at hr
    ·rename_i row' hrow
     cases hr
     have hl:row.length=sz:=by rw[h4 row (List.mem_of_getElem? hrow),hsz]
     refine⟨.new k,r*sz,o.acs,rfl, ?_,G8 (W5 h3 _) _,fun H hA=> ?_⟩
     ·have:=(h5.drop (r*sz)).take row.length
      rw[←hsz]at this hl ⊢
      rw[hl,a8j h4 hrow]at this
      rw[hl]
      exact this
     ·obtain⟨w,p,g⟩:=hA.st k o rfl hk (.inl (by rw[hsz];exact hmz))
      simp only[cellsOf,g]
    ·cases hr
   ·cases hr
 case elt row' j=>
  cases hr
  simp only[Rp]at h
  obtain⟨o,j',all,rfl,e2,e3,e4⟩:=h
  exact⟨o,j',all,rfl,e3,e4,fun H hA=>b3z e2 hA⟩
theorem a5Q{α:Type}{all:List α}{j L i n:Nat}(h:i+n≤L):(all.drop (j+i)).take n=(((all.drop j).take L).drop i).take n:=by
 rw[List.drop_take,List.take_take,List.drop_drop,Nat.min_eq_left (by omega)]
theorem c4q(hC:s0 E R S H0){t:TypeId}{a:D}{v:AV}(h:Rp E R a v){d:D}(hd:c4y P S t a=some d):
  ∃x,Rp E R d x∧∀H,Agr R S (b2i a) H→c4f P E H t v=some x:=by
 unfold c4y at hd
 cases hg:a6j P t with
 |none=>rw[hg]at hd;cases hd
 |some b=>
  rw[hg]at hd
  cases b with
  |true=>
   cases hs:A4 P t with
   |none=>rw[hs]at hd;cases hd
   |some n=>
    simp only[hs,l9]at hd
    split at hd
    ·rename_i row i hrow
     split at hd
     ·rename_i hn
      cases hd
      obtain⟨o,j,all,rfl,h1,h2,h3⟩:=c1B hC h hrow
      have hl:=h1.length
      rw[List.length_take,List.length_drop]at hl
      refine⟨.agg ((all.drop (j+i)).take n), ?_,fun H hA=> ?_⟩
      ·rw[a5Q hn.2]
       simp only[Rp]
       exact⟨_,rfl,(h1.drop i).take n,G8 (W5 h2 i) n⟩
      ·show H4 P E H t o (j+i)=_
       simp only[H4,hg,hs,Option.pure_def,Option.bind_eq_bind,Option.bind_some,if_true,B5,h3 H hA]
       rw[if_pos (by omega)]
       rfl
     ·cases hd
    ·cases hd
  |false=>
   simp only[d9]at hd
   split at hd
   ·rename_i row i hrow
    obtain⟨o,j,all,rfl,h1,h2,h3⟩:=c1B hC h hrow
    obtain⟨x,e1,e2⟩:=a2N h1 hd
    refine⟨x,e2,fun H hA=> ?_⟩
    show H4 P E H t o (j+i)=_
    simp only[H4,hg,Option.pure_def,Option.bind_eq_bind,Option.bind_some,Bool.false_eq_true,if_false,a3c,h3 H hA]
    rw[List.getElem?_take]at e1
    split at e1
    ·rw[List.getElem?_drop]at e1;exact e1
    ·cases e1
   ·cases hd
theorem c7S{c a b:D}{vc va vb:AV}(hc:Rp E R c vc)(ha:Rp E R a va)(hb:Rp E R b vb){d:D}(h:y9 c a b=some d):∃x,Rp E R d x∧c5i vc va vb=some x:=by
 cases c<;>simp only[y9]at h<;>try (cases h;done)
 case bool t=>
  cases h
  simp only[Rp]at hc
  subst hc
  refine⟨_, ?_,rfl⟩
  cases t
  ·exact hb
  ·exact ha
theorem c9t{c:D}{v:AV}(hc:Rp E R c v){d:D}(h:W6 c=some d):Rp E R d v∧c5Z v=some v:=by
 cases c<;>simp only[W6]at h<;>try (cases h;done)
 case fn f a b=>
  have hR:=hc
  simp only[Rp]at hc
  obtain⟨a',b',rfl,_⟩:=hc
  cases f<;>simp at h<;>(subst h;exact⟨hR,rfl⟩)
 all_goals
  cases h
  have hR:=hc
  simp only[Rp]at hc
  first
   |(subst hc;exact⟨hR,rfl⟩)
   |(rcases hc with ⟨_,rfl⟩|⟨o,j,cap,ex,z,rfl,_⟩<;>exact⟨hR,rfl⟩)
   |(obtain⟨o,j,cap,ex,z,all,rfl,_⟩:=hc;exact⟨hR,rfl⟩)
   |(obtain⟨o,j,all,rfl,_⟩:=hc;exact⟨hR,rfl⟩)
   |(obtain⟨v',rfl,_⟩:=hc;exact⟨hR,rfl⟩)
   |(obtain⟨_,rfl⟩:=(hc:_∧_);exact⟨hR,rfl⟩)
   |(obtain⟨_,j,cap,ex,all,rfl,_⟩:=(hc:_∧_);exact⟨hR,rfl⟩)
theorem c3k{c:D}{v:AV}(hc:Rp E R c v){ix:Nat}{d:D}(h:o5 c ix=some d):∃x,Rp E R d x∧b1p v ix=some x:=by
 cases c<;>simp only[o5]at h<;>try (cases h;done)
 case tup vs=>
  simp only[Rp]at hc
  obtain⟨ws,rfl,h1⟩:=hc
  obtain⟨x,e1,e2⟩:=a2N h1 h
  exact⟨x,e2,e1⟩
theorem c5u{op:BinOp}{x y:List UInt8}{d:D}(h:(a4t op x y).map W9=some d):∃v,Rp E R d v∧a4t op x y=some v:=by
 cases hs:a4t op x y with
 |none=>rw[hs]at h;cases h
 |some v=>rw[hs]at h;cases h;exact⟨v,b1c,rfl⟩
theorem a8D{op:BinOp}{r:Option Bool}{d:D}(h:b7O op r=some d):∃b,r=some b∧((op= .eql∧d= .bool b)∨(op= .neq∧d= .bool !b)):=by
 cases op<;>simp only[b7O]at h<;>try (cases h;done)
 all_goals
  cases r with
  |none=>cases h
  |some b=>cases h;exact⟨b,rfl,by simp⟩
theorem a4f{op:BinOp}{t:TypeId}{x y:Operand}{a b:AV}{r:Bool}{d:D}(hd:(op= .eql∧d= .bool r)∨(op= .neq∧d= .bool !r))(hg:a0j P op t x y a b=true)
  (hi:∀k n k' m,¬(a= .int k n∧b= .int k' m)) (hs:∀s u,¬(a= .str s∧b= .str u)) (he:eqA P Op.maxDepth t a b=some r):∃v,Rp E R d v∧c4c P op t x y a b=some v:=by
 have hb:∀op,(op=BinOp.eql∨op= .neq)→a9Y P op t a b=match op with
   | .eql=>(eqA P Op.maxDepth t a b).map .bool
   | .neq=>(eqA P Op.maxDepth t a b).map fun r=> .bool !r
   |_=>none:=by
  intro op ho
  unfold a9Y
  split
  ·exact(hi _ _ _ _ ⟨rfl,rfl⟩).elim
  ·exact(hs _ _ ⟨rfl,rfl⟩).elim
  ·rfl
 unfold c4c
 rw[if_pos hg]
 rcases hd with ⟨rfl,rfl⟩|⟨rfl,rfl⟩
 ·refine⟨.bool r,by simp only[Rp], ?_⟩
  rw[hb _ (.inl rfl),he];rfl
 ·refine⟨.bool !r,by simp only[Rp], ?_⟩
  rw[hb _ (.inr rfl),he];rfl
mutual
theorem c0E:∀ {d:D} {v x:AV},Rp E R d v→c6j d=some x→v=x
 | .any,v,x,_,e=>by cases e
 | .bool b,v,x,h,e=>by simp only[Rp]at h;cases e;exact h
 | .int k n,v,x,h,e=>by simp only[Rp]at h;cases e;exact h
 | .str s,v,x,h,e=>by simp only[Rp]at h;cases e;exact h
 | .nilPtr,v,x,h,e=>by simp only[Rp]at h;cases e;exact h
 | .nilSlc,v,x,h,e=>by simp only[Rp]at h;cases e;exact h
 | .nilMap,v,x,h,e=>by simp only[Rp]at h;cases e;exact h
 | .nilFn,v,x,h,e=>by simp only[Rp]at h;cases e;exact h
 | .nilIfc,v,x,h,e=>by simp only[Rp]at h;cases e;exact h
 | .mp k,v,x,h,e=>by cases e
 | .ptr k i,v,x,h,e=>by simp only[Rp]at h;cases e;exact h
 | .rel ..,v,x,h,e=>by cases e
 | .elt ..,v,x,h,e=>by cases e
 | .lst ..,v,x,h,e=>by cases e
 | .ext ..,v,x,h,e=>by cases e
 | .raw ..,v,x,h,e=>by cases e
 | .tip ..,v,x,h,e=>by cases e
 | .fn ..,v,x,h,e=>by cases e
 | .ifc ..,v,x,h,e=>by cases e
 | .tup ..,v,x,h,e=>by cases e
 | .agg cs,v,x,h,e=>by
  simp only[Rp]at h
  obtain⟨vs,rfl,h1,h2⟩:=h
  simp only[c6j]at e
  split at e
  ·rename_i l hl
   cases e
   rw[c1Y h1 hl]
  ·cases e
theorem c1Y:∀ {ds:List D} {vs xs:List AV},s7 E R ds vs→b8R ds=some xs→vs=xs
 | [],vs,xs,h,e=>by simp only[s7]at h;cases e;exact h
 |d::ds,vs,xs,h,e=>by
  simp only[s7]at h
  obtain⟨v,ws,rfl,h1,h2⟩:=h
  simp only[b8R]at e
  split at e
  ·rename_i a b ha hb
   cases e
   rw[c0E h1 ha,c1Y h2 hb]
  ·cases e
end
theorem c9a{op:BinOp}{t:TypeId}{x y:Operand}{a b:D}{va vb:AV}(ha:Rp E R a va)(hb:Rp E R b vb){d:D}(h:c9x P op t x y a b=some d):∃v,Rp E R d v∧c4c P op t x y va vb=some v:=by
 unfold c9x at h
 split at h
 ·
  cases a<;>simp only[d5]at h<;>try (cases h;done)
  rename_i k n
  cases b<;>simp only at h<;>try (cases h;done)
  rename_i k' m
  simp only[Rp]at ha hb
  subst ha hb
  have hg:a0j P op t x y (.int k n) (.int k' m)=true:=by cases op<;>rfl
  unfold c4c
  rw[if_pos hg]
  simp only[a9Y]
  cases op
  case shl=>
   simp only at h ⊢
   split at h
   ·cases h
   ·rename_i h0;cases h;rw[if_neg h0];exact⟨_,by simp only[Rp],rfl⟩
  case shr=>
   simp only at h ⊢
   split at h
   ·cases h
   ·rename_i h0;cases h;rw[if_neg h0];exact⟨_,by simp only[Rp],rfl⟩
  all_goals
   simp only at h ⊢
   split at h
   ·rename_i hk
    rw[if_pos hk]
    cases hr:L6 _ k n m with
    |none=>rw[hr]at h;cases h
    |some v=>rw[hr]at h;cases h;exact⟨v,b1c,rfl⟩
   ·cases h
 ·
  cases a<;>simp only[c3n]at h<;>try (cases h;done)
  rename_i s
  cases b<;>simp only at h<;>try (cases h;done)
  rename_i u
  simp only[Rp]at ha hb
  subst ha hb
  have hg:a0j P op t x y (.str s) (.str u)=true:=by cases op<;>rfl
  unfold c4c
  rw[if_pos hg]
  exact c5u h
 ·
  rename_i hu
  obtain⟨r,hr,hd⟩:=a8D h
  cases a<;>simp only[c9z]at hr<;>try (cases hr;done)
  cases b<;>simp only at hr<;>try (cases hr;done)
  simp only[Rp]at ha hb
  subst ha hb
  cases hr
  exact a4f hd (by rcases hd with ⟨rfl,_⟩|⟨rfl,_⟩<;>rfl) (by simp) (by simp) (by simp only[Op.maxDepth,eqA,hu])
 ·
  rename_i e hu
  obtain⟨r,hr,hd⟩:=a8D h
  unfold c9e at hr
  split at hr<;>try (cases hr;done)
  all_goals
   cases hr
   simp only[Rp]at ha hb
   try (rcases ha with ⟨e0,_⟩|⟨o,j,cap,ex,z,rfl,_⟩; ·cases e0)
   try (rcases hb with ⟨e0,_⟩|⟨o,j,cap,ex,z,rfl,_⟩; ·cases e0)
   try (obtain⟨o,j,cap,ex,z,all,rfl,_⟩:=ha)
   try (obtain⟨o,j,cap,ex,z,all,rfl,_⟩:=hb)
   try (obtain⟨_,rfl⟩:=(ha:_∧_))
   try (obtain⟨_,rfl⟩:=(hb:_∧_))
   try subst ha
   try subst hb
   exact a4f hd (by rcases hd with ⟨rfl,_⟩|⟨rfl,_⟩<;>rfl) (by simp) (by simp) (by simp only[Op.maxDepth,eqA,hu])
 ·
  rename_i e hu
  obtain⟨r,hr,hd⟩:=a8D h
  cases a<;>simp only[d0t]at hr<;>try (cases hr;done)
  all_goals
   cases b<;>simp only at hr<;>try (cases hr;done)
   all_goals
    cases hr
    simp only[Rp]at ha hb
    try (obtain⟨o,j,all,rfl,_⟩:=ha)
    try (obtain⟨o,j,all,rfl,_⟩:=hb)
    try (obtain⟨_,rfl⟩:=(ha:_∧_))
    try (obtain⟨_,rfl⟩:=(hb:_∧_))
    try subst ha
    try subst hb
    exact a4f hd (by rcases hd with ⟨rfl,_⟩|⟨rfl,_⟩<;>rfl) (by simp) (by simp) (by simp only[Op.maxDepth,eqA,hu])
 ·
  rename_i hu
  obtain⟨r,hr,hd⟩:=a8D h
  cases a<;>simp only[d0F]at hr<;>try (cases hr;done)
  all_goals
   cases b<;>simp only at hr<;>try (cases hr;done)
   all_goals
    cases hr
    simp only[Rp]at ha hb
    try (obtain⟨a',b',rfl,_⟩:=ha)
    try (obtain⟨a',b',rfl,_⟩:=hb)
    try subst ha
    try subst hb
    exact a4f hd (by rcases hd with ⟨rfl,_⟩|⟨rfl,_⟩<;>rfl) (by simp) (by simp) (by simp only[Op.maxDepth,eqA,hu])
 ·
  rename_i e hu
  obtain⟨r,hr,hd⟩:=a8D h
  cases a<;>simp only[d0f]at hr<;>try (cases hr;done)
  ·cases b<;>simp only at hr<;>try (cases hr;done)
   ·split at hr
    ·rename_i hc
     cases hr
     simp only[Rp]at ha hb
     subst ha hb
     exact a4f hd (by rcases hd with ⟨rfl,_⟩|⟨rfl,_⟩<;>exact hc) (by simp) (by simp) (by simp only[Op.maxDepth,eqA,hu])
    ·cases hr
   ·cases hr
    simp only[Rp]at ha hb
    obtain⟨v',rfl,_⟩:=hb
    subst ha
    exact a4f hd (by rcases hd with ⟨rfl,_⟩|⟨rfl,_⟩<;>rfl) (by simp) (by simp) (by simp only[Op.maxDepth,eqA,hu])
  ·cases b<;>simp only at hr<;>try (cases hr;done)
   cases hr
   simp only[Rp]at ha hb
   obtain⟨v',rfl,_⟩:=ha
   subst hb
   exact a4f hd (by rcases hd with ⟨rfl,_⟩|⟨rfl,_⟩<;>rfl) (by simp) (by simp) (by simp only[Op.maxDepth,eqA,hu])
 ·
  rename_i e hu
  obtain⟨r,hr,hd⟩:=a8D h
  cases a<;>simp only[d0y]at hr<;>try (cases hr;done)
  cases b<;>simp only at hr<;>try (cases hr;done)
  rename_i xs ys
  split at hr
  ·rename_i xa ya hx hy
   split at hr
   ·cases hr
   ·rename_i hg
    have e1:=c0E ha (x:= .agg xa) (by simp only[c6j,hx])
    have e2:=c0E hb (x:= .agg ya) (by simp only[c6j,hy])
    subst e1 e2
    have hg':P.eqGuardType P.depth t=false:=by simpa using hg
    exact a4f hd (by rcases hd with ⟨rfl,_⟩|⟨rfl,_⟩<;>simp only[a0j,hg',Bool.not_false]) (by simp) (by simp) hr
  ·cases hr
 ·cases h
theorem d0r{op:UnOp}{a:D}{v:AV}(ha:Rp E R a v){d:D}(h:unD op a=some d):∃x,Rp E R d x∧unA op v=some x:=by
 cases op<;>cases a<;>simp only[unD]at h<;>try (cases h;done)
 all_goals
  cases h
  simp only[Rp]at ha
  subst ha
  exact⟨_,by simp only[Rp],rfl⟩
end
end
end Go.Am
end
