/-
  BlocksJoinSaid: part Oan of its proof.
-/
import Derived.Test.YtdkidgkiplcggaaOam
set_option linter.unusedVariables false
set_option linter.unusedSimpArgs false
set_option maxRecDepth 100000
section
namespace Go.Am
section
def O5:AV→D
 | .bool b=> .bool b
 | .int k n=> .int k n
 | .str s=> .str s
 | .nilPtr=> .nilPtr
 | .nilSlc=> .nilSlc
 | .nilMap=> .nilMap
 | .nilFn=> .nilFn
 | .nilIfc=> .nilIfc
 |_=> .any
def b6W:AV→D
 | .agg cs=>if cs.all i9 then .agg (cs.map O5) else .any
 | .tup []=> .tup []
 |v=>O5 v
def r5:D→Option (List D)
 | .any| .tup _=>none
 | .agg cs=>some cs
 |d=>some [d]
def n8:List D→Nat→List D→List D
 |cs,_,[]=>cs
 |cs,i,v::vs=>n8 (cs.set i v) (i+1) vs
def j9(T:List D):Operand→D
 | .tmp t=>T.getD t b6
 | .const v=>b6W (b7l v)
 | .global _=> .any
 | .func f=> .fn (.func f) [] []
def a9T(S:b5):D→Option (List D×Nat)
 | .ptr k i=>match S k with
  |some o=>match o.rows with
   | [cs]=>some (cs,i)
   |_=>none
  |none=>none
 | .rel k r i sz=>match S k with
  |some o=>if o.sz=sz then match o.rows[r]? with
   |some row=>some (row,i)
   |none=>none
   else none
  |none=>none
 | .elt row i=>some (row,i)
 |_=>none
def s0(S:b5)(n:Nat)(a:D):Option D:=match a9T S a with
 |some (row,i)=>if 0<n∧i+n≤row.length then some (.agg ((row.drop i).take n)) else none
 |none=>none
def c9(S:b5)(a:D):Option D:=match a9T S a with
 |some (row,i)=>row[i]?
 |none=>none
def a7H:D→Option Nat
 | .ptr k _| .rel k _ _ _| .raw k _ _ _ _ _=>some k
 | .mp k=>some k
 |_=>none
def a8m:D→Option Nat
 | .mp k=>some k
 |_=>none
def a4i(o:s7):Option (List (List D)):=if o.sz=E1 then(match o.rows with
 | []::[]::rows=>some rows
 |_=>none) else none
def a8o(P:Program)(t:TypeId):Option Nat:=match P.underlying t with
 |some (.int _)=>some 0
 |some .string=>some 1
 |some .bool=>some 2
 |_=>none
def a7E(kk:Nat)(d:D):Bool:=match d with
 | .int _ _=>kk==0
 | .str _=>kk==1
 | .bool _=>kk==2
 |_=>false
def b5i:D→D→Option Bool
 | .int k a, .int k' b=>if k=k' then some (a==b) else none
 | .str a, .str b=>some (a==b)
 | .bool a, .bool b=>some (a==b)
 |_,_=>none
def a6t(k:D):List (List D)→Nat→Option (Option (Nat×D×D))
 | [],_=>some none
 | [k',v,n]::es,i=>match b5i k k' with
  |some true=>some (some (i,v,n))
  |some false=>a6t k es (i+1)
  |none=>none
 |_::_,_=>none
def b8l(S:b5):D→Option (List (List D))
 | .nilMap=>some []
 | .mp k=>match S k with
  |some o=>a4i o
  |none=>none
 |_=>none
def c6b(z:D)(ok:Bool):Option (Option (Nat×D×D))→Option D
 |some (some (_,v,_))=>some (if ok then .tup [v, .bool true]else v)
 |some none=>some (if ok then .tup [z, .bool false]else z)
 |none=>none
def a4D(S:b5)(kk:Nat)(z:D)(ok:Bool)(x ix:D):Option D:=if a7E kk ix then(match b8l S x with
 |some es=>c6b z ok (a6t ix es 0)
 |none=>none) else none
def b5o(P:Program)(S:b5)(t:TypeId)(x ix:D)(ok:Bool):Option D:=match P.underlying t with
 |some (.map kt e)=>match a8o P kt,D2 P e with
  |some kk,some z=>a4D S kk (b6W z) ok x ix
  |_,_=>none
 |_=>none
def c5h(S:b5)(x:D):Option D:=match b8l S x with
 |some es=>some (.int .i64 es.length)
 |none=>none
def a8K(P:Program)(t:TypeId):Bool:=match P.underlying t with
 |some (.map _ _)=>true
 |_=>false
def F5(c a b:D):Option D:=match c with
 | .bool t=>some (if t then a else b)
 |_=>none
def a2M:D→Option D
 | .nilPtr| .nilIfc| .nilFn| .any| .fn (.method _) _ _=>none
 |y=>some y
def m6(x:D)(ix:Nat):Option D:=match x with
 | .tup vs=>vs[ix]?
 |_=>none
def d4(op:BinOp)(a b:D):Option D:=match a,b with
 | .int k x, .int k' y=>match op with
  | .shl=>if y<0 then none else some (.int k (k.wrap (x*2^(min y.toNat k.bits))))
  | .shr=>if y<0 then none else some (.int k (x.fdiv (2^(min y.toNat k.bits))))
  |_=>if k=k' then(G7 op k x y).map O5 else none
 |_,_=>none
def c0y(op:BinOp)(a b:D):Option D:=match a,b with
 | .str x, .str y=>(a2j op x y).map O5
 |_,_=>none
def b3l(op:BinOp)(r:Option Bool):Option D:=match op with
 | .eql=>r.map .bool
 | .neq=>r.map fun b=> .bool !b
 |_=>none
def c4w(a b:D):Option Bool:=match a,b with
 | .bool x, .bool y=>some (x==y)
 |_,_=>none
def c3P(a b:D):Option Bool:=match a,b with
 | .nilSlc, .nilSlc=>some true
 | .nilSlc, .lst (_::_) _| .nilSlc, .ext _ _ _| .nilSlc, .raw _ _ _ _ _ _| .lst (_::_) _, .nilSlc| .ext _ _ _, .nilSlc| .raw _ _ _ _ _ _, .nilSlc=>some false
 |_,_=>none
def c5t(a b:D):Option Bool:=match a,b with
 | .nilPtr, .nilPtr=>some true
 | .nilPtr, .ptr _ _| .nilPtr, .rel _ _ _ _| .nilPtr, .elt _ _| .ptr _ _, .nilPtr| .rel _ _ _ _, .nilPtr| .elt _ _, .nilPtr=>some false
 |_,_=>none
def c5k(a b:D):Option Bool:=match a,b with
 | .nilFn, .nilFn=>some true
 | .nilFn, .fn _ _ _| .fn _ _ _, .nilFn=>some false
 |_,_=>none
def c5j(c:Bool)(a b:D):Option Bool:=match a,b with
 | .nilIfc, .nilIfc=>if c then some true else none
 | .nilIfc, .ifc _ _| .ifc _ _, .nilIfc=>some false
 |_,_=>none
mutual
def c1C:D→Option AV
 | .bool b=>some (.bool b)
 | .int k n=>some (.int k n)
 | .str s=>some (.str s)
 | .nilPtr=>some .nilPtr
 | .nilSlc=>some .nilSlc
 | .nilMap=>some .nilMap
 | .nilFn=>some .nilFn
 | .nilIfc=>some .nilIfc
 | .ptr k i=>some (.ptr (.new k) i)
 | .agg cs=>match b3M cs with
  |some l=>some (.agg l)
  |none=>none
 |_=>none
def b3M:List D→Option (List AV)
 | []=>some []
 |d::ds=>match c1C d,b3M ds with
  |some v,some vs=>some (v::vs)
  |_,_=>none
end
def c5q(P:Program)(t:TypeId)(a b:D):Option Bool:=match a,b with
 | .agg x, .agg y=>match b3M x,b3M y with
  |some x,some y=>if P.eqGuardType P.depth t then none else eqA P Op.maxDepth t (.agg x) (.agg y)
  |_,_=>none
 |_,_=>none
def c3R(P:Program)(op:BinOp)(t:TypeId)(x y:Operand)(a b:D):Option D:=match P.underlying t with
 |some (.int _)=>d4 op a b
 |some .string=>c0y op a b
 |some .bool=>b3l op (c4w a b)
 |some (.slice _)=>b3l op (c3P a b)
 |some (.pointer _)=>b3l op (c5t a b)
 |some (.func ..)=>b3l op (c5k a b)
 |some (.interface _)=>b3l op (c5j (Region.isConst x||Region.isConst y) a b)
 |some (.struct _)=>b3l op (c5q P t a b)
 |_=>none
def unD(op:UnOp)(x:D):Option D:=match op,x with
 | .neg, .int k n=>some (.int k (k.wrap (0 - n)))
 | .xor, .int k n=>some (.int k (k.wrap (BitVec.ofInt k.bits (if k.signed then -1 else k.max) ^^^ BitVec.ofInt k.bits n).toNat))
 | .not, .bool b=>some (.bool !b)
 |_,_=>none
def E7(S:b5)(sz:Nat):D→Option (List (List D))
 | .nilSlc=>some []
 | .lst rows z=>if z=sz then some rows else none
 | .ext rows _ z=>if z=sz then some rows else none
 | .raw k i len _ _ z=>match S k with
  |some o=>if z=sz∧o.sz=sz∧i+len≤o.rows.length then some ((o.rows.drop i).take len) else none
  |none=>none
 |_=>none
def b3Q:List D→Option UInt8
 | [.int .u8 n]=>some (UInt8.ofNat n.toNat)
 |_=>none
def U4(k:IntKind):D→Option D
 | .int _ n=>some (.int k (k.wrap n))
 |_=>none
def b5a:D→Option D
 | .str s=>some (.str s)
 |_=>none
def c1W(S:b5)(x:D):Option D:=match E7 S 1 x with
 |some rows=>(rows.mapM b3Q).map .str
 |none=>none
def c1S(P:Program)(S:b5)(src dst:TypeId)(x:D):Option D:=match P.underlying src,P.underlying dst with
 |some (.int _),some (.int k)=>U4 k x
 |some .string,some .string=>b5a x
 |some (.slice e),some .string=>match P.underlying e with
  |some (.int .u8)=>c1W S x
  |_=>none
 |_,_=>none
def A7(x:D)(y:Nat):Option Nat:=match x with
 | .int _ i=>if 0≤i∧i≤y then some i.toNat else none
 |_=>none
def b4H(cap:Nat):Option D→Option Nat
 |some v=>A7 v cap
 |none=>some cap
def a5g(len m:Nat):Option D→Option D→Option Nat
 |some v,_=>A7 v m
 |none,none=>some len
 |none,some _=>none
def b0N(h:Nat):Option D→Option Nat
 |some v=>A7 v h
 |none=>some 0
def E5(len cap:Nat)(low high max:Option D):Option (Nat×Nat×Nat):=
 (b4H cap max).bind fun m=>(a5g len m high max).bind fun h=>(b0N h low).bind fun l=>some (l,h,m)
def b7B(x:D)(lo hi:Option D):Option D:=match x with
 | .str s=>(E5 s.length s.length lo hi none).map fun r=> .str ((s.drop r.1).take (r.2.1 - r.1))
 |_=>none
def b5q(rows more:List (List D))(sz:Nat):D:=match more with
 | []=> .lst rows sz
 |m=> .ext rows m sz
def V3(sz:Nat)(x:D)(lo hi mx:Option D):Option D:=match x with
 | .nilSlc=>(E5 0 0 lo hi mx).map fun _=> .nilSlc
 | .lst rows z=>if z=sz then(E5 rows.length rows.length lo hi mx).map fun r=>b5q ((rows.drop r.1).take (r.2.1 - r.1)) ((rows.drop r.2.1).take (r.2.2 - r.2.1)) sz else none
 | .ext rows more z=>if z=sz then(E5 rows.length (rows++more).length lo hi mx).map fun r=>b5q (((rows++more).drop r.1).take (r.2.1 - r.1)) (((rows++more).drop r.2.1).take (r.2.2 - r.2.1)) sz else none
 | .raw k i len cap ex z=>if z=sz then(E5 len cap lo hi mx).map fun r=> .raw k (i+r.1) (r.2.1 - r.1) (r.2.2 - r.1) (ex||mx.isSome) sz else none
 |_=>none
def b8D(P:Program)(t:TypeId)(x:D)(lo hi mx:Option D):Option D:=match P.underlying t with
 |some .string=>match mx with
  |none=>b7B x lo hi
  |some _=>none
 |some (.slice e)=>match s6 P e with
  |some sz=>V3 sz x lo hi mx
  |none=>none
 |_=>none
def t6(off:Nat):D→Option D
 | .ptr k i=>some (.ptr k (i+off))
 | .rel k r i sz=>some (.rel k r (i+off) sz)
 | .elt row i=>some (.elt row (i+off))
 |_=>none
def b3g(P:Program)(s:TypeId)(x:D)(field:Nat):Option D:=match a0S P s field with
 |some f=>match s6 P f.type with
  |some (_+1)=>t6 f.offset x
  |_=>none
 |none=>none
def b5t(off n:Nat):D→Option D
 | .agg cs=>some (.agg ((cs.drop off).take n))
 |_=>none
def b5E(off:Nat):D→Option D
 | .agg cs=>cs[off]?
 |_=>none
def b7m(P:Program)(t:TypeId)(off:Nat)(x:D):Option D:=match a3x P t with
 |some true=>match s6 P t with
  |some n=>b5t off n x
  |none=>none
 |some false=>b5E off x
 |none=>none
def b8B(P:Program)(s:TypeId)(x:D)(field:Nat):Option D:=match a0S P s field with
 |some f=>b7m P f.type f.offset x
 |none=>none
def m9(sz:Nat)(x ix:D):Option D:=match ix with
 | .int _ n=>match x with
  | .lst rows z=>if z=sz∧0≤n then match rows[n.toNat]? with
   |some row=>some (.elt row 0)
   |none=>none
   else none
  | .ext rows _ z=>if z=sz∧0≤n then match rows[n.toNat]? with
   |some row=>some (.elt row 0)
   |none=>none
   else none
  | .raw k i len _ _ z=>if z=sz∧0≤n∧n<len then some (.rel k (i+n.toNat) 0 sz) else none
  |_=>none
 |_=>none
def c1X(len sz:Nat)(x ix:D):Option D:=match ix with
 | .int _ n=>if 0≤n∧n<len then t6 (n.toNat*sz) x else none
 |_=>none
def b2E(P:Program)(t:TypeId)(x ix:D):Option D:=match P.underlying t with
 |some (.slice e)=>match s6 P e with
  |some sz=>m9 sz x ix
  |none=>none
 |some (.array len e)=>match s6 P e with
  |some sz=>c1X len sz x ix
  |none=>none
 |_=>none
def c1e(x ix:D):Option D:=match ix,x with
 | .int _ n, .str s=>if 0≤n then match s[n.toNat]? with
  |some b=>some (.int .u8 b.toNat)
  |none=>none
  else none
 |_,_=>none
def c1Q(len sz:Nat)(ag:Bool)(x ix:D):Option D:=match ix with
 | .int _ n=>if 0≤n∧n<len then(match ag with
  |true=>b5t (n.toNat*sz) sz x
  |false=>b5E (n.toNat*sz) x) else none
 |_=>none
def b8F(P:Program)(t:TypeId)(x ix:D):Option D:=match P.underlying t with
 |some .string=>c1e x ix
 |some (.array len e)=>match s6 P e,a3x P e with
  |some sz,some ag=>c1Q len sz ag x ix
  |_,_=>none
 |_=>none
def b8t:D→Option D
 | .str s=>some (.int .i64 s.length)
 |_=>none
def j8:D→Option D
 | .nilSlc=>some (.int .i64 0)
 | .lst rows _=>some (.int .i64 rows.length)
 | .ext rows _ _=>some (.int .i64 rows.length)
 | .raw _ _ len _ _ _=>some (.int .i64 len)
 |_=>none
def c4e(P:Program)(S:b5)(t:TypeId)(x:D):Option D:=match P.underlying t with
 |some .string=>b8t x
 |some (.map _ _)=>c5h S x
 |some (.slice _)=>j8 x
 |some (.array n _)=>some (.int .i64 n)
 |_=>none
def c3N:D→Option D
 | .nilSlc=>some (.int .i64 0)
 | .raw _ _ _ cap true _=>some (.int .i64 cap)
 |_=>none
def c4A(P:Program)(t:TypeId)(x:D):Option D:=match P.underlying t with
 |some (.slice _)=>c3N x
 |some (.array n _)=>some (.int .i64 n)
 |_=>none
def mmD(isMax:Bool)(x y:D):Option D:=match x,y with
 | .int k a, .int _ b=>some (.int k (if isMax then(if b>a then b else a) else(if b<a then b else a)))
 |_,_=>none
def a8i(isMax:Bool):List D→Option D
 | []=>none
 |x::rest=>rest.foldlM (mmD isMax) x
def b8x(P:Program)(t:TypeId)(x:D):Option D:=match P.underlying t with
 |some (.interface _)=>none
 |some _=>some (.ifc t x)
 |none=>none
def asD(t:TypeId)(z:D)(ok:Bool)(x:D):Option D:=match x with
 | .nilIfc=>if ok then some (.tup [z, .bool false]) else none
 | .ifc t' v=>if t'=t then some (if ok then .tup [v, .bool true]else v) else if ok then some (.tup [z, .bool false]) else none
 |_=>none
def b5C(P:Program)(x:D)(asserted:TypeId)(ok:Bool):Option D:=match P.underlying asserted with
 |some (.interface _)=>none
 |some _=>match D2 P asserted with
  |some z=>asD asserted (b6W z) ok x
  |none=>none
 |none=>none
def r8:List D→List (Nat×Nat×D)→Option (List D)
 |cs,[]=>some cs
 |cs,(off,size,v)::rest=>match r5 v with
  |some ds=>if ds.length=size∧off+size≤cs.length then r8 (n8 cs off ds) rest else none
  |none=>none
def a5L(place:Nat→Option (Nat×Nat)):List (Nat×D)→Option (List (Nat×Nat×D))
 | []=>some []
 |(i,v)::rest=>match place i with
  |some (off,size)=>match a5L place rest with
   |some l=>some ((off,size,v)::l)
   |none=>none
  |none=>none
def E2(r:Option (List D)):Option D:=match r with
 |some cs=>some (.agg cs)
 |none=>none
def b8i(P:Program)(t:TypeId)(parts:List (Nat×D)):Option D:=match D2 P t with
 |some (.agg z)=>if z.all i9 then match P.underlying t with
  |some (.struct fields)=>match fields.toList.mapM fun f=>(s6 P f.type).map fun s=>(f.offset,s) with
   |some places=>match a5L (places[·]?) parts with
    |some l=>E2 (r8 (z.map O5) l)
    |none=>none
   |none=>none
  |some (.array _ e)=>match s6 P e with
   |some size=>match a5L (fun i=>some (i*size,size)) parts with
    |some l=>E2 (r8 (z.map O5) l)
    |none=>none
   |none=>none
  |_=>none
  else none
 |_=>none
def b9I(P:Program)(S:b5)(t:TypeId)(a:D):Option D:=match a3x P t with
 |some true=>match s6 P t with
  |some n=>s0 S n a
  |none=>none
 |some false=>c9 S a
 |none=>none
def c4K(P:Program)(T:List D)(S:b5)(o:Oper):Option D:=
 match o.op with
 | .move x| .assign x=>some (j9 T x)
 | .pick c a b=>F5 (j9 T c) (j9 T a) (j9 T b)
 | .build t parts=>b8i P t (parts.toList.map fun p=>(p.1,j9 T p.2))
 | .load t a=>b9I P S t (j9 T a)
 | .nilCheck x=>a2M (j9 T x)
 | .binOp op t x y _=>c3R P op t x y (j9 T x) (j9 T y)
 | .unOp op _ x=>unD op (j9 T x)
 | .convert src dst x=>c1S P S src dst (j9 T x)
 | .makeInterface t x=>b8x P t (j9 T x)
 | .makeFunc fn first captured=>some (.fn fn (first.toList.map (j9 T)) (captured.toList.map (j9 T)))
 | .slice t x lo hi mx=>b8D P t (j9 T x) (lo.map (j9 T)) (hi.map (j9 T)) (mx.map (j9 T))
 | .fieldAddr s x f=>b3g P s (j9 T x) f
 | .field s x f=>b8B P s (j9 T x) f
 | .indexAddr t x ix=>b2E P t (j9 T x) (j9 T ix)
 | .index t x ix=>b8F P t (j9 T x) (j9 T ix)
 | .lookup t x ix ok=>b5o P S t (j9 T x) (j9 T ix) ok
 | .typeAssert x _ asserted ok=>b5C P (j9 T x) asserted ok
 | .extract t ix=>m6 (j9 T t) ix
 | .call c=>match c.callee with
  | .builtin b=>match b,c.args.toList.map (j9 T),c.argTypes.toList with
   | .len,[x],[t]=>c4e P S t x
   | .cap,[x],[t]=>c4A P t x
   | .min,l,_=>a8i false l
   | .max,l,_=>a8i true l
   |_,_,_=>none
  |_=>none
 |_=>none
def c3n(P:Program)(c:Call):Bool:=match c.callee with
 | .builtin .len=>match c.argTypes.toList with
  | [t]=>a8K P t
  |_=>false
 |_=>false
def b2L(T:List D)(c:Call):D:=match c.args.toList.map (j9 T) with
 | [x]=>x
 |_=> .any
def a5m(P:Program)(T:List D)(o:Oper):Option Nat:=match o.op with
 | .load _ a=>a7H (j9 T a)
 | .convert _ _ x=>a7H (j9 T x)
 | .lookup _ x _ _=>a8m (j9 T x)
 | .call c=>if c3n P c then a8m (b2L T c) else none
 |_=>none
structure Agr (R:Fz) (S:b5) (k:Option Nat) (H:AHeap):Prop where
 fz:∀j cs,R j=some cs→∃w p,H.get j=some (.cells cs w p)
 st:∀j o,k=some j→S j=some o→(o.sz<E1∨∃cs,o.rows=[cs])→∃w p,H.get j=some (.cells o.acs w p)
 mp:∀j o rows,k=some j→S j=some o→a4i o=some rows→∃es clock,o.acs=es.map b3r∧H.get j=some (.map es clock)
theorem b8y{o:s7}{rows:List (List D)}(h:a4i o=some rows):o.sz=E1∧o.rows=[]::[]::rows:=by
 unfold a4i at h
 split at h
 ·rename_i hs
  split at h
  ·rename_i r e;cases h;exact⟨hs,e⟩
  ·cases h
 ·cases h
theorem n9.mapAt{E:d6}{R:Fz}{S:b5}{H:AHeap}(h:n9 E R S H){k:Nat}{o:s7}{rows:List (List D)}(hk:S k=some o)(hm:a4i o=some rows):
  R k=none∧∃es clock,o.acs=es.map b3r∧H.get k=some (.map es clock)∧RpE E R rows es∧(es.map (·.2.2)).Nodup∧∀e∈es,e.2.2<clock:=by
 obtain⟨hs,hr⟩:=b8y hm
 rcases h.own k o hk with ⟨h1,⟨_,_,h2,_⟩|⟨es,cl,rws,_,b,a,g,r⟩⟩|⟨a,_⟩|⟨a,_⟩
 ·have:=h2 [] (by rw[hr];exact List.mem_cons_self)
  rw[hs]at this
  cases this
 ·rw[hr]at b
  cases b
  exact⟨h1,es,cl,a,g,r⟩
 ·rw[hs]at a
  exact absurd a (by decide)
 ·rw[hs]at a
  exact absurd a (by decide)
theorem n9.agr{E:d6}{R:Fz}{S:b5}{H:AHeap}(h:n9 E R S H)(k:Option Nat):Agr R S k H:=
 ⟨fun j cs e=>let ⟨w,pre,g⟩:=h.frozen j cs e;⟨w,pre,g⟩,fun j o _ e hc=>let ⟨_,⟨pre,g⟩,_⟩:=h.cells e hc;⟨_,pre,g⟩,fun j o rows _ e hm=>
  let ⟨_,es,cl,a,g,_⟩:=h.mapAt e hm;⟨es,cl,a,g⟩⟩
end
section
section
variable{P:Program}{E:d6}{R:Fz}{S:b5}{H0:AHeap}
theorem a8h{v:AV}:Rp E R (O5 v) v:=by
 cases v<;>simp only[O5,Rp]
theorem a8D:∀l:List AV,o4 E R (l.map O5) l
 | []=>u5
 |v::l=>j6 a8h (a8D l)
theorem a5H{v:AV}:Rp E R (b6W v) v:=by
 unfold b6W
 split
 ·rename_i cs
  split
  ·rename_i h
   simp only[Rp]
   exact⟨cs,rfl,a8D cs,h⟩
  ·simp only[Rp]
 ·exact O9
 ·exact a8h
theorem f0{T:List D}{avs:List AV}(h:o4 E R T avs)(x:Operand):Rp E R (j9 T x) (b9 avs x):=by
 cases x with
 |tmp t=>exact a4M h t
 |const v=>exact a5H
 |global g=>simp only[j9,Rp]
 |func f=>
  simp only[j9,b9,Rp]
  exact⟨[],[],rfl,u5,u5⟩
theorem a1A{T:List D}{avs:List AV}(h:o4 E R T avs):∀l:List Operand,o4 E R (l.map (j9 T)) (l.map (b9 avs))
 | []=>u5
 |x::l=>j6 (f0 h x) (a1A h l)
theorem a4Z{d:D}{v:AV}(h:Rp E R d v){ds:List D}(hc:r5 d=some ds):o4 E R ds v.cells∧v.cells.all i9=true:=by
 cases d<;>simp only[r5,Option.some.injEq]at hc<;>try (cases hc;done)
 case agg cs=>
  subst hc
  simp only[Rp]at h
  obtain⟨vs,rfl,h1,h2⟩:=h
  exact⟨h1,h2⟩
 all_goals
  subst hc
  have hR:=h
  simp only[Rp]at h
  first
   |(subst h;exact⟨j6 hR u5,rfl⟩)
   |(rcases h with ⟨_,rfl⟩|⟨o,j,cap,ex,z,rfl,_⟩<;>exact⟨j6 hR u5,rfl⟩)
   |(obtain⟨o,j,cap,ex,z,all,rfl,_⟩:=h;exact⟨j6 hR u5,rfl⟩)
   |(obtain⟨o,j,all,rfl,_⟩:=h;exact⟨j6 hR u5,rfl⟩)
   |(obtain⟨a',b',rfl,_⟩:=h;exact⟨j6 hR u5,rfl⟩)
   |(obtain⟨v',rfl,_⟩:=h;exact⟨j6 hR u5,rfl⟩)
   |(obtain⟨_,rfl⟩:=(h:_∧_);exact⟨j6 hR u5,rfl⟩)
   |(obtain⟨_,j,cap,ex,all,rfl,_⟩:=(h:_∧_);exact⟨j6 hR u5,rfl⟩)
theorem a9d{o:Id}{all:List AV}(h:rdE E R o=some all){k:Option Nat}{H:AHeap}(hA:Agr R S k H):cellsOf E H o=some all:=by
 cases o with
 |old b=>exact h
 |new j=>
  obtain⟨w,p,g⟩:=hA.fz j all h
  simp only[cellsOf,g]
theorem N7{l:List AV}(h:l.all i9=true)(n:Nat):(l.drop n).all i9=true:=
 List.all_eq_true.2 fun x hx=>List.all_eq_true.1 h x (List.mem_of_mem_drop hx)
theorem D5{l:List AV}(h:l.all i9=true)(n:Nat):(l.take n).all i9=true:=
 List.all_eq_true.2 fun x hx=>List.all_eq_true.1 h x (List.mem_of_mem_take hx)
theorem b6s(hC:n9 E R S H0){a:D}{v:AV}(h:Rp E R a v){row:List D}{i:Nat}(hr:a9T S a=some (row,i)):
  ∃o j all,v= .ptr o (j+i)∧o4 E R row ((all.drop j).take row.length)∧((all.drop j).take row.length).all i9=true∧∀H,Agr R S (a7H a) H→cellsOf E H o=some all:=by
 cases a<;>simp only[a9T]at hr<;>try (cases hr;done)
 case ptr k j=>
  simp only[Rp]at h
  subst h
  cases hk:S k with
  |none=>rw[hk]at hr;cases hr
  |some o=>
   simp only[hk]at hr
   split at hr
   ·rename_i cs hcs
    obtain⟨h1,⟨pre,h2⟩,h3,h4,h5⟩:=hC.cells hk (.inr ⟨_,hcs⟩)
    cases hr
    rw[hcs,List.flatten_singleton]at h5
    have e:o.acs.take row.length=o.acs:=List.take_of_length_le (by rw[h5.length];exact Nat.le_refl _)
    refine⟨.new k,0,o.acs,by rw[Nat.zero_add], ?_, ?_,fun H hA=> ?_⟩
    ·rw[List.drop_zero,e];exact h5
    ·rw[List.drop_zero,e];exact h3
    ·obtain⟨w,p,g⟩:=hA.st k o rfl hk (.inr ⟨_,hcs⟩)
     simp only[cellsOf,g]
   ·cases hr
 case rel k r j sz=>
  simp only[Rp]at h
  obtain⟨hmz,rfl⟩:=h
  cases hk:S k with
  |none=>rw[hk]at hr;cases hr
  |some o=>
   simp only[hk]at hr
   split at hr
   ·rename_i hsz
    obtain⟨h1,⟨pre,h2⟩,h3,h4,h5⟩:=hC.cells hk (.inl (by rw[hsz];exact hmz))
    split at hr
    ·rename_i row' hrow
     cases hr
     have hl:row.length=sz:=by rw[h4 row (List.mem_of_getElem? hrow),hsz]
     refine⟨.new k,r*sz,o.acs,rfl, ?_,D5 (N7 h3 _) _,fun H hA=> ?_⟩
     ·have:=(h5.drop (r*sz)).take row.length
      rw[←hsz]at this hl ⊢
      rw[hl,a5t h4 hrow]at this
      rw[hl]
      exact this
     ·obtain⟨w,p,g⟩:=hA.st k o rfl hk (.inl (by rw[hsz];exact hmz))
      simp only[cellsOf,g]
    ·cases hr
   ·cases hr
 case elt row' j=>
  cases hr
  simp only[Rp]at h
  obtain⟨o,j',all,rfl,e2,e3,e4⟩:=h
  exact⟨o,j',all,rfl,e3,e4,fun H hA=>a9d e2 hA⟩
theorem a3q{α:Type}{all:List α}{j L i n:Nat}(h:i+n≤L):(all.drop (j+i)).take n=(((all.drop j).take L).drop i).take n:=by
 rw[List.drop_take,List.take_take,List.drop_drop,Nat.min_eq_left (by omega)]
theorem b8Z(hC:n9 E R S H0){t:TypeId}{a:D}{v:AV}(h:Rp E R a v){d:D}(hd:b9I P S t a=some d):
  ∃x,Rp E R d x∧∀H,Agr R S (a7H a) H→b9G P E H t v=some x:=by
 unfold b9I at hd
 cases hg:a3x P t with
 |none=>rw[hg]at hd;cases hd
 |some b=>
  rw[hg]at hd
  cases b with
  |true=>
   cases hs:s6 P t with
   |none=>rw[hs]at hd;cases hd
   |some n=>
    simp only[hs,s0]at hd
    split at hd
    ·rename_i row i hrow
     split at hd
     ·rename_i hn
      cases hd
      obtain⟨o,j,all,rfl,h1,h2,h3⟩:=b6s hC h hrow
      have hl:=h1.length
      rw[List.length_take,List.length_drop]at hl
      refine⟨.agg ((all.drop (j+i)).take n), ?_,fun H hA=> ?_⟩
      ·rw[a3q hn.2]
       simp only[Rp]
       exact⟨_,rfl,(h1.drop i).take n,D5 (N7 h2 i) n⟩
      ·show D8 P E H t o (j+i)=_
       simp only[D8,hg,hs,Option.pure_def,Option.bind_eq_bind,Option.bind_some,if_true,A2,h3 H hA]
       rw[if_pos (by omega)]
       rfl
     ·cases hd
    ·cases hd
  |false=>
   simp only[c9]at hd
   split at hd
   ·rename_i row i hrow
    obtain⟨o,j,all,rfl,h1,h2,h3⟩:=b6s hC h hrow
    obtain⟨x,e1,e2⟩:=a1b h1 hd
    refine⟨x,e2,fun H hA=> ?_⟩
    show D8 P E H t o (j+i)=_
    simp only[D8,hg,Option.pure_def,Option.bind_eq_bind,Option.bind_some,Bool.false_eq_true,if_false,a1U,h3 H hA]
    rw[List.getElem?_take]at e1
    split at e1
    ·rw[List.getElem?_drop]at e1;exact e1
    ·cases e1
   ·cases hd
theorem c3k{c a b:D}{vc va vb:AV}(hc:Rp E R c vc)(ha:Rp E R a va)(hb:Rp E R b vb){d:D}(h:F5 c a b=some d):∃x,Rp E R d x∧b9j vc va vb=some x:=by
 cases c<;>simp only[F5]at h<;>try (cases h;done)
 case bool t=>
  cases h
  simp only[Rp]at hc
  subst hc
  refine⟨_, ?_,rfl⟩
  cases t
  ·exact hb
  ·exact ha
theorem c4u{c:D}{v:AV}(hc:Rp E R c v){d:D}(h:a2M c=some d):Rp E R d v∧c0S v=some v:=by
 cases c<;>simp only[a2M]at h<;>try (cases h;done)
 case fn f a b=>
  have hR:=hc
  simp only[Rp]at hc
  obtain⟨a',b',rfl,_⟩:=hc
  cases f<;>simp at h<;>(subst h;exact⟨hR,rfl⟩)
 all_goals
  cases h
  have hR:=hc
  simp only[Rp]at hc
  first
   |(subst hc;exact⟨hR,rfl⟩)
   |(rcases hc with ⟨_,rfl⟩|⟨o,j,cap,ex,z,rfl,_⟩<;>exact⟨hR,rfl⟩)
   |(obtain⟨o,j,cap,ex,z,all,rfl,_⟩:=hc;exact⟨hR,rfl⟩)
   |(obtain⟨o,j,all,rfl,_⟩:=hc;exact⟨hR,rfl⟩)
   |(obtain⟨v',rfl,_⟩:=hc;exact⟨hR,rfl⟩)
   |(obtain⟨_,rfl⟩:=(hc:_∧_);exact⟨hR,rfl⟩)
   |(obtain⟨_,j,cap,ex,all,rfl,_⟩:=(hc:_∧_);exact⟨hR,rfl⟩)
theorem b8z{c:D}{v:AV}(hc:Rp E R c v){ix:Nat}{d:D}(h:m6 c ix=some d):∃x,Rp E R d x∧a7M v ix=some x:=by
 cases c<;>simp only[m6]at h<;>try (cases h;done)
 case tup vs=>
  simp only[Rp]at hc
  obtain⟨ws,rfl,h1⟩:=hc
  obtain⟨x,e1,e2⟩:=a1b h1 h
  exact⟨x,e2,e1⟩
theorem c0u{op:BinOp}{x y:List UInt8}{d:D}(h:(a2j op x y).map O5=some d):∃v,Rp E R d v∧a2j op x y=some v:=by
 cases hs:a2j op x y with
 |none=>rw[hs]at h;cases h
 |some v=>rw[hs]at h;cases h;exact⟨v,a8h,rfl⟩
theorem a5x{op:BinOp}{r:Option Bool}{d:D}(h:b3l op r=some d):∃b,r=some b∧((op= .eql∧d= .bool b)∨(op= .neq∧d= .bool !b)):=by
 cases op<;>simp only[b3l]at h<;>try (cases h;done)
 all_goals
  cases r with
  |none=>cases h
  |some b=>cases h;exact⟨b,rfl,by simp⟩
theorem a2x{op:BinOp}{t:TypeId}{x y:Operand}{a b:AV}{r:Bool}{d:D}(hd:(op= .eql∧d= .bool r)∨(op= .neq∧d= .bool !r))(hg:U5 P op t x y a b=true)
  (hi:∀k n k' m,¬(a= .int k n∧b= .int k' m)) (hs:∀s u,¬(a= .str s∧b= .str u)) (he:eqA P Op.maxDepth t a b=some r):∃v,Rp E R d v∧b8r P op t x y a b=some v:=by
 have hb:∀op,(op=BinOp.eql∨op= .neq)→a7a P op t a b=match op with
   | .eql=>(eqA P Op.maxDepth t a b).map .bool
   | .neq=>(eqA P Op.maxDepth t a b).map fun r=> .bool !r
   |_=>none:=by
  intro op ho
  unfold a7a
  split
  ·exact(hi _ _ _ _ ⟨rfl,rfl⟩).elim
  ·exact(hs _ _ ⟨rfl,rfl⟩).elim
  ·rfl
 unfold b8r
 rw[if_pos hg]
 rcases hd with ⟨rfl,rfl⟩|⟨rfl,rfl⟩
 ·refine⟨.bool r,by simp only[Rp], ?_⟩
  rw[hb _ (.inl rfl),he];rfl
 ·refine⟨.bool !r,by simp only[Rp], ?_⟩
  rw[hb _ (.inr rfl),he];rfl
mutual
theorem b4P:∀ {d:D} {v x:AV},Rp E R d v→c1C d=some x→v=x
 | .any,v,x,_,e=>by cases e
 | .bool b,v,x,h,e=>by simp only[Rp]at h;cases e;exact h
 | .int k n,v,x,h,e=>by simp only[Rp]at h;cases e;exact h
 | .str s,v,x,h,e=>by simp only[Rp]at h;cases e;exact h
 | .nilPtr,v,x,h,e=>by simp only[Rp]at h;cases e;exact h
 | .nilSlc,v,x,h,e=>by simp only[Rp]at h;cases e;exact h
 | .nilMap,v,x,h,e=>by simp only[Rp]at h;cases e;exact h
 | .nilFn,v,x,h,e=>by simp only[Rp]at h;cases e;exact h
 | .nilIfc,v,x,h,e=>by simp only[Rp]at h;cases e;exact h
 | .mp k,v,x,h,e=>by cases e
 | .ptr k i,v,x,h,e=>by simp only[Rp]at h;cases e;exact h
 | .rel ..,v,x,h,e=>by cases e
 | .elt ..,v,x,h,e=>by cases e
 | .lst ..,v,x,h,e=>by cases e
 | .ext ..,v,x,h,e=>by cases e
 | .raw ..,v,x,h,e=>by cases e
 | .tip ..,v,x,h,e=>by cases e
 | .fn ..,v,x,h,e=>by cases e
 | .ifc ..,v,x,h,e=>by cases e
 | .tup ..,v,x,h,e=>by cases e
 | .agg cs,v,x,h,e=>by
  simp only[Rp]at h
  obtain⟨vs,rfl,h1,h2⟩:=h
  simp only[c1C]at e
  split at e
  ·rename_i l hl
   cases e
   rw[b7a h1 hl]
  ·cases e
theorem b7a:∀ {ds:List D} {vs xs:List AV},o4 E R ds vs→b3M ds=some xs→vs=xs
 | [],vs,xs,h,e=>by simp only[o4]at h;cases e;exact h
 |d::ds,vs,xs,h,e=>by
  simp only[o4]at h
  obtain⟨v,ws,rfl,h1,h2⟩:=h
  simp only[b3M]at e
  split at e
  ·rename_i a b ha hb
   cases e
   rw[b4P h1 ha,b7a h2 hb]
  ·cases e
end
theorem c4q{op:BinOp}{t:TypeId}{x y:Operand}{a b:D}{va vb:AV}(ha:Rp E R a va)(hb:Rp E R b vb){d:D}(h:c3R P op t x y a b=some d):∃v,Rp E R d v∧b8r P op t x y va vb=some v:=by
 unfold c3R at h
 split at h
 ·
  cases a<;>simp only[d4]at h<;>try (cases h;done)
  rename_i k n
  cases b<;>simp only at h<;>try (cases h;done)
  rename_i k' m
  simp only[Rp]at ha hb
  subst ha hb
  have hg:U5 P op t x y (.int k n) (.int k' m)=true:=by cases op<;>rfl
  unfold b8r
  rw[if_pos hg]
  simp only[a7a]
  cases op
  case shl=>
   simp only at h ⊢
   split at h
   ·cases h
   ·rename_i h0;cases h;rw[if_neg h0];exact⟨_,by simp only[Rp],rfl⟩
  case shr=>
   simp only at h ⊢
   split at h
   ·cases h
   ·rename_i h0;cases h;rw[if_neg h0];exact⟨_,by simp only[Rp],rfl⟩
  all_goals
   simp only at h ⊢
   split at h
   ·rename_i hk
    rw[if_pos hk]
    cases hr:G7 _ k n m with
    |none=>rw[hr]at h;cases h
    |some v=>rw[hr]at h;cases h;exact⟨v,a8h,rfl⟩
   ·cases h
 ·
  cases a<;>simp only[c0y]at h<;>try (cases h;done)
  rename_i s
  cases b<;>simp only at h<;>try (cases h;done)
  rename_i u
  simp only[Rp]at ha hb
  subst ha hb
  have hg:U5 P op t x y (.str s) (.str u)=true:=by cases op<;>rfl
  unfold b8r
  rw[if_pos hg]
  exact c0u h
 ·
  rename_i hu
  obtain⟨r,hr,hd⟩:=a5x h
  cases a<;>simp only[c4w]at hr<;>try (cases hr;done)
  cases b<;>simp only at hr<;>try (cases hr;done)
  simp only[Rp]at ha hb
  subst ha hb
  cases hr
  exact a2x hd (by rcases hd with ⟨rfl,_⟩|⟨rfl,_⟩<;>rfl) (by simp) (by simp) (by simp only[Op.maxDepth,eqA,hu])
 ·
  rename_i e hu
  obtain⟨r,hr,hd⟩:=a5x h
  unfold c3P at hr
  split at hr<;>try (cases hr;done)
  all_goals
   cases hr
   simp only[Rp]at ha hb
   try (rcases ha with ⟨e0,_⟩|⟨o,j,cap,ex,z,rfl,_⟩; ·cases e0)
   try (rcases hb with ⟨e0,_⟩|⟨o,j,cap,ex,z,rfl,_⟩; ·cases e0)
   try (obtain⟨o,j,cap,ex,z,all,rfl,_⟩:=ha)
   try (obtain⟨o,j,cap,ex,z,all,rfl,_⟩:=hb)
   try (obtain⟨_,rfl⟩:=(ha:_∧_))
   try (obtain⟨_,rfl⟩:=(hb:_∧_))
   try subst ha
   try subst hb
   exact a2x hd (by rcases hd with ⟨rfl,_⟩|⟨rfl,_⟩<;>rfl) (by simp) (by simp) (by simp only[Op.maxDepth,eqA,hu])
 ·
  rename_i e hu
  obtain⟨r,hr,hd⟩:=a5x h
  cases a<;>simp only[c5t]at hr<;>try (cases hr;done)
  all_goals
   cases b<;>simp only at hr<;>try (cases hr;done)
   all_goals
    cases hr
    simp only[Rp]at ha hb
    try (obtain⟨o,j,all,rfl,_⟩:=ha)
    try (obtain⟨o,j,all,rfl,_⟩:=hb)
    try (obtain⟨_,rfl⟩:=(ha:_∧_))
    try (obtain⟨_,rfl⟩:=(hb:_∧_))
    try subst ha
    try subst hb
    exact a2x hd (by rcases hd with ⟨rfl,_⟩|⟨rfl,_⟩<;>rfl) (by simp) (by simp) (by simp only[Op.maxDepth,eqA,hu])
 ·
  rename_i hu
  obtain⟨r,hr,hd⟩:=a5x h
  cases a<;>simp only[c5k]at hr<;>try (cases hr;done)
  all_goals
   cases b<;>simp only at hr<;>try (cases hr;done)
   all_goals
    cases hr
    simp only[Rp]at ha hb
    try (obtain⟨a',b',rfl,_⟩:=ha)
    try (obtain⟨a',b',rfl,_⟩:=hb)
    try subst ha
    try subst hb
    exact a2x hd (by rcases hd with ⟨rfl,_⟩|⟨rfl,_⟩<;>rfl) (by simp) (by simp) (by simp only[Op.maxDepth,eqA,hu])
 ·
  rename_i e hu
  obtain⟨r,hr,hd⟩:=a5x h
  cases a<;>simp only[c5j]at hr<;>try (cases hr;done)
  ·cases b<;>simp only at hr<;>try (cases hr;done)
   ·split at hr
    ·rename_i hc
     cases hr
     simp only[Rp]at ha hb
     subst ha hb
     exact a2x hd (by rcases hd with ⟨rfl,_⟩|⟨rfl,_⟩<;>exact hc) (by simp) (by simp) (by simp only[Op.maxDepth,eqA,hu])
    ·cases hr
   ·cases hr
    simp only[Rp]at ha hb
    obtain⟨v',rfl,_⟩:=hb
    subst ha
    exact a2x hd (by rcases hd with ⟨rfl,_⟩|⟨rfl,_⟩<;>rfl) (by simp) (by simp) (by simp only[Op.maxDepth,eqA,hu])
  ·cases b<;>simp only at hr<;>try (cases hr;done)
   cases hr
   simp only[Rp]at ha hb
   obtain⟨v',rfl,_⟩:=ha
   subst hb
   exact a2x hd (by rcases hd with ⟨rfl,_⟩|⟨rfl,_⟩<;>rfl) (by simp) (by simp) (by simp only[Op.maxDepth,eqA,hu])
 ·
  rename_i e hu
  obtain⟨r,hr,hd⟩:=a5x h
  cases a<;>simp only[c5q]at hr<;>try (cases hr;done)
  cases b<;>simp only at hr<;>try (cases hr;done)
  rename_i xs ys
  split at hr
  ·rename_i xa ya hx hy
   split at hr
   ·cases hr
   ·rename_i hg
    have e1:=b4P ha (x:= .agg xa) (by simp only[c1C,hx])
    have e2:=b4P hb (x:= .agg ya) (by simp only[c1C,hy])
    subst e1 e2
    have hg':P.eqGuardType P.depth t=false:=by simpa using hg
    exact a2x hd (by rcases hd with ⟨rfl,_⟩|⟨rfl,_⟩<;>simp only[U5,hg',Bool.not_false]) (by simp) (by simp) hr
  ·cases hr
 ·cases h
theorem c5c{op:UnOp}{a:D}{v:AV}(ha:Rp E R a v){d:D}(h:unD op a=some d):∃x,Rp E R d x∧unA op v=some x:=by
 cases op<;>cases a<;>simp only[unD]at h<;>try (cases h;done)
 all_goals
  cases h
  simp only[Rp]at ha
  subst ha
  exact⟨_,by simp only[Rp],rfl⟩
end
end
end Go.Am
end
