/-
  TransferRisesSaid: part Qan of its proof.
-/
import Derived.Test.YtdkidgkiplcggaaGreatQam
set_option linter.unusedVariables false
set_option linter.unusedSimpArgs false
set_option maxRecDepth 100000
section
namespace Go.Am
section
def a1D:AV→D
 | .bool b=> .bool b
 | .int k n=> .int k n
 | .str s=> .str s
 | .nilPtr=> .nilPtr
 | .nilSlc=> .nilSlc
 | .nilMap=> .nilMap
 | .nilFn=> .nilFn
 | .nilIfc=> .nilIfc
 |_=> .any
def c8h:AV→D
 | .agg cs=>if cs.all s0 then .agg (cs.map a1D) else .any
 | .tup []=> .tup []
 |v=>a1D v
def o3:D→Option (List D)
 | .any| .tup _=>none
 | .agg cs=>some cs
 |d=>some [d]
def l7:List D→Nat→List D→List D
 |cs,_,[]=>cs
 |cs,i,v::vs=>l7 (cs.set i v) (i+1) vs
def t7(T:List D):Operand→D
 | .tmp t=>T.getD t b9
 | .const v=>c8h (c7M v)
 | .global _=> .any
 | .func f=> .fn (.func f) [] []
def b9W(S:b8):D→Option (List D×Nat)
 | .ptr k i=>match S k with
  |some o=>match o.rows with
   | [cs]=>some (cs,i)
   |_=>none
  |none=>none
 | .rel k r i sz=>match S k with
  |some o=>if o.sz=sz then match o.rows[r]? with
   |some row=>some (row,i)
   |none=>none
   else none
  |none=>none
 | .elt row i=>some (row,i)
 |_=>none
def i5(S:b8)(n:Nat)(a:D):Option D:=match b9W S a with
 |some (row,i)=>if 0<n∧i+n≤row.length then some (.agg ((row.drop i).take n)) else none
 |none=>none
def c9(S:b8)(a:D):Option D:=match b9W S a with
 |some (row,i)=>row[i]?
 |none=>none
def b7v:D→Option Nat
 | .ptr k _| .rel k _ _ _| .raw k _ _ _ _ _=>some k
 | .mp k=>some k
 |_=>none
def b6D:D→Option Nat
 | .mp k=>some k
 |_=>none
def b4H(o:D5):Option (List (List D)):=if o.sz=Q3 then(match o.rows with
 | []::[]::rows=>some rows
 |_=>none) else none
def b6J(P:Program)(t:TypeId):Option Nat:=match P.underlying t with
 |some (.int _)=>some 0
 |some .string=>some 1
 |some .bool=>some 2
 |_=>none
def c9o(kk:Nat)(d:D):Bool:=match d with
 | .int _ _=>kk==0
 | .str _=>kk==1
 | .bool _=>kk==2
 |_=>false
def c9N:D→D→Option Bool
 | .int k a, .int k' b=>if k=k' then some (a==b) else none
 | .str a, .str b=>some (a==b)
 | .bool a, .bool b=>some (a==b)
 |_,_=>none
def c3c(k:D):List (List D)→Nat→Option (Option (Nat×D×D))
 | [],_=>some none
 | [k',v,n]::es,i=>match c9N k k' with
  |some true=>some (some (i,v,n))
  |some false=>c3c k es (i+1)
  |none=>none
 |_::_,_=>none
def d4U(S:b8):D→Option (List (List D))
 | .nilMap=>some []
 | .mp k=>match S k with
  |some o=>b4H o
  |none=>none
 |_=>none
def d8W(z:D)(ok:Bool):Option (Option (Nat×D×D))→Option D
 |some (some (_,v,_))=>some (if ok then .tup [v, .bool true]else v)
 |some none=>some (if ok then .tup [z, .bool false]else z)
 |none=>none
def d6k(S:b8)(kk:Nat)(z:D)(ok:Bool)(x ix:D):Option D:=if c9o kk ix then(match d4U S x with
 |some es=>d8W z ok (c3c ix es 0)
 |none=>none) else none
def c6p(P:Program)(S:b8)(t:TypeId)(x ix:D)(ok:Bool):Option D:=match P.underlying t with
 |some (.map kt e)=>match b6J P kt,L6 P e with
  |some kk,some z=>d6k S kk (c8h z) ok x ix
  |_,_=>none
 |_=>none
def d8e(S:b8)(x:D):Option D:=match d4U S x with
 |some es=>some (.int .i64 es.length)
 |none=>none
def b8E(P:Program)(t:TypeId):Bool:=match P.underlying t with
 |some (.map _ _)=>true
 |_=>false
def q9(c a b:D):Option D:=match c with
 | .bool t=>some (if t then a else b)
 |_=>none
def a1h:D→Option D
 | .nilPtr| .nilIfc| .nilFn| .any| .fn (.method _) _ _=>none
 |y=>some y
def j5(x:D)(ix:Nat):Option D:=match x with
 | .tup vs=>vs[ix]?
 |_=>none
def i4(op:BinOp)(a b:D):Option D:=match a,b with
 | .int k x, .int k' y=>match op with
  | .shl=>if y<0 then none else some (.int k (k.wrap (x*2^(min y.toNat k.bits))))
  | .shr=>if y<0 then none else some (.int k (x.fdiv (2^(min y.toNat k.bits))))
  |_=>if k=k' then(U6 op k x y).map a1D else none
 |_,_=>none
def c8V(op:BinOp)(a b:D):Option D:=match a,b with
 | .str x, .str y=>(a7M op x y).map a1D
 |_,_=>none
def b8j(op:BinOp)(r:Option Bool):Option D:=match op with
 | .eql=>r.map .bool
 | .neq=>r.map fun b=> .bool !b
 |_=>none
def d5A(a b:D):Option Bool:=match a,b with
 | .bool x, .bool y=>some (x==y)
 |_,_=>none
def c7Z(a b:D):Option Bool:=match a,b with
 | .nilSlc, .nilSlc=>some true
 | .nilSlc, .lst (_::_) _| .nilSlc, .ext _ _ _| .nilSlc, .raw _ _ _ _ _ _| .lst (_::_) _, .nilSlc| .ext _ _ _, .nilSlc| .raw _ _ _ _ _ _, .nilSlc=>some false
 |_,_=>none
def d8A(a b:D):Option Bool:=match a,b with
 | .nilPtr, .nilPtr=>some true
 | .nilPtr, .ptr _ _| .nilPtr, .rel _ _ _ _| .nilPtr, .elt _ _| .ptr _ _, .nilPtr| .rel _ _ _ _, .nilPtr| .elt _ _, .nilPtr=>some false
 |_,_=>none
def d8t(a b:D):Option Bool:=match a,b with
 | .nilFn, .nilFn=>some true
 | .nilFn, .fn _ _ _| .fn _ _ _, .nilFn=>some false
 |_,_=>none
def d8r(c:Bool)(a b:D):Option Bool:=match a,b with
 | .nilIfc, .nilIfc=>if c then some true else none
 | .nilIfc, .ifc _ _| .ifc _ _, .nilIfc=>some false
 |_,_=>none
mutual
def d4C:D→Option AV
 | .bool b=>some (.bool b)
 | .int k n=>some (.int k n)
 | .str s=>some (.str s)
 | .nilPtr=>some .nilPtr
 | .nilSlc=>some .nilSlc
 | .nilMap=>some .nilMap
 | .nilFn=>some .nilFn
 | .nilIfc=>some .nilIfc
 | .ptr k i=>some (.ptr (.new k) i)
 | .agg cs=>match c5z cs with
  |some l=>some (.agg l)
  |none=>none
 |_=>none
def c5z:List D→Option (List AV)
 | []=>some []
 |d::ds=>match d4C d,c5z ds with
  |some v,some vs=>some (v::vs)
  |_,_=>none
end
def d8i(P:Program)(t:TypeId)(a b:D):Option Bool:=match a,b with
 | .agg x, .agg y=>match c5z x,c5z y with
  |some x,some y=>if P.eqGuardType P.depth t then none else eqA P Op.maxDepth t (.agg x) (.agg y)
  |_,_=>none
 |_,_=>none
def d7h(P:Program)(op:BinOp)(t:TypeId)(x y:Operand)(a b:D):Option D:=match P.underlying t with
 |some (.int _)=>i4 op a b
 |some .string=>c8V op a b
 |some .bool=>b8j op (d5A a b)
 |some (.slice _)=>b8j op (c7Z a b)
 |some (.pointer _)=>b8j op (d8A a b)
 |some (.func ..)=>b8j op (d8t a b)
 |some (.interface _)=>b8j op (d8r (Region.isConst x||Region.isConst y) a b)
 |some (.struct _)=>b8j op (d8i P t a b)
 |_=>none
def unD(op:UnOp)(x:D):Option D:=match op,x with
 | .neg, .int k n=>some (.int k (k.wrap (0 - n)))
 | .xor, .int k n=>some (.int k (k.wrap (BitVec.ofInt k.bits (if k.signed then -1 else k.max) ^^^ BitVec.ofInt k.bits n).toNat))
 | .not, .bool b=>some (.bool !b)
 |_,_=>none
def L5(S:b8)(sz:Nat):D→Option (List (List D))
 | .nilSlc=>some []
 | .lst rows z=>if z=sz then some rows else none
 | .ext rows _ z=>if z=sz then some rows else none
 | .raw k i len _ _ z=>match S k with
  |some o=>if z=sz∧o.sz=sz∧i+len≤o.rows.length then some ((o.rows.drop i).take len) else none
  |none=>none
 |_=>none
def c3t:List D→Option UInt8
 | [.int .u8 n]=>some (UInt8.ofNat n.toNat)
 |_=>none
def J9(k:IntKind):D→Option D
 | .int _ n=>some (.int k (k.wrap n))
 |_=>none
def c6t:D→Option D
 | .str s=>some (.str s)
 |_=>none
def c2g(S:b8)(x:D):Option D:=match L5 S 1 x with
 |some rows=>(rows.mapM c3t).map .str
 |none=>none
def d4r(P:Program)(S:b8)(src dst:TypeId)(x:D):Option D:=match P.underlying src,P.underlying dst with
 |some (.int _),some (.int k)=>J9 k x
 |some .string,some .string=>c6t x
 |some (.slice e),some .string=>match P.underlying e with
  |some (.int .u8)=>c2g S x
  |_=>none
 |_,_=>none
def F4(x:D)(y:Nat):Option Nat:=match x with
 | .int _ i=>if 0≤i∧i≤y then some i.toNat else none
 |_=>none
def c7o(cap:Nat):Option D→Option Nat
 |some v=>F4 v cap
 |none=>some cap
def b2O(len m:Nat):Option D→Option D→Option Nat
 |some v,_=>F4 v m
 |none,none=>some len
 |none,some _=>none
def c0K(h:Nat):Option D→Option Nat
 |some v=>F4 v h
 |none=>some 0
def M9(len cap:Nat)(low high max:Option D):Option (Nat×Nat×Nat):=
 (c7o cap max).bind fun m=>(b2O len m high max).bind fun h=>(c0K h low).bind fun l=>some (l,h,m)
def c3I(x:D)(lo hi:Option D):Option D:=match x with
 | .str s=>(M9 s.length s.length lo hi none).map fun r=> .str ((s.drop r.1).take (r.2.1 - r.1))
 |_=>none
def d2s(rows more:List (List D))(sz:Nat):D:=match more with
 | []=> .lst rows sz
 |m=> .ext rows m sz
def a1a(sz:Nat)(x:D)(lo hi mx:Option D):Option D:=match x with
 | .nilSlc=>(M9 0 0 lo hi mx).map fun _=> .nilSlc
 | .lst rows z=>if z=sz then(M9 rows.length rows.length lo hi mx).map fun r=>d2s ((rows.drop r.1).take (r.2.1 - r.1)) ((rows.drop r.2.1).take (r.2.2 - r.2.1)) sz else none
 | .ext rows more z=>if z=sz then(M9 rows.length (rows++more).length lo hi mx).map fun r=>d2s (((rows++more).drop r.1).take (r.2.1 - r.1)) (((rows++more).drop r.2.1).take (r.2.2 - r.2.1)) sz else none
 | .raw k i len cap ex z=>if z=sz then(M9 len cap lo hi mx).map fun r=> .raw k (i+r.1) (r.2.1 - r.1) (r.2.2 - r.1) (ex||mx.isSome) sz else none
 |_=>none
def d0J(P:Program)(t:TypeId)(x:D)(lo hi mx:Option D):Option D:=match P.underlying t with
 |some .string=>match mx with
  |none=>c3I x lo hi
  |some _=>none
 |some (.slice e)=>match D0 P e with
  |some sz=>a1a sz x lo hi mx
  |none=>none
 |_=>none
def j4(off:Nat):D→Option D
 | .ptr k i=>some (.ptr k (i+off))
 | .rel k r i sz=>some (.rel k r (i+off) sz)
 | .elt row i=>some (.elt row (i+off))
 |_=>none
def c1F(P:Program)(s:TypeId)(x:D)(field:Nat):Option D:=match a5K P s field with
 |some f=>match D0 P f.type with
  |some (_+1)=>j4 f.offset x
  |_=>none
 |none=>none
def c5V(off n:Nat):D→Option D
 | .agg cs=>some (.agg ((cs.drop off).take n))
 |_=>none
def c6y(off:Nat):D→Option D
 | .agg cs=>cs[off]?
 |_=>none
def c8q(P:Program)(t:TypeId)(off:Nat)(x:D):Option D:=match b0o P t with
 |some true=>match D0 P t with
  |some n=>c5V off n x
  |none=>none
 |some false=>c6y off x
 |none=>none
def d0y(P:Program)(s:TypeId)(x:D)(field:Nat):Option D:=match a5K P s field with
 |some f=>c8q P f.type f.offset x
 |none=>none
def o6(sz:Nat)(x ix:D):Option D:=match ix with
 | .int _ n=>match x with
  | .lst rows z=>if z=sz∧0≤n then match rows[n.toNat]? with
   |some row=>some (.elt row 0)
   |none=>none
   else none
  | .ext rows _ z=>if z=sz∧0≤n then match rows[n.toNat]? with
   |some row=>some (.elt row 0)
   |none=>none
   else none
  | .raw k i len _ _ z=>if z=sz∧0≤n∧n<len then some (.rel k (i+n.toNat) 0 sz) else none
  |_=>none
 |_=>none
def b4S(len sz:Nat)(x ix:D):Option D:=match ix with
 | .int _ n=>if 0≤n∧n<len then j4 (n.toNat*sz) x else none
 |_=>none
def c3U(P:Program)(t:TypeId)(x ix:D):Option D:=match P.underlying t with
 |some (.slice e)=>match D0 P e with
  |some sz=>o6 sz x ix
  |none=>none
 |some (.array len e)=>match D0 P e with
  |some sz=>b4S len sz x ix
  |none=>none
 |_=>none
def c7u(x ix:D):Option D:=match ix,x with
 | .int _ n, .str s=>if 0≤n then match s[n.toNat]? with
  |some b=>some (.int .u8 b.toNat)
  |none=>none
  else none
 |_,_=>none
def d4e(len sz:Nat)(ag:Bool)(x ix:D):Option D:=match ix with
 | .int _ n=>if 0≤n∧n<len then(match ag with
  |true=>c5V (n.toNat*sz) sz x
  |false=>c6y (n.toNat*sz) x) else none
 |_=>none
def d0d(P:Program)(t:TypeId)(x ix:D):Option D:=match P.underlying t with
 |some .string=>c7u x ix
 |some (.array len e)=>match D0 P e,b0o P e with
  |some sz,some ag=>d4e len sz ag x ix
  |_,_=>none
 |_=>none
def a4b:D→Option D
 | .str s=>some (.int .i64 s.length)
 |_=>none
def m9:D→Option D
 | .nilSlc=>some (.int .i64 0)
 | .lst rows _=>some (.int .i64 rows.length)
 | .ext rows _ _=>some (.int .i64 rows.length)
 | .raw _ _ len _ _ _=>some (.int .i64 len)
 |_=>none
def d7C(P:Program)(S:b8)(t:TypeId)(x:D):Option D:=match P.underlying t with
 |some .string=>a4b x
 |some (.map _ _)=>d8e S x
 |some (.slice _)=>m9 x
 |some (.array n _)=>some (.int .i64 n)
 |_=>none
def c8w:D→Option D
 | .nilSlc=>some (.int .i64 0)
 | .raw _ _ _ cap true _=>some (.int .i64 cap)
 |_=>none
def d6L(P:Program)(t:TypeId)(x:D):Option D:=match P.underlying t with
 |some (.slice _)=>c8w x
 |some (.array n _)=>some (.int .i64 n)
 |_=>none
def mmD(isMax:Bool)(x y:D):Option D:=match x,y with
 | .int k a, .int _ b=>some (.int k (if isMax then(if b>a then b else a) else(if b<a then b else a)))
 |_,_=>none
def b6G(isMax:Bool):List D→Option D
 | []=>none
 |x::rest=>rest.foldlM (mmD isMax) x
def d0k(P:Program)(t:TypeId)(x:D):Option D:=match P.underlying t with
 |some (.interface _)=>none
 |some _=>some (.ifc t x)
 |none=>none
def asD(t:TypeId)(z:D)(ok:Bool)(x:D):Option D:=match x with
 | .nilIfc=>if ok then some (.tup [z, .bool false]) else none
 | .ifc t' v=>if t'=t then some (if ok then .tup [v, .bool true]else v) else if ok then some (.tup [z, .bool false]) else none
 |_=>none
def c7G(P:Program)(x:D)(asserted:TypeId)(ok:Bool):Option D:=match P.underlying asserted with
 |some (.interface _)=>none
 |some _=>match L6 P asserted with
  |some z=>asD asserted (c8h z) ok x
  |none=>none
 |none=>none
def r6:List D→List (Nat×Nat×D)→Option (List D)
 |cs,[]=>some cs
 |cs,(off,size,v)::rest=>match o3 v with
  |some ds=>if ds.length=size∧off+size≤cs.length then r6 (l7 cs off ds) rest else none
  |none=>none
def b3I(place:Nat→Option (Nat×Nat)):List (Nat×D)→Option (List (Nat×Nat×D))
 | []=>some []
 |(i,v)::rest=>match place i with
  |some (off,size)=>match b3I place rest with
   |some l=>some ((off,size,v)::l)
   |none=>none
  |none=>none
def E1(r:Option (List D)):Option D:=match r with
 |some cs=>some (.agg cs)
 |none=>none
def d0s(P:Program)(t:TypeId)(parts:List (Nat×D)):Option D:=match L6 P t with
 |some (.agg z)=>if z.all s0 then match P.underlying t with
  |some (.struct fields)=>match fields.toList.mapM fun f=>(D0 P f.type).map fun s=>(f.offset,s) with
   |some places=>match b3I (places[·]?) parts with
    |some l=>E1 (r6 (z.map a1D) l)
    |none=>none
   |none=>none
  |some (.array _ e)=>match D0 P e with
   |some size=>match b3I (fun i=>some (i*size,size)) parts with
    |some l=>E1 (r6 (z.map a1D) l)
    |none=>none
   |none=>none
  |_=>none
  else none
 |_=>none
def d1j(P:Program)(S:b8)(t:TypeId)(a:D):Option D:=match b0o P t with
 |some true=>match D0 P t with
  |some n=>i5 S n a
  |none=>none
 |some false=>c9 S a
 |none=>none
def d6B(P:Program)(T:List D)(S:b8)(o:Oper):Option D:=
 match o.op with
 | .move x| .assign x=>some (t7 T x)
 | .pick c a b=>q9 (t7 T c) (t7 T a) (t7 T b)
 | .build t parts=>d0s P t (parts.toList.map fun p=>(p.1,t7 T p.2))
 | .load t a=>d1j P S t (t7 T a)
 | .nilCheck x=>a1h (t7 T x)
 | .binOp op t x y _=>d7h P op t x y (t7 T x) (t7 T y)
 | .unOp op _ x=>unD op (t7 T x)
 | .convert src dst x=>d4r P S src dst (t7 T x)
 | .makeInterface t x=>d0k P t (t7 T x)
 | .makeFunc fn first captured=>some (.fn fn (first.toList.map (t7 T)) (captured.toList.map (t7 T)))
 | .slice t x lo hi mx=>d0J P t (t7 T x) (lo.map (t7 T)) (hi.map (t7 T)) (mx.map (t7 T))
 | .fieldAddr s x f=>c1F P s (t7 T x) f
 | .field s x f=>d0y P s (t7 T x) f
 | .indexAddr t x ix=>c3U P t (t7 T x) (t7 T ix)
 | .index t x ix=>d0d P t (t7 T x) (t7 T ix)
 | .lookup t x ix ok=>c6p P S t (t7 T x) (t7 T ix) ok
 | .typeAssert x _ asserted ok=>c7G P (t7 T x) asserted ok
 | .extract t ix=>j5 (t7 T t) ix
 | .call c=>match c.callee with
  | .builtin b=>match b,c.args.toList.map (t7 T),c.argTypes.toList with
   | .len,[x],[t]=>d7C P S t x
   | .cap,[x],[t]=>d6L P t x
   | .min,l,_=>b6G false l
   | .max,l,_=>b6G true l
   |_,_,_=>none
  |_=>none
 |_=>none
def d5m(P:Program)(c:Call):Bool:=match c.callee with
 | .builtin .len=>match c.argTypes.toList with
  | [t]=>b8E P t
  |_=>false
 |_=>false
def c2B(T:List D)(c:Call):D:=match c.args.toList.map (t7 T) with
 | [x]=>x
 |_=> .any
def b1G(P:Program)(T:List D)(o:Oper):Option Nat:=match o.op with
 | .load _ a=>b7v (t7 T a)
 | .convert _ _ x=>b7v (t7 T x)
 | .lookup _ x _ _=>b6D (t7 T x)
 | .call c=>if d5m P c then b6D (c2B T c) else none
 |_=>none
structure Agr (R:Fz) (S:b8) (k:Option Nat) (H:AHeap):Prop where
 fz:∀j cs,R j=some cs→∃w p,H.get j=some (.cells cs w p)
 st:∀j o,k=some j→S j=some o→(o.sz<Q3∨∃cs,o.rows=[cs])→∃w p,H.get j=some (.cells o.acs w p)
 mp:∀j o rows,k=some j→S j=some o→b4H o=some rows→∃es clock,o.acs=es.map c4q∧H.get j=some (.map es clock)
theorem d0D{o:D5}{rows:List (List D)}(h:b4H o=some rows):o.sz=Q3∧o.rows=[]::[]::rows:=by
 unfold b4H at h
 split at h
 ·rename_i hs
  split at h
  ·rename_i r e;cases h;exact⟨hs,e⟩
  ·cases h
 ·cases h
theorem z7.mapAt{E:j2}{R:Fz}{S:b8}{H:AHeap}(h:z7 E R S H){k:Nat}{o:D5}{rows:List (List D)}(hk:S k=some o)(hm:b4H o=some rows):
  R k=none∧∃es clock,o.acs=es.map c4q∧H.get k=some (.map es clock)∧RpE E R rows es∧(es.map (·.2.2)).Nodup∧∀e∈es,e.2.2<clock:=by
 obtain⟨hs,hr⟩:=d0D hm
 rcases h.own k o hk with ⟨h1,⟨_,_,h2,_⟩|⟨es,cl,rws,_,b,a,g,r⟩⟩|⟨a,_⟩|⟨a,_⟩
 ·have:=h2 [] (by rw[hr];exact List.mem_cons_self)
  rw[hs]at this
  cases this
 ·rw[hr]at b
  cases b
  exact⟨h1,es,cl,a,g,r⟩
 ·rw[hs]at a
  exact absurd a (by decide)
 ·rw[hs]at a
  exact absurd a (by decide)
theorem z7.agr{E:j2}{R:Fz}{S:b8}{H:AHeap}(h:z7 E R S H)(k:Option Nat):Agr R S k H:=
 ⟨fun j cs e=>let ⟨w,pre,g⟩:=h.frozen j cs e;⟨w,pre,g⟩,fun j o _ e hc=>let ⟨_,⟨pre,g⟩,_⟩:=h.cells e hc;⟨_,pre,g⟩,fun j o rows _ e hm=>
  let ⟨_,es,cl,a,g,_⟩:=h.mapAt e hm;⟨es,cl,a,g⟩⟩
end
section
section
variable{P:Program}{E:j2}{R:Fz}{S:b8}{H0:AHeap}
theorem b6u{v:AV}:Rp E R (a1D v) v:=by
 cases v<;>simp only[a1D,Rp]
theorem b8O:∀l:List AV,A7 E R (l.map a1D) l
 | []=>D6
 |v::l=>s9 b6u (b8O l)
theorem b3v{v:AV}:Rp E R (c8h v) v:=by
 unfold c8h
 split
 ·rename_i cs
  split
  ·rename_i h
   simp only[Rp]
   exact⟨cs,rfl,b8O cs,h⟩
  ·simp only[Rp]
 ·exact a1s
 ·exact b6u
theorem q7{T:List D}{avs:List AV}(h:A7 E R T avs)(x:Operand):Rp E R (t7 T x) (l9 avs x):=by
 cases x with
 |tmp t=>exact b6n h t
 |const v=>exact b3v
 |global g=>simp only[t7,Rp]
 |func f=>
  simp only[t7,l9,Rp]
  exact⟨[],[],rfl,D6,D6⟩
theorem a6m{T:List D}{avs:List AV}(h:A7 E R T avs):∀l:List Operand,A7 E R (l.map (t7 T)) (l.map (l9 avs))
 | []=>D6
 |x::l=>s9 (q7 h x) (a6m h l)
theorem b2Y{d:D}{v:AV}(h:Rp E R d v){ds:List D}(hc:o3 d=some ds):A7 E R ds v.cells∧v.cells.all s0=true:=by
 cases d<;>simp only[o3,Option.some.injEq]at hc<;>try (cases hc;done)
 case agg cs=>
  subst hc
  simp only[Rp]at h
  obtain⟨vs,rfl,h1,h2⟩:=h
  exact⟨h1,h2⟩
 all_goals
  subst hc
  have hR:=h
  simp only[Rp]at h
  first
   |(subst h;exact⟨s9 hR D6,rfl⟩)
   |(rcases h with ⟨_,rfl⟩|⟨o,j,cap,ex,z,rfl,_⟩<;>exact⟨s9 hR D6,rfl⟩)
   |(obtain⟨o,j,cap,ex,z,all,rfl,_⟩:=h;exact⟨s9 hR D6,rfl⟩)
   |(obtain⟨o,j,all,rfl,_⟩:=h;exact⟨s9 hR D6,rfl⟩)
   |(obtain⟨a',b',rfl,_⟩:=h;exact⟨s9 hR D6,rfl⟩)
   |(obtain⟨v',rfl,_⟩:=h;exact⟨s9 hR D6,rfl⟩)
   |(obtain⟨_,rfl⟩:=(h:_∧_);exact⟨s9 hR D6,rfl⟩)
   |(obtain⟨_,j,cap,ex,all,rfl,_⟩:=(h:_∧_);exact⟨s9 hR D6,rfl⟩)
theorem b8b{o:Id}{all:List AV}(h:rdE E R o=some all){k:Option Nat}{H:AHeap}(hA:Agr R S k H):cellsOf E H o=some all:=by
 cases o with
 |old b=>exact h
 |new j=>
  obtain⟨w,p,g⟩:=hA.fz j all h
  simp only[cellsOf,g]
theorem a1y{l:List AV}(h:l.all s0=true)(n:Nat):(l.drop n).all s0=true:=
 List.all_eq_true.2 fun x hx=>List.all_eq_true.1 h x (List.mem_of_mem_drop hx)
theorem M2{l:List AV}(h:l.all s0=true)(n:Nat):(l.take n).all s0=true:=
 List.all_eq_true.2 fun x hx=>List.all_eq_true.1 h x (List.mem_of_mem_take hx)
theorem c8S(hC:z7 E R S H0){a:D}{v:AV}(h:Rp E R a v){row:List D}{i:Nat}(hr:b9W S a=some (row,i)):
  ∃o j all,v= .ptr o (j+i)∧A7 E R row ((all.drop j).take row.length)∧((all.drop j).take row.length).all s0=true∧∀H,Agr R S (b7v a) H→cellsOf E H o=some all:=by
 cases a<;>simp only[b9W]at hr<;>try (cases hr;done)
 case ptr k j=>
  simp only[Rp]at h
  subst h
  cases hk:S k with
  |none=>rw[hk]at hr;cases hr
  |some o=>
   simp only[hk]at hr
   split at hr
   ·rename_i cs hcs
    obtain⟨h1,⟨pre,h2⟩,h3,h4,h5⟩:=hC.cells hk (.inr ⟨_,hcs⟩)
    cases hr
    rw[hcs,List.flatten_singleton]at h5
    have e:o.acs.take row.length=o.acs:=List.take_of_length_le (by rw[h5.length];exact Nat.le_refl _)
    refine⟨.new k,0,o.acs,by rw[Nat.zero_add], ?_, ?_,fun H hA=> ?_⟩
    ·rw[List.drop_zero,e];exact h5
    ·rw[List.drop_zero,e];exact h3
    ·obtain⟨w,p,g⟩:=hA.st k o rfl hk (.inr ⟨_,hcs⟩)
     simp only[cellsOf,g]
   ·cases hr
 case rel k r j sz=>
  simp only[Rp]at h
  obtain⟨hmz,rfl⟩:=h
  cases hk:S k with
  |none=>rw[hk]at hr;cases hr
  |some o=>
   simp only[hk]at hr
   split at hr
   ·rename_i hsz
    obtain⟨h1,⟨pre,h2⟩,h3,h4,h5⟩:=hC.cells hk (.inl (by rw[hsz];exact hmz))
    split at hr
    ·rename_i row' hrow
     cases hr
     have hl:row.length=sz:=by rw[h4 row (List.mem_of_getElem? hrow),hsz]
     refine⟨.new k,r*sz,o.acs,rfl, ?_,M2 (a1y h3 _) _,fun H hA=> ?_⟩
     ·have:=(h5.drop (r*sz)).take row.length
      rw[←hsz]at this hl ⊢
      rw[hl,b3k h4 hrow]at this
      rw[hl]
      exact this
     ·obtain⟨w,p,g⟩:=hA.st k o rfl hk (.inl (by rw[hsz];exact hmz))
      simp only[cellsOf,g]
    ·cases hr
   ·cases hr
 case elt row' j=>
  cases hr
  simp only[Rp]at h
  obtain⟨o,j',all,rfl,e2,e3,e4⟩:=h
  exact⟨o,j',all,rfl,e3,e4,fun H hA=>b8b e2 hA⟩
theorem a8F{α:Type}{all:List α}{j L i n:Nat}(h:i+n≤L):(all.drop (j+i)).take n=(((all.drop j).take L).drop i).take n:=by
 rw[List.drop_take,List.take_take,List.drop_drop,Nat.min_eq_left (by omega)]
theorem d1Y(hC:z7 E R S H0){t:TypeId}{a:D}{v:AV}(h:Rp E R a v){d:D}(hd:d1j P S t a=some d):
  ∃x,Rp E R d x∧∀H,Agr R S (b7v a) H→d1C P E H t v=some x:=by
 unfold d1j at hd
 cases hg:b0o P t with
 |none=>rw[hg]at hd;cases hd
 |some b=>
  rw[hg]at hd
  cases b with
  |true=>
   cases hs:D0 P t with
   |none=>rw[hs]at hd;cases hd
   |some n=>
    simp only[hs,i5]at hd
    split at hd
    ·rename_i row i hrow
     split at hd
     ·rename_i hn
      cases hd
      obtain⟨o,j,all,rfl,h1,h2,h3⟩:=c8S hC h hrow
      have hl:=h1.length
      rw[List.length_take,List.length_drop]at hl
      refine⟨.agg ((all.drop (j+i)).take n), ?_,fun H hA=> ?_⟩
      ·rw[a8F hn.2]
       simp only[Rp]
       exact⟨_,rfl,(h1.drop i).take n,M2 (a1y h2 i) n⟩
      ·show L9 P E H t o (j+i)=_
       simp only[L9,hg,hs,Option.pure_def,Option.bind_eq_bind,Option.bind_some,if_true,E4,h3 H hA]
       rw[if_pos (by omega)]
       rfl
     ·cases hd
    ·cases hd
  |false=>
   simp only[c9]at hd
   split at hd
   ·rename_i row i hrow
    obtain⟨o,j,all,rfl,h1,h2,h3⟩:=c8S hC h hrow
    obtain⟨x,e1,e2⟩:=a5M h1 hd
    refine⟨x,e2,fun H hA=> ?_⟩
    show L9 P E H t o (j+i)=_
    simp only[L9,hg,Option.pure_def,Option.bind_eq_bind,Option.bind_some,Bool.false_eq_true,if_false,a6T,h3 H hA]
    rw[List.getElem?_take]at e1
    split at e1
    ·rw[List.getElem?_drop]at e1;exact e1
    ·cases e1
   ·cases hd
theorem d5H{c a b:D}{vc va vb:AV}(hc:Rp E R c vc)(ha:Rp E R a va)(hb:Rp E R b vb){d:D}(h:q9 c a b=some d):∃x,Rp E R d x∧d1E vc va vb=some x:=by
 cases c<;>simp only[q9]at h<;>try (cases h;done)
 case bool t=>
  cases h
  simp only[Rp]at hc
  subst hc
  refine⟨_, ?_,rfl⟩
  cases t
  ·exact hb
  ·exact ha
theorem d6R{c:D}{v:AV}(hc:Rp E R c v){d:D}(h:a1h c=some d):Rp E R d v∧d3g v=some v:=by
 cases c<;>simp only[a1h]at h<;>try (cases h;done)
 case fn f a b=>
  have hR:=hc
  simp only[Rp]at hc
  obtain⟨a',b',rfl,_⟩:=hc
  cases f<;>simp at h<;>(subst h;exact⟨hR,rfl⟩)
 all_goals
  cases h
  have hR:=hc
  simp only[Rp]at hc
  first
   |(subst hc;exact⟨hR,rfl⟩)
   |(rcases hc with ⟨_,rfl⟩|⟨o,j,cap,ex,z,rfl,_⟩<;>exact⟨hR,rfl⟩)
   |(obtain⟨o,j,cap,ex,z,all,rfl,_⟩:=hc;exact⟨hR,rfl⟩)
   |(obtain⟨o,j,all,rfl,_⟩:=hc;exact⟨hR,rfl⟩)
   |(obtain⟨v',rfl,_⟩:=hc;exact⟨hR,rfl⟩)
   |(obtain⟨_,rfl⟩:=(hc:_∧_);exact⟨hR,rfl⟩)
   |(obtain⟨_,j,cap,ex,all,rfl,_⟩:=(hc:_∧_);exact⟨hR,rfl⟩)
theorem c9W{c:D}{v:AV}(hc:Rp E R c v){ix:Nat}{d:D}(h:j5 c ix=some d):∃x,Rp E R d x∧b7X v ix=some x:=by
 cases c<;>simp only[j5]at h<;>try (cases h;done)
 case tup vs=>
  simp only[Rp]at hc
  obtain⟨ws,rfl,h1⟩:=hc
  obtain⟨x,e1,e2⟩:=a5M h1 h
  exact⟨x,e2,e1⟩
theorem d2W{op:BinOp}{x y:List UInt8}{d:D}(h:(a7M op x y).map a1D=some d):∃v,Rp E R d v∧a7M op x y=some v:=by
 cases hs:a7M op x y with
 |none=>rw[hs]at h;cases h
 |some v=>rw[hs]at h;cases h;exact⟨v,b6u,rfl⟩
theorem b3C{op:BinOp}{r:Option Bool}{d:D}(h:b8j op r=some d):∃b,r=some b∧((op= .eql∧d= .bool b)∨(op= .neq∧d= .bool !b)):=by
 cases op<;>simp only[b8j]at h<;>try (cases h;done)
 all_goals
  cases r with
  |none=>cases h
  |some b=>cases h;exact⟨b,rfl,by simp⟩
theorem a7B{op:BinOp}{t:TypeId}{x y:Operand}{a b:AV}{r:Bool}{d:D}(hd:(op= .eql∧d= .bool r)∨(op= .neq∧d= .bool !r))(hg:a2i P op t x y a b=true)
  (hi:∀k n k' m,¬(a= .int k n∧b= .int k' m)) (hs:∀s u,¬(a= .str s∧b= .str u)) (he:eqA P Op.maxDepth t a b=some r):∃v,Rp E R d v∧d1b P op t x y a b=some v:=by
 have hb:∀op,(op=BinOp.eql∨op= .neq)→b5b P op t a b=match op with
   | .eql=>(eqA P Op.maxDepth t a b).map .bool
   | .neq=>(eqA P Op.maxDepth t a b).map fun r=> .bool !r
   |_=>none:=by
  intro op ho
  unfold b5b
  split
  ·exact(hi _ _ _ _ ⟨rfl,rfl⟩).elim
  ·exact(hs _ _ ⟨rfl,rfl⟩).elim
  ·rfl
 unfold d1b
 rw[if_pos hg]
 rcases hd with ⟨rfl,rfl⟩|⟨rfl,rfl⟩
 ·refine⟨.bool r,by simp only[Rp], ?_⟩
  rw[hb _ (.inl rfl),he];rfl
 ·refine⟨.bool !r,by simp only[Rp], ?_⟩
  rw[hb _ (.inr rfl),he];rfl
mutual
theorem c6s:∀ {d:D} {v x:AV},Rp E R d v→d4C d=some x→v=x
 | .any,v,x,_,e=>by cases e
 | .bool b,v,x,h,e=>by simp only[Rp]at h;cases e;exact h
 | .int k n,v,x,h,e=>by simp only[Rp]at h;cases e;exact h
 | .str s,v,x,h,e=>by simp only[Rp]at h;cases e;exact h
 | .nilPtr,v,x,h,e=>by simp only[Rp]at h;cases e;exact h
 | .nilSlc,v,x,h,e=>by simp only[Rp]at h;cases e;exact h
 | .nilMap,v,x,h,e=>by simp only[Rp]at h;cases e;exact h
 | .nilFn,v,x,h,e=>by simp only[Rp]at h;cases e;exact h
 | .nilIfc,v,x,h,e=>by simp only[Rp]at h;cases e;exact h
 | .mp k,v,x,h,e=>by cases e
 | .ptr k i,v,x,h,e=>by simp only[Rp]at h;cases e;exact h
 | .rel ..,v,x,h,e=>by cases e
 | .elt ..,v,x,h,e=>by cases e
 | .lst ..,v,x,h,e=>by cases e
 | .ext ..,v,x,h,e=>by cases e
 | .raw ..,v,x,h,e=>by cases e
 | .tip ..,v,x,h,e=>by cases e
 | .fn ..,v,x,h,e=>by cases e
 | .ifc ..,v,x,h,e=>by cases e
 | .tup ..,v,x,h,e=>by cases e
 | .agg cs,v,x,h,e=>by
  simp only[Rp]at h
  obtain⟨vs,rfl,h1,h2⟩:=h
  simp only[d4C]at e
  split at e
  ·rename_i l hl
   cases e
   rw[c9v h1 hl]
  ·cases e
theorem c9v:∀ {ds:List D} {vs xs:List AV},A7 E R ds vs→c5z ds=some xs→vs=xs
 | [],vs,xs,h,e=>by simp only[A7]at h;cases e;exact h
 |d::ds,vs,xs,h,e=>by
  simp only[A7]at h
  obtain⟨v,ws,rfl,h1,h2⟩:=h
  simp only[c5z]at e
  split at e
  ·rename_i a b ha hb
   cases e
   rw[c6s h1 ha,c9v h2 hb]
  ·cases e
end
theorem d6P{op:BinOp}{t:TypeId}{x y:Operand}{a b:D}{va vb:AV}(ha:Rp E R a va)(hb:Rp E R b vb){d:D}(h:d7h P op t x y a b=some d):∃v,Rp E R d v∧d1b P op t x y va vb=some v:=by
 unfold d7h at h
 split at h
 ·
  cases a<;>simp only[i4]at h<;>try (cases h;done)
  rename_i k n
  cases b<;>simp only at h<;>try (cases h;done)
  rename_i k' m
  simp only[Rp]at ha hb
  subst ha hb
  have hg:a2i P op t x y (.int k n) (.int k' m)=true:=by cases op<;>rfl
  unfold d1b
  rw[if_pos hg]
  simp only[b5b]
  cases op
  case shl=>
   simp only at h ⊢
   split at h
   ·cases h
   ·rename_i h0;cases h;rw[if_neg h0];exact⟨_,by simp only[Rp],rfl⟩
  case shr=>
   simp only at h ⊢
   split at h
   ·cases h
   ·rename_i h0;cases h;rw[if_neg h0];exact⟨_,by simp only[Rp],rfl⟩
  all_goals
   simp only at h ⊢
   split at h
   ·rename_i hk
    rw[if_pos hk]
    cases hr:U6 _ k n m with
    |none=>rw[hr]at h;cases h
    |some v=>rw[hr]at h;cases h;exact⟨v,b6u,rfl⟩
   ·cases h
 ·
  cases a<;>simp only[c8V]at h<;>try (cases h;done)
  rename_i s
  cases b<;>simp only at h<;>try (cases h;done)
  rename_i u
  simp only[Rp]at ha hb
  subst ha hb
  have hg:a2i P op t x y (.str s) (.str u)=true:=by cases op<;>rfl
  unfold d1b
  rw[if_pos hg]
  exact d2W h
 ·
  rename_i hu
  obtain⟨r,hr,hd⟩:=b3C h
  cases a<;>simp only[d5A]at hr<;>try (cases hr;done)
  cases b<;>simp only at hr<;>try (cases hr;done)
  simp only[Rp]at ha hb
  subst ha hb
  cases hr
  exact a7B hd (by rcases hd with ⟨rfl,_⟩|⟨rfl,_⟩<;>rfl) (by simp) (by simp) (by simp only[Op.maxDepth,eqA,hu])
 ·
  rename_i e hu
  obtain⟨r,hr,hd⟩:=b3C h
  unfold c7Z at hr
  split at hr<;>try (cases hr;done)
  all_goals
   cases hr
   simp only[Rp]at ha hb
   try (rcases ha with ⟨e0,_⟩|⟨o,j,cap,ex,z,rfl,_⟩; ·cases e0)
   try (rcases hb with ⟨e0,_⟩|⟨o,j,cap,ex,z,rfl,_⟩; ·cases e0)
   try (obtain⟨o,j,cap,ex,z,all,rfl,_⟩:=ha)
   try (obtain⟨o,j,cap,ex,z,all,rfl,_⟩:=hb)
   try (obtain⟨_,rfl⟩:=(ha:_∧_))
   try (obtain⟨_,rfl⟩:=(hb:_∧_))
   try subst ha
   try subst hb
   exact a7B hd (by rcases hd with ⟨rfl,_⟩|⟨rfl,_⟩<;>rfl) (by simp) (by simp) (by simp only[Op.maxDepth,eqA,hu])
 ·
  rename_i e hu
  obtain⟨r,hr,hd⟩:=b3C h
  cases a<;>simp only[d8A]at hr<;>try (cases hr;done)
  all_goals
   cases b<;>simp only at hr<;>try (cases hr;done)
   all_goals
    cases hr
    simp only[Rp]at ha hb
    try (obtain⟨o,j,all,rfl,_⟩:=ha)
    try (obtain⟨o,j,all,rfl,_⟩:=hb)
    try (obtain⟨_,rfl⟩:=(ha:_∧_))
    try (obtain⟨_,rfl⟩:=(hb:_∧_))
    try subst ha
    try subst hb
    exact a7B hd (by rcases hd with ⟨rfl,_⟩|⟨rfl,_⟩<;>rfl) (by simp) (by simp) (by simp only[Op.maxDepth,eqA,hu])
 ·
  rename_i hu
  obtain⟨r,hr,hd⟩:=b3C h
  cases a<;>simp only[d8t]at hr<;>try (cases hr;done)
  all_goals
   cases b<;>simp only at hr<;>try (cases hr;done)
   all_goals
    cases hr
    simp only[Rp]at ha hb
    try (obtain⟨a',b',rfl,_⟩:=ha)
    try (obtain⟨a',b',rfl,_⟩:=hb)
    try subst ha
    try subst hb
    exact a7B hd (by rcases hd with ⟨rfl,_⟩|⟨rfl,_⟩<;>rfl) (by simp) (by simp) (by simp only[Op.maxDepth,eqA,hu])
 ·
  rename_i e hu
  obtain⟨r,hr,hd⟩:=b3C h
  cases a<;>simp only[d8r]at hr<;>try (cases hr;done)
  ·cases b<;>simp only at hr<;>try (cases hr;done)
   ·split at hr
    ·rename_i hc
     cases hr
     simp only[Rp]at ha hb
     subst ha hb
     exact a7B hd (by rcases hd with ⟨rfl,_⟩|⟨rfl,_⟩<;>exact hc) (by simp) (by simp) (by simp only[Op.maxDepth,eqA,hu])
    ·cases hr
   ·cases hr
    simp only[Rp]at ha hb
    obtain⟨v',rfl,_⟩:=hb
    subst ha
    exact a7B hd (by rcases hd with ⟨rfl,_⟩|⟨rfl,_⟩<;>rfl) (by simp) (by simp) (by simp only[Op.maxDepth,eqA,hu])
  ·cases b<;>simp only at hr<;>try (cases hr;done)
   cases hr
   simp only[Rp]at ha hb
   obtain⟨v',rfl,_⟩:=ha
   subst hb
   exact a7B hd (by rcases hd with ⟨rfl,_⟩|⟨rfl,_⟩<;>rfl) (by simp) (by simp) (by simp only[Op.maxDepth,eqA,hu])
 ·
  rename_i e hu
  obtain⟨r,hr,hd⟩:=b3C h
  cases a<;>simp only[d8i]at hr<;>try (cases hr;done)
  cases b<;>simp only at hr<;>try (cases hr;done)
  rename_i xs ys
  split at hr
  ·rename_i xa ya hx hy
   split at hr
   ·cases hr
   ·rename_i hg
    have e1:=c6s ha (x:= .agg xa) (by simp only[d4C,hx])
    have e2:=c6s hb (x:= .agg ya) (by simp only[d4C,hy])
    subst e1 e2
    have hg':P.eqGuardType P.depth t=false:=by simpa using hg
    exact a7B hd (by rcases hd with ⟨rfl,_⟩|⟨rfl,_⟩<;>simp only[a2i,hg',Bool.not_false]) (by simp) (by simp) hr
  ·cases hr
 ·cases h
theorem d8u{op:UnOp}{a:D}{v:AV}(ha:Rp E R a v){d:D}(h:unD op a=some d):∃x,Rp E R d x∧unA op v=some x:=by
 cases op<;>cases a<;>simp only[unD]at h<;>try (cases h;done)
 all_goals
  cases h
  simp only[Rp]at ha
  subst ha
  exact⟨_,by simp only[Rp],rfl⟩
end
end
end Go.Am
end
