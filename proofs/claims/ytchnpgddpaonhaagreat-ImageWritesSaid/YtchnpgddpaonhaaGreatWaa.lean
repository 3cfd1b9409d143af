/- A part of the proof of ImageWrites. -/
import Derived.Calls
import Derived.Orders
import Derived.Laws.Sem
import Derived.Laws.Cells
import GoSem.Dispatch
set_option linter.unusedVariables false
set_option linter.unusedSimpArgs false
set_option maxRecDepth 100000
section
namespace Go.Am
section
inductive Id where
 |old (b:Nat)
 |new (k:Nat)
 deriving DecidableEq,Repr,Inhabited
inductive AV where
 |bool (b:Bool)
 |int (k:IntKind) (n:Int)
 |str (s:List UInt8)
 |nilPtr
 |ptr (o:Id) (i:Nat)
 |nilSlc
 |slc (o:Id) (i len cap:Nat) (ex:Bool) (sz:Nat)
 |nilMap
 |map (k:Nat)
 |fn (f:Fn) (first captured:List AV)
 |nilFn
 |ifc (t:TypeId) (v:AV)
 |nilIfc
 |agg (cs:List AV)
 |tup (vs:List AV)
 |opq (v:Value)
 deriving Inhabited
inductive Trie (α:Type) where
 |nil
 |node (v:Option α) (l r:Trie α)
namespace Trie
variable{α:Type}
def get:Trie α→Nat→Option α
 | .nil,_=>none
 | .node v l r,k=>match k with
  |0=>v
  |k+1=>if k % 2=0 then l.get (k / 2) else r.get (k / 2)
def setF:Nat→Trie α→Nat→Option α→Trie α
 |0,t,_,_=>t
 |f+1,t,k,x=>match t,k with
  | .nil,0=> .node x .nil .nil
  | .node _ l r,0=> .node x l r
  | .nil,k+1=>if k % 2=0 then .node none (setF f .nil (k / 2) x) .nil else .node none .nil (setF f .nil (k / 2) x)
  | .node v l r,k+1=>if k % 2=0 then .node v (setF f l (k / 2) x) r else .node v l (setF f r (k / 2) x)
def set(t:Trie α)(k:Nat)(x:Option α):Trie α:=setF (k+1) t k x
end Trie
inductive X7 where
 |cells (cs:List AV) (wr:Bool) (pre:List Nat)
 |map (es:List (AV×AV×Nat)) (clock:Nat)
 deriving Inhabited
structure AHeap where
 objs:Trie X7
 next:Nat
 log:List Nat
def AHeap.get(H:AHeap)(k:Nat):Option X7:=H.objs.get k
def AHeap.set(H:AHeap)(k:Nat)(o:X7):AHeap:= { H with objs:=H.objs.set k (some o),log:=k::H.log }
def AHeap.kill(H:AHeap)(k:Nat):AHeap:= { H with objs:=H.objs.set k none,log:=k::H.log }
def AHeap.killAll(H:AHeap):List Nat→AHeap
 | []=>H
 |k::ks=>(H.kill k).killAll ks
def AHeap.new(H:AHeap)(o:X7):AHeap:= { H with objs:=H.objs.set H.next (some o),next:=H.next+1 }
def AHeap.empty:AHeap:=⟨.nil,0,[]⟩
abbrev j6:=Nat→Option (List AV)
def cellsOf(E:j6)(H:AHeap):Id→Option (List AV)
 | .old b=>E b
 | .new k=>match H.get k with
  |some (.cells cs _ _)=>some cs
  |_=>none
def a8Y(E:j6)(H:AHeap)(o:Id)(i:Nat):Option AV:=
 match cellsOf E H o with
 |some cs=>cs[i]?
 |none=>none
def G9(E:j6)(H:AHeap)(o:Id)(i n:Nat):Option (List AV):=
 match cellsOf E H o with
 |some cs=>if i+n≤cs.length then some ((cs.drop i).take n) else none
 |none=>none
def M9(E:j6)(H:AHeap)(o:Id)(i n:Nat):Option (List AV):=if n=0 then some []else G9 E H o i n
def G3:List AV→Nat→List AV→List AV
 |cs,_,[]=>cs
 |cs,i,v::vs=>G3 (cs.set i v) (i+1) vs
def w7:AV→Bool
 | .agg _| .tup _=>false
 | .opq v=> !(v matches .agg _| .tuple _)
 |_=>true
def F0(H:AHeap)(o:Id)(i:Nat)(vs:List AV):Option AHeap:=
 match vs with
 | []=>some H
 |_=>match o with
  | .old _=>none
  | .new k=>match H.get k with
   |some (.cells cs true pre)=>
    if i+vs.length≤cs.length&&vs.all w7 then some ((H.killAll pre).set k (.cells (G3 cs i vs) true [])) else none
   |_=>none
def c2P:Value→AV
 | .bool b=> .bool b
 | .int k n=> .int k n
 | .string s=> .str s.data.toList
 | .pointer none=> .nilPtr
 | .slice none 0 0=> .nilSlc
 | .map none=> .nilMap
 | .nilFunc=> .nilFn
 | .nilIface=> .nilIfc
 |v=> .opq v
def d3M:Value→AV
 | .agg cs=> .agg (cs.toList.map c2P)
 | .tuple ⟨[]⟩=> .tup []
 |v=>c2P v
def AV.cells:AV→List AV
 | .agg cs=>cs
 | .opq v=>v.cells.toList.map .opq
 |v=>[v]
def A8:AV:= .tup []
def p8(T:List AV):Operand→AV
 | .tmp t=>T.getD t A8
 | .const v=>d3M v
 | .global g=> .ptr (.old g) 0
 | .func f=> .fn (.func f) [] []
section ops
variable(P:Program)(E:j6)
def U3(t:TypeId):Option AV:=match P.info? t with
 |some i=>i.zero.map d3M
 |none=>none
def E2(t:TypeId):Option Nat:=(P.info? t).map (·.size)
def b2M(t:TypeId):Option Nat:=(P.info? t).map (·.bytes)
def b3t(t:TypeId):Option Bool:=match P.underlying t with
 |some (.struct _)|some (.array _ _)=>some true
 |some _=>some false
 |none=>none
def b0G(t:TypeId):Option TypeId:=match P.underlying t with
 |some (.slice e)=>some e
 |_=>none
def L7(H:AHeap)(t:TypeId)(o:Id)(i:Nat):Option AV:=do
 if←b3t P t then some (.agg (←G9 E H o i (←E2 P t))) else a8Y E H o i
def b8P(t:TypeId)(cs:List AV)(off:Nat):Option AV:=do
 if←b3t P t then some (.agg ((cs.drop off).take (←E2 P t))) else cs[off]?
def b2s(place:Nat→Option (Nat×Nat)):List AV→List (Nat×AV)→Option (List AV)
 |cs,[]=>some cs
 |cs,(i,v)::rest=>match place i with
  |none=>none
  |some (off,size)=>if v.cells.length=size∧off+v.cells.length≤cs.length then b2s place (G3 cs off v.cells) rest else none
def b6w(t:TypeId)(parts:List (Nat×AV)):Option AV:=do
 let z←U3 P t
 match P.underlying t with
 |some (.struct fields)=>
  let places←fields.toList.mapM fun f=>(E2 P f.type).map fun s=>(f.offset,s)
  (b2s (places[·]?) z.cells parts).map .agg
 |some (.array _ e)=>
  let size←E2 P e
  (b2s (fun i=>some (i*size,size)) z.cells parts).map .agg
 |_=>none
def rep(z:List AV):Nat→List AV
 |0=>[]
 |n+1=>z++rep z n
def newCells(H:AHeap)(cs:List AV):AHeap:=H.new (.cells cs true [])
def R9(H:AHeap)(t:TypeId)(len:Nat)(parts:List (Nat×AV)):Option (AV×AHeap):=do
 let e←b0G P t
 let size←E2 P e
 if len*size≤2^24 then
  let z←U3 P e
  if z.cells.length=size then
   let cs←b2s (fun i=>some (i*size,size)) (rep z.cells len) parts
   some (.slc (.new H.next) 0 len len true size,newCells H cs)
  else none
 else none
def R3(op:BinOp)(k:IntKind)(a b:Int):Option AV:=
 match op with
 | .add=>some (.int k (k.wrap (a+b)))
 | .sub=>some (.int k (k.wrap (a - b)))
 | .mul=>some (.int k (k.wrap (a*b)))
 | .quo=>if b=0 then none else some (.int k (k.wrap (a.tdiv b)))
 | .rem=>if b=0 then none else some (.int k (a.tmod b))
 | .and=>some (.int k (k.wrap (BitVec.ofInt k.bits a &&& BitVec.ofInt k.bits b).toNat))
 | .or=>some (.int k (k.wrap (BitVec.ofInt k.bits a ||| BitVec.ofInt k.bits b).toNat))
 | .xor=>some (.int k (k.wrap (BitVec.ofInt k.bits a ^^^ BitVec.ofInt k.bits b).toNat))
 | .andNot=>some (.int k (k.wrap (BitVec.ofInt k.bits a &&& ~~~ BitVec.ofInt k.bits b).toNat))
 | .eql=>some (.bool (a==b))
 | .neq=>some (.bool (a != b))
 | .lss=>some (.bool (a<b))
 | .leq=>some (.bool (a≤b))
 | .gtr=>some (.bool (a>b))
 | .geq=>some (.bool (a≥b))
 | .shl| .shr=>none
def b0D(op:BinOp)(x y:List UInt8):Option AV:=
 match op with
 | .add=>if((x.length+y.length:Nat):Int)≤IntKind.i64.max then some (.str (x++y)) else none
 | .eql=>some (.bool (x==y))
 | .neq=>some (.bool !(x==y))
 | .lss=>some (.bool (Op.bytesLess x y))
 | .leq=>some (.bool (Op.bytesLess x y||x==y))
 | .gtr=>some (.bool !(Op.bytesLess x y||x==y))
 | .geq=>some (.bool !(Op.bytesLess x y))
 |_=>none
def a7E(eq:TypeId→AV→AV→Option Bool)(xs ys:List AV):List Field→Option Bool
 | []=>some true
 |f::fs=>
  if f.name≠"_" then
   match b8P P f.type xs f.offset,b8P P f.type ys f.offset with
   |some a,some b=>match eq f.type a b with
    |some true=>a7E eq xs ys fs
    |r=>r
   |_,_=>none
  else a7E eq xs ys fs
def eqA:Nat→TypeId→AV→AV→Option Bool
 |0,_,_,_=>none
 |d+1,t,x,y=>
  match P.underlying t,x,y with
  |some .bool, .bool a, .bool b=>some (a==b)
  |some (.int _), .int k a, .int k' b=>if k=k' then some (a==b) else none
  |some .string, .str a, .str b=>some (a==b)
  |some (.pointer _), .nilPtr, .nilPtr=>some true
  |some (.pointer _), .nilPtr, .ptr _ _|some (.pointer _), .ptr _ _, .nilPtr=>some false
  |some (.pointer e), .ptr o i, .ptr o' i'=>if o=o'∧E2 P e≠some 0∧(E2 P e).isSome then some (i==i') else none
  |some (.interface _), .nilIfc, .nilIfc=>some true
  |some (.interface _), .nilIfc, .ifc _ _|some (.interface _), .ifc _ _, .nilIfc=>some false
  |some (.interface _), .ifc tx vx, .ifc ty vy=>
   if tx≠ty then some false
   else match P.info? tx with
    |some i=>if i.comparable then eqA d tx vx vy else none
    |none=>none
  |some (.slice _), .nilSlc, .nilSlc=>some true
  |some (.slice _), .nilSlc, .slc .. |some (.slice _), .slc .., .nilSlc=>some false
  |some (.map _ _), .nilMap, .nilMap=>some true
  |some (.map _ _), .nilMap, .map _|some (.map _ _), .map _, .nilMap=>some false
  |some (.func ..), .nilFn, .nilFn=>some true
  |some (.func ..), .nilFn, .fn .. |some (.func ..), .fn .., .nilFn=>some false
  |some (.struct fields), .agg xs, .agg ys=>
   if P.stoodInHeld t then none else
   a7E P (fun t a b=>eqA d t a b) xs ys fields.toList
  |_,_,_=>none
def a2o(op:BinOp)(t:TypeId)(x y:Operand)(a b:AV):Bool:=
 match op with
 | .eql| .neq=>match a,b with
  | .nilIfc, .nilIfc=>Region.isConst x||Region.isConst y
  | .agg _, .agg _=> !P.eqGuardType P.depth t
  |_,_=>true
 |_=>true
def b9K(op:BinOp)(t:TypeId)(a b:AV):Option AV:=
 match a,b with
 | .int k x, .int k' y=>match op with
  | .shl=>if y<0 then none else some (.int k (k.wrap (x*2^(min y.toNat k.bits))))
  | .shr=>if y<0 then none else some (.int k (x.fdiv (2^(min y.toNat k.bits))))
  |_=>if k=k' then R3 op k x y else none
 | .str x, .str y=>b0D op x y
 |a,b=>match op with
  | .eql=>(eqA P Op.maxDepth t a b).map .bool
  | .neq=>(eqA P Op.maxDepth t a b).map fun r=> .bool !r
  |_=>none
def unA(op:UnOp)(x:AV):Option AV:=
 match op,x with
 | .neg, .int k n=>some (.int k (k.wrap (0 - n)))
 | .xor, .int k n=>some (.int k (k.wrap (BitVec.ofInt k.bits (if k.signed then -1 else k.max) ^^^ BitVec.ofInt k.bits n).toNat))
 | .not, .bool b=>some (.bool !b)
 |_,_=>none
def d2Y:AV→Option UInt8
 | .int .u8 n=>some (UInt8.ofNat n.toNat)
 |_=>none
def U7(H:AHeap)(src dst:TypeId)(x:AV):Option (AV×AHeap):=
 match P.underlying src,P.underlying dst,x with
 |some _,some (.int k), .int _ n=>some (.int k (k.wrap n),H)
 |some _,some .string, .str s=>some (.str s,H)
 |some _,some (.slice e), .str s=>match P.underlying e with
  |some (.int .u8)=>if s.length≤2^40 then some (.slc (.new H.next) 0 s.length s.length false 1,newCells H (s.map fun b=> .int .u8 b.toNat)) else none
  |_=>none
 |some (.slice _),some (.slice e), .slc (.new k) i len cap ex sz=>match P.underlying e with
  |some (.int .u8)=>if src=dst∧len≠0∧(cellsOf E H (.new k)).isSome then some (.slc (.new k) i len cap ex sz,H) else none
  |_=>none
 |some (.slice e),some .string,x=>match P.underlying e with
  |some (.int .u8)=>match x with
   | .nilSlc=>some (.str [],H)
   | .slc o i len _ _ _=>match M9 E H o i len with
    |some cs=>(cs.mapM d2Y).map fun bs=>(.str bs,H)
    |none=>none
   |_=>none
  |_=>none
 |_,_,_=>none
def a1f:AV→Option Int
 | .int _ n=>some n
 |_=>none
def U0(H:AHeap)(t:TypeId)(len cap:AV):Option (AV×AHeap):=do
 let e←b0G P t
 let size←E2 P e
 let bytes←b2M P e
 let l←a1f len
 let c←a1f cap
 let z←U3 P e
 if IntKind.i64.wrap l=l∧IntKind.i64.wrap c=c∧0≤l∧l≤c∧bytes*c≤2^47∧z.cells.length=size then
  some (.slc (.new H.next) 0 l.toNat c.toNat true size,newCells H (rep z.cells c.toNat))
 else none
def a0o(x:AV)(y:Nat):Option Nat:=
 match x with
 | .int _ i=>if 0≤i∧i≤y then some i.toNat else none
 |_=>none
def d4c(cap:Nat):Option AV→Option Nat
 |some v=>a0o v cap
 |none=>some cap
def b8q(len m:Nat):Option AV→Option AV→Option Nat
 |some v,_=>a0o v m
 |none,none=>some len
 |none,some _=>none
def d5R(h:Nat):Option AV→Option Nat
 |some v=>a0o v h
 |none=>some 0
def a5B(len cap:Nat)(low high max:Option AV):Option (Nat×Nat×Nat):=
 (d4c cap max).bind fun m=>(b8q len m high max).bind fun h=>(d5R h low).bind fun l=>some (l,h,m)
def a7I:Id→Nat→Nat→Bool
 | .old _,_,_=>true
 | .new _,sz,size=>sz==size
def a2N(H:AHeap)(t:TypeId)(x:AV)(low high max:Option AV):Option AV:=
 match P.underlying t,x with
 |some .string, .str s=>if max.isSome then none else do
  let (l,h,_)←a5B s.length s.length low high none
  some (.str ((s.drop l).take (h - l)))
 |some (.slice e), .nilSlc=>do
  let _←E2 P e
  let _←a5B 0 0 low high max
  some .nilSlc
 |some (.slice e), .slc o i len cap ex sz=>do
  let size←E2 P e
  let (l,h,m)←a5B len cap low high max
  if a7I o sz size then
   some (.slc o (i+l*size) (h - l) (m - l) (ex||max.isSome) sz)
  else none
 |some (.array n e), .ptr (.new k) i=>do
  let size←E2 P e
  let (l,h,m)←a5B n n low high max
  match H.get k with
  |some (.cells cs _ _)=>if i+n*size≤cs.length then some (.slc (.new k) (i+l*size) (h - l) (m - l) true size) else none
  |_=>none
 |_,_=>none
def a7w(s:TypeId)(field:Nat):Option Field:=match P.underlying s with
 |some (.struct fields)=>fields[field]?
 |_=>none
def a9o(s:TypeId)(x:AV)(field:Nat):Option AV:=do
 let f←a7w P s field
 match x with
 | .ptr o i=>if(E2 P f.type).isSome∧E2 P f.type≠some 0 then some (.ptr o (i+f.offset)) else none
 |_=>none
def b9C(s:TypeId)(x:AV)(field:Nat):Option AV:=do
 let f←a7w P s field
 match x with
 | .agg cs=>b8P P f.type cs f.offset
 |_=>none
def a2p(t:TypeId)(x ix:AV):Option AV:=do
 let n←a1f ix
 match P.underlying t,x with
 |some (.slice e), .slc o i len _ _ _=>do
  let size←E2 P e
  if 0≤n∧n<len then some (.ptr o (i+n.toNat*size)) else none
 |some (.array len e), .ptr o i=>do
  let size←E2 P e
  if 0≤n∧n<len then some (.ptr o (i+n.toNat*size)) else none
 |_,_=>none
def b5t(t:TypeId)(x ix:AV):Option AV:=do
 let n←a1f ix
 match P.underlying t,x with
 |some (.array len e), .agg cs=>do
  let size←E2 P e
  if 0≤n∧n<len then b8P P e cs (n.toNat*size) else none
 |some .string, .str s=>if 0≤n then(s[n.toNat]?).map fun b=> .int .u8 b.toNat else none
 |_,_=>none
def d3m:AV→AV→Option Bool
 | .int k a, .int k' b=>if k=k' then some (a==b) else none
 | .str a, .str b=>some (a==b)
 | .bool a, .bool b=>some (a==b)
 |_,_=>none
def c7t(k:AV):List (AV×AV×Nat)→Nat→Option (Option (Nat×AV×Nat))
 | [],_=>some none
 |(k',v,n)::es,i=>match d3m k k' with
  |some true=>some (some (i,v,n))
  |some false=>c7t k es (i+1)
  |none=>none
def b7m(t:TypeId)(k:AV):Bool:=match P.underlying t,k with
 |some (.int _), .int _ _|some .string, .str _|some .bool, .bool _=>true
 |_,_=>false
def b6D(H:AHeap):AV→Option (List (AV×AV×Nat))
 | .nilMap=>some []
 | .map k=>match H.get k with
  |some (.map es _)=>some es
  |_=>none
 |_=>none
def d9m(e:TypeId):Option (Option (Nat×AV×Nat))→Option (AV×Bool)
 |some (some (_,v,_))=>some (v,true)
 |some none=>(U3 P e).map fun z=>(z,false)
 |none=>none
def b0v(H:AHeap)(t:TypeId)(x ix:AV)(ok:Bool):Option AV:=
 match P.underlying t with
 |some (.map kt e)=>if b7m P kt ix then
   (b6D H x).bind fun es=>(d9m P e (c7t ix es 0)).bind fun r=>some (if ok then .tup [r.1, .bool r.2]else r.1)
  else none
 |_=>none
def a2a(H:AHeap)(t:TypeId)(m key v:AV):Option AHeap:=
 match P.underlying t,m with
 |some (.map kt _), .map k=>if b7m P kt key then match H.get k with
   |some (.map es clock)=>match c7t key es 0 with
    |some (some (i,_,n))=>some (H.set k (.map (es.set i (key,v,n)) clock))
    |some none=>some (H.set k (.map (es++[(key,v,clock)]) (clock+1)))
    |none=>none
   |_=>none
  else none
 |_,_=>none
def b1v(H:AHeap)(t:TypeId)(m key:AV):Option (AV×AHeap):=
 match P.underlying t,m with
 |some (.map kt e), .map k=>if b7m P kt key then match H.get k with
   |some (.map es clock)=>match c7t key es 0 with
    |some (some (i,v,n))=>some (.tup [v, .int .i64 n],H.set k (.map (es.set i (key,v,n)) clock))
    |some none=>match U3 P e with
     |some z=>some (.tup [z, .int .i64 clock],H.set k (.map (es++[(key,z,clock)]) (clock+1)))
     |none=>none
    |none=>none
   |_=>none
  else none
 |_,_=>none
def O7(H:AHeap)(m stamp v:AV):Option AHeap:=
 match m,stamp with
 | .map k, .int _ n=>match H.get k with
  |some (.map es clock)=>match es.findIdx? (fun e=>(e.2.2:Int)==n) with
   |some i=>match es[i]? with
    |some e=>some (H.set k (.map (es.set i (e.1,v,e.2.2)) clock))
    |none=>none
   |none=>none
  |_=>none
 |_,_=>none
def b2C(x:AV)(asserted:TypeId)(ok:Bool):Option AV:=
 match P.underlying asserted with
 |some (.interface _)=>none
 |some _=>
  let fails:Option AV:=if ok then(U3 P asserted).map fun z=> .tup [z, .bool false]else none
  match x with
  | .nilIfc=>fails
  | .ifc t v=>if t=asserted then some (if ok then .tup [v, .bool true]else v) else fails
  |_=>none
 |none=>none
def c4m(t:TypeId)(x:AV):Option Nat:=
 match P.underlying t,x with
 |some .string, .str s=>some s.length
 |some (.slice _), .nilSlc=>some 0
 |some (.slice _), .slc _ _ len _ _ _=>some len
 |some (.array n _),_=>some n
 |_,_=>none
def b0w(H:AHeap)(t:TypeId)(x:AV):Option Nat:=
 match P.underlying t,x with
 |some (.map _ _), .nilMap=>some 0
 |some (.map _ _), .map k=>match H.get k with
  |some (.map es _)=>some es.length
  |_=>none
 |_,_=>none
def d1D(t:TypeId)(x:AV):Option Nat:=
 match P.underlying t,x with
 |some (.slice _), .nilSlc=>some 0
 |some (.slice _), .slc _ _ _ cap true _=>some cap
 |some (.array n _),_=>some n
 |_,_=>none
def a0Y(H:AHeap)(size n:Nat):AV→Option (List AV)
 | .nilSlc=>some []
 | .slc o i _ _ _ _=>M9 E H o i (n*size)
 | .str s=>some ((s.take n).map fun b=> .int .u8 b.toNat)
 |_=>none
def a5b:AV→Option Nat
 | .nilSlc=>some 0
 | .slc _ _ len _ _ _=>some len
 | .str s=>some s.length
 |_=>none
def Z2(H:AHeap)(size bytes:Nat)(s:AV)(n:Nat)(news:List AV):Option (AV×AHeap):=
 if news.length=n*size then
  match s with
  | .nilSlc=>
   if n=0 then some (.nilSlc,H)
   else if 0<bytes∧(2*n+768)*bytes≤2^47 then some (.slc (.new H.next) 0 n n false size,newCells H news)
   else none
  | .slc o i len cap ex sz=>
   if n=0 then some (s,H)
   else if 0<bytes∧(2*(len+n)+768)*bytes≤2^47 then
    if ex&&cap<len+n then
     match G9 E H o i (len*size) with
     |some olds=>some (.slc (.new H.next) 0 (len+n) (len+n) false size,newCells H (olds++news))
     |none=>none
    else match o with
     | .old _=>none
     | .new k=>match H.get k with
      |some (.cells cs true pre)=>
       if sz=size∧i+len*size≤cs.length∧news.all w7 then
        if i+len*size<cs.length then
         some (.slc (.new H.next) 0 (len+n) (len+n) false size,
          (((H.killAll pre).set k (.cells (cs.take (i+len*size)) false [])).new (.cells ((cs.take (i+len*size)).drop i++news) true [k])))
        else
         some (.slc (.new H.next) 0 (len+n) (len+n) false size,
          ((H.set k (.cells cs false pre)).new (.cells (cs.drop i++news) true (k::pre))))
       else none
      |_=>none
   else none
  |_=>none
 else none
def a1T(H:AHeap)(sT:TypeId)(s:AV)(xT:TypeId)(x:AV):Option (AV×AHeap):=do
 let e←b0G P sT
 let size←E2 P e
 let bytes←b2M P e
 let z←U3 P e
 if z.cells.length=size then
  match P.underlying xT with
  |some (.int _)=>do
   let l←a1f x
   if IntKind.i64.wrap l=l∧0≤l∧l*bytes≤2^47 then Z2 E H size bytes s l.toNat (rep z.cells l.toNat) else none
  |some _=>do
   let n←a5b x
   let news←a0Y E H size n x
   Z2 E H size bytes s n news
  |none=>none
 else none
def b6T(H:AHeap)(dT:TypeId)(d x:AV):Option (AV×AHeap):=do
 let e←b0G P dT
 let size←E2 P e
 let k←a5b x
 match d with
 | .nilSlc=>some (.int .i64 0,H)
 | .slc o i len _ _ _=>
  let n:=min k len
  let news←a0Y E H size n x
  let H'←F0 H o i news
  some (.int .i64 n,H')
 |_=>none
def a5D(isMax:Bool):List AV→Option AV
 | []=>none
 |x::rest=>rest.foldlM (fun x y=>match x,y with
  | .int k a, .int _ b=>some (.int k (if isMax then(if b>a then b else a) else(if b<a then b else a)))
  |_,_=>none) x
inductive a1u where
 |val (v:AV) (H:AHeap)
 |call (f:FuncId) (args:List AV) (H:AHeap)
inductive a1N where
 |val (v:AV)
 |var (o:Id) (i:Nat)
def a1N.get(H:AHeap)(t:TypeId):a1N→Option AV
 | .val v=>some v
 | .var o i=>L7 P E H t o i
def a0y(H:AHeap):List FieldStep→TypeId→a1N→Option (TypeId×a1N)
 | [],t,x=>some (t,x)
 |s::rest,t,x=>do
  let f←a7w P s.struct s.index
  if(E2 P f.type).isSome∧E2 P f.type≠some 0 then
   if s.deref then
    match←x.get P E H t with
    | .ptr o i=>a0y H rest f.type (.var o (i+f.offset))
    |_=>none
   else match x with
    | .var o i=>a0y H rest f.type (.var o (i+f.offset))
    | .val (.agg cs)=>do a0y H rest f.type (.val (←b8P P f.type cs f.offset))
    |_=>none
  else none
def a1Y(H:AHeap)(t:TypeId)(v:AV)(name:String):Option (FuncId×AV):=do
 let info←P.info? t
 let m←info.methods.find? (·.name==name)
 let (xt,x)←a0y P E H m.path.toList t (.val v)
 let (f,ptrRecv)←m.func
 match P.underlying xt,ptrRecv,x with
 |some (.pointer _),true,x=>(x.get P E H xt).map fun r=>(f,r)
 |some (.pointer _),false,_=>none
 |some _,true, .var o i=>some (f, .ptr o i)
 |some _,true, .val _=>none
 |some _,false,x=>(x.get P E H xt).map fun r=>(f,r)
 |none,_,_=>none
def b2X(f:FuncId):Bool:=match P.funcs[f]? with
 |some fn=>fn.body.isSome&&fn.name != "runtime.NumGoroutine"
 |none=>false
def Y2(H:AHeap)(f:FuncId)(args:List AV):Option a1u:=if b2X P f then some (.call f args H) else none
def a1q(H:AHeap)(c:Call)(ρ:Operand→AV):Option a1u:=
 let args:=c.args.toList.map ρ
 match c.callee with
 | .value f=>match ρ f with
  | .fn (.func g) first captured=>Y2 P H g (first++args++captured)
  | .fn (.method name) first captured=>match captured,first++args with
   | [], .ifc t v::rest=>(a1Y P E H t v name).bind fun(g,r)=>Y2 P H g (r::rest)
   |_,_=>none
  | .fn (.via t path g pointer) first captured=>match captured,path.toList,first++args,P.underlying t with
   | [],[],x::rest,some (.pointer _)=>if pointer then Y2 P H g (x::rest) else none
   |_,_,_,_=>none
  |_=>none
 | .invoke recv name=>match ρ recv with
  | .ifc t v=>(a1Y P E H t v name).bind fun(g,r)=>Y2 P H g (r::args)
  |_=>none
 | .builtin b=>match b,args,c.argTypes.toList with
  | .append,[s,x],[sT,xT]=>(a1T P E H sT s xT x).map fun r=> .val r.1 r.2
  | .len,[x],[t]=>match c4m P t x with
   |some n=>some (.val (.int .i64 n) H)
   |none=>(b0w P H t x).map fun(n:Nat)=> .val (.int .i64 n) H
  | .cap,[x],[t]=>(d1D P t x).map fun(n:Nat)=> .val (.int .i64 n) H
  | .copy,[d,x],dT::_=>(b6T P E H dT d x).map fun r=> .val r.1 r.2
  | .min,l,_=>(a5D false l).map fun v=> .val v H
  | .max,l,_=>(a5D true l).map fun v=> .val v H
  |_,_,_=>none
def opA(T:List AV)(H:AHeap)(o:Oper):Option a1u:=
 let ρ:=p8 T
 let v (r:Option AV):Option a1u:=r.map fun x=> .val x H
 let vh (r:Option (AV×AHeap)):Option a1u:=r.map fun x=> .val x.1 x.2
 let h (r:Option AHeap):Option a1u:=r.map fun H'=> .val A8 H'
 match o.op with
 | .move x| .assign x=>some (.val (ρ x) H)
 | .pick c a b=>match ρ c with
  | .bool t=>some (.val (if t then ρ a else ρ b) H)
  |_=>none
 | .alloc e=>match U3 P e with
  |some z=>some (.val (.ptr (.new H.next) 0) (newCells H z.cells))
  |none=>none
 | .box _ x=>some (.val (.ptr (.new H.next) 0) (newCells H (ρ x).cells))
 | .build t parts=>v (b6w P t (parts.toList.map fun p=>(p.1,ρ p.2)))
 | .buildSlice t len parts=>vh (R9 P H t len (parts.toList.map fun p=>(p.1,ρ p.2)))
 | .load t a=>match ρ a with
  | .ptr o i=>v (L7 P E H t o i)
  |_=>none
 | .store t a x=>match ρ a with
  | .ptr o i=>if E2 P t=some (ρ x).cells.length then h (F0 H o i (ρ x).cells) else none
  |_=>none
 | .nilCheck x=>match ρ x with
  | .nilPtr| .nilIfc| .nilFn| .opq _=>none
  | .fn (.method _) _ _=>none
  |y=>some (.val y H)
 | .binOp op t x y _=>if a2o P op t x y (ρ x) (ρ y) then v (b9K P op t (ρ x) (ρ y)) else none
 | .unOp op _ x=>v (unA op (ρ x))
 | .convert src dst x=>vh (U7 P E H src dst (ρ x))
 | .makeInterface t x=>match P.underlying t with
  |some (.interface _)=>none
  |some _=>some (.val (.ifc t (ρ x)) H)
  |none=>none
 | .makeFunc fn first captured=>some (.val (.fn fn (first.toList.map ρ) (captured.toList.map ρ)) H)
 | .makeMap _ r=>match r with
  |none=>some (.val (.map H.next) (H.new (.map [] 0)))
  |some _=>none
 | .makeSlice t l c=>vh (U0 P H t (ρ l) (ρ c))
 | .slice t x lo hi mx=>v (a2N P H t (ρ x) (lo.map ρ) (hi.map ρ) (mx.map ρ))
 | .fieldAddr s x f=>v (a9o P s (ρ x) f)
 | .field s x f=>v (b9C P s (ρ x) f)
 | .indexAddr t x ix=>v (a2p P t (ρ x) (ρ ix))
 | .index t x ix=>v (b5t P t (ρ x) (ρ ix))
 | .lookup t x ix ok=>v (b0v P H t (ρ x) (ρ ix) ok)
 | .mapUpdate t m k x| .insert t m k x=>h (a2a P H t (ρ m) (ρ k) (ρ x))
 | .mapEntry t m k=>vh (b1v P H t (ρ m) (ρ k))
 | .entryStore _ m s x=>h (O7 H (ρ m) (ρ s) (ρ x))
 | .typeAssert x _ asserted ok=>v (b2C P (ρ x) asserted ok)
 | .extract t ix=>match ρ t with
  | .tup vs=>v (vs[ix]?)
  |_=>none
 | .call c=>a1q P E H c ρ
 |_=>none
end ops
inductive o6 where
 |normal
 |exit (id:Nat)
 |ret
 deriving DecidableEq,Repr
def K1(T:List AV)(dst:Option Tmp)(v:AV):List AV:=match dst with
 |some d=>T.set d v
 |none=>T
def a0w(ops:Array Oper)(T:List AV)(o:Oper):Option Bool:=
 match o.guard with
 |none=>some true
 |some (j,want)=>match (ops[j]?).bind (·.dst) with
  |none=>some false
  |some d=>match T[d]? with
   |some (.bool b)=>some (b==want)
   |some (.opq _)=>none
   |_=>some false
abbrev b8j:=FuncId→List AV→AHeap→Option (AV×AHeap)
section code
variable(P:Program)(E:j6)(call:b8j)
def c2z(ops:Array Oper)(T:List AV)(H:AHeap)(o:Oper):Option (AV×AHeap):=
 match a0w ops T o with
 |some true=>match opA P E T H o with
  |some (.val v H')=>some (v,H')
  |some (.call f args H')=>call f args H'
  |none=>none
 |some false=>some (A8,H)
 |none=>none
mutual
def a3A:AV→AV→Bool
 | .bool a, .bool b=>a==b
 | .int j a, .int k b=>decide (j=k)&&a==b
 | .str a, .str b=>a==b
 | .nilPtr, .nilPtr=>true
 | .ptr o i, .ptr p j=>decide (o=p)&&i==j
 | .nilSlc, .nilSlc=>true
 | .slc o i n c e z, .slc p j m d f y=>decide (o=p)&&i==j&&n==m&&c==d&&e==f&&z==y
 | .nilMap, .nilMap=>true
 | .map k, .map l=>k==l
 | .fn f a b, .fn g c d=>decide (f=g)&&c2k a c&&c2k b d
 | .nilFn, .nilFn=>true
 | .ifc t v, .ifc u w=>t==u&&a3A v w
 | .nilIfc, .nilIfc=>true
 | .agg a, .agg b=>c2k a b
 | .tup a, .tup b=>c2k a b
 |_,_=>false
def c2k:List AV→List AV→Bool
 | [],[]=>true
 |a::l,b::m=>a3A a b&&c2k l m
 |_,_=>false
end
structure r5 where
 o:Oper
 anc:Nat
 T:List AV
 v:AV
 lo:Nat
 hi:Nat
 wr:Bool
 kv:List (Nat×Option X7)
def E8:X7→List Nat
 | .cells _ _ pre=>pre
 | .map .. =>[]
def b7T(lo hi:Nat)(H:AHeap):List (Nat×Option X7):=
 ((H.log.filter fun k=>decide (k<lo))++(List.range' lo (hi - lo)).filter fun k=>(H.get k).isSome).map fun k=>(k,H.get k)
def d9w(lim:Nat):Option X7→Option X7
 |some o=>if(E8 o).all (fun p=>decide (p<lim)) then some o else none
 |none=>none
def d1t(lim:Nat):List (Nat×Option X7)→AHeap→AHeap
 | [],H=>H
 |x::l,H=>d1t lim l (if x.1<lim then{ H with objs:=H.objs.set x.1 (d9w lim x.2) } else H)
def a8H(lim:Nat)(p:Nat→r5→Bool):Nat→List r5→AHeap→AHeap
 |_,[],H=>H
 |j,d::ds,H=>a8H lim p (j+1) ds (if p j d then d1t lim d.kv H else H)
def a1A(ds:List r5):List Edge→Nat→Option Nat
 | [],m=>some m
 |e::es,m=>if Region.binds .any e then
   match ds[e.on]? with
   |some d=>a1A ds es (m ||| 2^e.on ||| d.anc)
   |none=>none
  else a1A ds es m
def b2h(p:Nat→r5→Bool):Nat→List r5→Bool
 |_,[]=>true
 |j,d::ds=>p j d&&b2h p (j+1) ds
def atN(M:AHeap)(n:Nat):AHeap:= { M with next:=n,log:=[] }
def d8N:Option X7→Option X7→Bool
 |none,none=>true
 |some (.cells a w p),some (.cells b x q)=>c2k a b&&w==x&&p==q
 |some (.map [] c),some (.map [] d)=>c==d
 |_,_=>false
def c8l:List (Nat×Option X7)→List (Nat×Option X7)→Bool
 | [],[]=>true
 |a::l,b::m=>a.1==b.1&&d8N a.2 b.2&&c8l l m
 |_,_=>false
def d2W(ops:Array Oper)(M:AHeap)(d:r5):Bool:=
 match c2z P E call ops d.T (atN M d.lo) d.o with
 |some (v,H')=>a3A d.v v&&H'.next==d.hi&&H'.log.all (fun k=>decide (d.lo≤k))&&c8l d.kv (b7T d.lo d.hi H')
 |none=>false
def d1F(ops:Array Oper)(H:AHeap)(ds:List r5)(d:r5):Bool:=
 if d.wr then
  b2h (fun j e=>d.anc.testBit j||(!e.wr&&d.kv.all (fun x=>decide (x.1<e.lo)||decide (e.hi≤x.1))&&
   d2W P E call ops (a8H e.lo (fun x f=>e.anc.testBit x||f.wr) 0 (ds++[d]) H) e)) 0 ds
 else
  b2h (fun j e=> !e.wr||d.anc.testBit j||d2W P E call ops (a8H d.lo (fun x f=>d.anc.testBit x||(f.wr&&decide (x≤j))) 0 ds H) d) 0 ds
def c1P(H:AHeap)(fn:Func)(T:List AV):Option AV:=do
 let vs←fn.results.toList.mapM fun
  | .tmp t=>some (T.getD t A8)
  | .cell a t=>match T.getD a A8 with
   | .ptr o i=>L7 P E H t o i
   |_=>none
 match vs with
 | [v]=>some v
 |vs=>some (.tup vs)
end code
end
section
theorem Trie.get_setF{α:Type}:∀(f:Nat) (t:Trie α) (k:Nat) (x:Option α),k<f→(Trie.setF f t k x).get k=x
 |0,_,_,_,h=>by omega
 |f+1,t,0,x,_=>by cases t<;>simp[Trie.setF,Trie.get]
 |f+1,t,k+1,x,h=>by
  have ih:=fun t=>Trie.get_setF f t (k / 2) x (by omega)
  cases t<;>simp only[Trie.setF]<;>split<;>simp_all [Trie.get]
theorem Trie.get_nil{α:Type}(k:Nat):(Trie.nil:Trie α).get k=none:=by simp[Trie.get]
theorem Trie.get_setF_ne{α:Type}:∀(f:Nat) (t:Trie α) (k j:Nat) (x:Option α),k≠j→(Trie.setF f t k x).get j=t.get j
 |0,_,_,_,_,_=>rfl
 |f+1,t,0,j,x,h=>by
  obtain⟨j,rfl⟩:∃i,j=i+1:=⟨j - 1,by omega⟩
  cases t<;>simp[Trie.setF,Trie.get]
 |f+1,t,k+1,0,x,h=>by cases t<;>simp only[Trie.setF]<;>split<;>simp[Trie.get]
 |f+1,t,k+1,j+1,x,h=>by
  cases t with
  |nil=>
   simp only[Trie.setF,Trie.get]
   split<;>simp only[Trie.get]<;>split
   ·rw[Trie.get_setF_ne f _ _ _ _ (by omega),Trie.get_nil]
   ·rfl
   ·rfl
   ·rw[Trie.get_setF_ne f _ _ _ _ (by omega),Trie.get_nil]
  |node v l r=>
   simp only[Trie.setF]
   split<;>simp only[Trie.get]<;>split
   ·exact Trie.get_setF_ne f _ _ _ _ (by omega)
   ·rfl
   ·rfl
   ·exact Trie.get_setF_ne f _ _ _ _ (by omega)
theorem Trie.get_set{α:Type}(t:Trie α)(k j:Nat)(x:Option α):(t.set k x).get j=if k=j then x else t.get j:=by
 unfold Trie.set
 split
 ·rename_i h;subst h;exact Trie.get_setF _ _ _ _ (by omega)
 ·rename_i h;exact Trie.get_setF_ne _ _ _ _ _ h
namespace AHeap
variable(H:AHeap)
theorem get_set(k j:Nat)(o:X7):(H.set k o).get j=if k=j then some o else H.get j:=Trie.get_set ..
theorem c8c(k j:Nat):(H.kill k).get j=if k=j then none else H.get j:=Trie.get_set ..
theorem get_new(j:Nat)(o:X7):(H.new o).get j=if H.next=j then some o else H.get j:=Trie.get_set ..
@[simp] theorem next_set(k:Nat)(o:X7):(H.set k o).next=H.next:=rfl
@[simp] theorem d0W(k:Nat):(H.kill k).next=H.next:=rfl
@[simp] theorem next_new(o:X7):(H.new o).next=H.next+1:=rfl
@[simp] theorem next_killAll(ks:List Nat):∀H:AHeap,(H.killAll ks).next=H.next:=by
 induction ks with
 |nil=>intro H;rfl
 |cons k ks ih=>intro H;rw[killAll,ih];rfl
theorem get_killAll(ks:List Nat)(j:Nat):∀H:AHeap,(H.killAll ks).get j=if j∈ks then none else H.get j:=by
 induction ks with
 |nil=>intro H;simp[killAll]
 |cons k ks ih=>
  intro H
  rw[killAll,ih,c8c]
  by_cases h:j∈ks
  ·simp[h]
  ·by_cases e:k=j<;>simp[h,e]
   intro e';exact absurd e'.symm e
end AHeap
structure Loc where
 blk:Nat
 d:Nat
 n:Nat
abbrev B7:=Nat→Option Loc
def Q3(ρ:B7):Id→Option (Nat×Nat)
 | .old b=>some (b,0)
 | .new k=>(ρ k).map fun l=>(l.blk,l.d)
def c3X(ρ:B7):Id→Nat→Prop
 | .old _,_=>True
 | .new k,e=>∃l,ρ k=some l∧l.d+e≤l.n
mutual
def rel(ρ:B7):AV→Value→Prop
 | .bool b,v=>v= .bool b
 | .int k n,v=>v= .int k n
 | .str s,v=>v= .string ⟨s.toArray⟩
 | .nilPtr,v=>v= .pointer none
 | .ptr o i,v=>∃b d,Q3 ρ o=some (b,d)∧v= .pointer (some ⟨b,d+i,none⟩)
 | .nilSlc,v=>v= .slice none 0 0
 | .slc o i len cap ex sz,v=>∃a c,v= .slice (some a) len c∧len≤c∧cap≤c∧(ex=true→c=cap)∧
   (c=0∨∃b d,Q3 ρ o=some (b,d)∧a=⟨b,d+i,none⟩)∧c3X ρ o (i+c*sz)
 | .nilMap,v=>v= .map none
 | .map k,v=>∃l,ρ k=some l∧v= .map (some l.blk)
 | .fn f a b,v=>∃x y,v= .func f x y∧w5 ρ a x.toList∧w5 ρ b y.toList
 | .nilFn,v=>v= .nilFunc
 | .ifc t a,v=>∃x,v= .iface t x∧rel ρ a x
 | .nilIfc,v=>v= .nilIface
 | .agg cs,v=>∃x,v= .agg x∧w5 ρ cs x.toList
 | .tup cs,v=>∃x,v= .tuple x∧w5 ρ cs x.toList
 | .opq u,v=>v=u
def w5(ρ:B7):List AV→List Value→Prop
 | [],l=>l=[]
 |a::as,l=>∃v vs,l=v::vs∧rel ρ a v∧w5 ρ as vs
end
def Ext(ρ ρ':B7):Prop:=∀k l,ρ k=some l→ρ' k=some l
theorem Ext.refl(ρ:B7):Ext ρ ρ:=fun _ _ h=>h
theorem Ext.trans{a b c:B7}(h:Ext a b)(h':Ext b c):Ext a c:=fun k l e=>h' k l (h k l e)
section
variable{ρ ρ':B7}
theorem c8k(h:Ext ρ ρ'){o:Id}{x:Nat×Nat}(e:Q3 ρ o=some x):Q3 ρ' o=some x:=by
 cases o with
 |old b=>exact e
 |new k=>
  simp only[Q3,Option.map_eq_some_iff]at e ⊢
  obtain⟨l,hl,rfl⟩:=e
  exact⟨l,h _ _ hl,rfl⟩
theorem d5e(h:Ext ρ ρ'){o:Id}{e:Nat}(r:c3X ρ o e):c3X ρ' o e:=by
 cases o with
 |old b=>exact r
 |new k=>obtain⟨l,hl,hr⟩:=r;exact⟨l,h _ _ hl,hr⟩
mutual
theorem c6K(h:Ext ρ ρ'):∀(a:AV) (v:Value),rel ρ a v→rel ρ' a v
 | .bool _,_,r| .int _ _,_,r| .str _,_,r| .nilPtr,_,r| .nilSlc,_,r| .nilMap,_,r| .nilFn,_,r| .nilIfc,_,r| .opq _,_,r=>by
  simpa only[rel]using r
 | .ptr o i,v,r=>by
  simp only[rel]at r ⊢
  obtain⟨b,d,e,r⟩:=r
  exact⟨b,d,c8k h e,r⟩
 | .slc o i len cap ex sz,v,r=>by
  simp only[rel]at r ⊢
  obtain⟨a,c,e,h1,h2,h3,h4,h5⟩:=r
  exact⟨a,c,e,h1,h2,h3,h4.imp id (fun⟨b,d,e,r⟩=>⟨b,d,c8k h e,r⟩),d5e h h5⟩
 | .map k,v,r=>by
  simp only[rel]at r ⊢
  obtain⟨l,e,r⟩:=r
  exact⟨l,h _ _ e,r⟩
 | .fn f a b,v,r=>by
  simp only[rel]at r ⊢
  obtain⟨x,y,e,r1,r2⟩:=r
  exact⟨x,y,e,L5 h a _ r1,L5 h b _ r2⟩
 | .ifc t a,v,r=>by
  simp only[rel]at r ⊢
  obtain⟨x,e,r⟩:=r
  exact⟨x,e,c6K h a _ r⟩
 | .agg cs,v,r=>by
  simp only[rel]at r ⊢
  obtain⟨x,e,r⟩:=r
  exact⟨x,e,L5 h cs _ r⟩
 | .tup cs,v,r=>by
  simp only[rel]at r ⊢
  obtain⟨x,e,r⟩:=r
  exact⟨x,e,L5 h cs _ r⟩
theorem L5(h:Ext ρ ρ'):∀(l:List AV) (v:List Value),w5 ρ l v→w5 ρ' l v
 | [],_,r=>by simpa only[w5]using r
 |a::l,v,r=>by
  simp only[w5]at r ⊢
  obtain⟨x,xs,e,r1,r2⟩:=r
  exact⟨x,xs,e,c6K h a _ r1,L5 h l _ r2⟩
end
theorem u9{l:List Value}:w5 ρ [] l↔l=[]:=by simp only[w5]
theorem r7{a:AV}{as:List AV}{v:Value}{vs:List Value}:w5 ρ (a::as) (v::vs)↔rel ρ a v∧w5 ρ as vs:=by
 simp only[w5]
 constructor
 ·rintro⟨x,xs,e,h1,h2⟩;cases e;exact⟨h1,h2⟩
 ·rintro⟨h1,h2⟩;exact⟨v,vs,rfl,h1,h2⟩
theorem A6{a:AV}{as:List AV}:¬w5 ρ (a::as) []:=by
 simp only[w5];rintro⟨_,_,e,_⟩;cases e
theorem c2s{v:Value}{vs:List Value}:¬w5 ρ [] (v::vs):=by simp only[w5];intro e;cases e
theorem B2:∀ {as:List AV} {vs:List Value},w5 ρ as vs→as.length=vs.length
 | [],[],_=>rfl
 | [],_::_,h=>(c2s h).elim
 |_::_,[],h=>(A6 h).elim
 |_::_,_::_,h=>by simp[B2 (r7.1 h).2]
theorem a8b:∀ {as:List AV} {vs:List Value} (_:w5 ρ as vs) (i:Nat) {a:AV},as[i]? =some a→∃v,vs[i]? =some v∧rel ρ a v
 | [],_,_,i,a,h=>by simp at h
 |_::_,[],r,_,_,_=>(A6 r).elim
 |a::as,v::vs,r,0,b,h=>by
  simp at h;subst h;exact⟨v,rfl,(r7.1 r).1⟩
 |a::as,v::vs,r,i+1,b,h=>by
  simp at h
  obtain⟨u,hu,hr⟩:=a8b (r7.1 r).2 i h
  exact⟨u,by simpa using hu,hr⟩
theorem W9{as bs:List AV}{vs ws:List Value}(h:w5 ρ as vs)(h':w5 ρ bs ws):w5 ρ (as++bs) (vs++ws):=by
 induction as generalizing vs with
 |nil=>rw[u9]at h;subst h;exact h'
 |cons a as ih=>
  cases vs with
  |nil=>exact(A6 h).elim
  |cons v vs=>rw[r7]at h;exact r7.2 ⟨h.1,ih h.2⟩
theorem b1Z{as:List AV}{vs:List Value}(h:w5 ρ as vs)(n:Nat):w5 ρ (as.take n) (vs.take n):=by
 induction as generalizing vs n with
 |nil=>rw[u9]at h;subst h;simp[u9]
 |cons a as ih=>
  cases vs with
  |nil=>exact(A6 h).elim
  |cons v vs=>
   cases n with
   |zero=>simp[u9]
   |succ n=>rw[r7]at h;exact r7.2 ⟨h.1,ih h.2 n⟩
theorem c3F{as:List AV}{vs:List Value}(h:w5 ρ as vs)(n:Nat):w5 ρ (as.drop n) (vs.drop n):=by
 induction as generalizing vs n with
 |nil=>rw[u9]at h;subst h;simp[u9]
 |cons a as ih=>
  cases vs with
  |nil=>exact(A6 h).elim
  |cons v vs=>
   cases n with
   |zero=>exact h
   |succ n=>rw[r7]at h;exact ih h.2 n
theorem d3C{as:List AV}{vs:List Value}(h:w5 ρ as vs)(n:Nat){a:AV}{v:Value}(hv:rel ρ a v):w5 ρ (as.set n a) (vs.set n v):=by
 induction as generalizing vs n with
 |nil=>rw[u9]at h;subst h;simp[u9]
 |cons b as ih=>
  cases vs with
  |nil=>exact(A6 h).elim
  |cons u vs=>
   rw[r7]at h
   cases n with
   |zero=>exact r7.2 ⟨hv,h.2⟩
   |succ n=>exact r7.2 ⟨h.1,ih h.2 n⟩
theorem c9y{P:AV→Prop}{Q:Value→Prop}(hpq:∀a v,rel ρ a v→P a→Q v):∀ {as:List AV} {vs:List Value},w5 ρ as vs→(∀a∈as,P a)→∀v∈vs,Q v
 | [],[],_,_=>by simp
 | [],_::_,h,_=>(c2s h).elim
 |_::_,[],h,_=>(A6 h).elim
 |a::as,v::vs,h,hp=>by
  rw[r7]at h
  intro u hu
  rcases List.mem_cons.1 hu with rfl|hu
  ·exact hpq _ _ h.1 (hp a (by simp))
  ·exact c9y hpq h.2 (fun b hb=>hp b (by simp[hb])) u hu
theorem b9U(v:Value):rel ρ (c2P v) v:=by
 unfold c2P
 split<;>simp[rel]
theorem c4t:∀l:List Value,w5 ρ (l.map c2P) l
 | []=>u9.2 rfl
 |v::l=>r7.2 ⟨b9U v,c4t l⟩
theorem c3V(v:Value):rel ρ (d3M v) v:=by
 unfold d3M
 split
 ·rename_i cs;simp only[rel];exact⟨cs,rfl,c4t _⟩
 ·simp only[rel];exact⟨_,rfl,u9.2 rfl⟩
 ·exact b9U _
theorem a5g:rel ρ A8 undef:=by
 simp only[A8,undef,rel];exact⟨_,rfl,u9.2 rfl⟩
theorem d3J:∀l:List Value,w5 ρ (l.map .opq) l
 | []=>u9.2 rfl
 |v::l=>r7.2 ⟨by simp only[rel],d3J l⟩
theorem a3E{a:AV}{v:Value}(h:rel ρ a v):w5 ρ a.cells v.cells.toList:=by
 have key:∀(a:AV) (v:Value),rel ρ a v→a.cells=[a]→v.cells= #[v]→w5 ρ a.cells v.cells.toList:=by
  intro a v h h1 h2
  rw[h1,h2]
  exact r7.2 ⟨h,u9.2 rfl⟩
 cases a
 case agg cs=>simp only[rel]at h;obtain⟨x,rfl,r⟩:=h;exact r
 case opq u=>simp only[rel]at h;subst h;exact d3J _
 all_goals
  refine key _ _ h rfl ?_
  simp only[rel]at h
  first
   |(obtain⟨a,c,rfl,_⟩:=h;rfl)
   |(obtain⟨x,y,rfl,_⟩:=h;rfl)
   |(obtain⟨x,rfl,_⟩:=h;rfl)
   |(obtain⟨l,h0,rfl⟩:=h;rfl)
   |(obtain⟨b,d,h0,rfl⟩:=h;rfl)
   |(subst h;rfl)
theorem d5J{a:AV}{v:Value}(h:rel ρ a v)(hs:w7 a=true):¬(∃x,v= .agg x)∧¬(∃x,v= .tuple x):=by
 cases a<;>simp only[rel]at h<;>simp only[w7,Bool.false_eq_true]at hs
 case opq u=>subst h;cases v<;>simp_all
 all_goals
  first
   |(obtain⟨a,c,rfl,_⟩:=h)
   |(obtain⟨x,y,rfl,_⟩:=h)
   |(obtain⟨x,rfl,_⟩:=h)
   |(obtain⟨l,h0,rfl⟩:=h)
   |(obtain⟨b,d,h0,rfl⟩:=h)
   |(subst h)
  simp
end
end
section
def c3C:X7→Bool
 | .cells _ wr _=>wr
 | .map _ _=>true
def a4o:X7→Nat
 | .cells cs _ _=>cs.length
 | .map _ _=>0
def a4J(ρ:B7):List (AV×AV×Nat)→List MapEntry→Prop
 | [],l=>l=[]
 |(k,v,n)::es,l=>∃e r,l=e::r∧rel ρ k e.key∧rel ρ v e.val∧e.born=n∧a4J ρ es r
def c7W(ρ:B7)(w:World)(l:Loc):X7→Prop
 | .cells cs wr _=>∃arr el lo hi,w.heap[l.blk]? =some (.cells arr el (lo,hi))∧arr.size=l.n∧l.d+cs.length≤l.n∧
   w5 ρ cs ((arr.toList.drop l.d).take cs.length)∧(wr=true→lo=hi∨l.n≤lo)
 | .map es clock=>∃mes,w.heap[l.blk]? =some (.map mes clock)∧a4J ρ es mes.toList
structure K9 (E:j6) (w0:World) (H:AHeap) (w:World) (ρ:B7):Prop where
 size:w0.heap.size≤w.heap.size
 old:∀b,b<w0.heap.size→w.heap[b]? =w0.heap[b]?
 env:∀b cs,E b=some cs→b<w0.heap.size∧∃arr el fr,w0.heap[b]? =some (.cells arr el fr)∧w5 (fun _=>none) cs arr.toList
 side:w.os=w0.os∧w.output=w0.output
 objs:∀k o,H.get k=some o→∃l,ρ k=some l∧w0.heap.size≤l.blk∧c7W ρ w l o
 apart:∀k k' o o' l l',H.get k=some o→H.get k'=some o'→ρ k=some l→ρ k'=some l'→k≠k'→l.blk=l'.blk→k∈E8 o'∨k'∈E8 o
 pres:∀k o,H.get k=some o→∀p∈E8 o,p≠k∧(ρ p).isSome
 kin:∀k p o op l lp,H.get k=some o→p∈E8 o→H.get p=some op→ρ k=some l→ρ p=some lp→c3C op=false∧(lp.blk=l.blk→lp.d+a4o op≤l.d+a4o o)
def E1(w:World)(b:Nat)(o:Obj):World:= { w with heap:=w.heap.setIfInBounds b o }
section
variable{E:j6}{w0:World}{H:AHeap}{w:World}{ρ ρ':B7}
theorem d4s(h:Ext ρ ρ'):∀ {es:List (AV×AV×Nat)} {l:List MapEntry},a4J ρ es l→a4J ρ' es l
 | [],_,r=>r
 |(_,_,_)::_,_,⟨e,r,h1,h2,h3,h4,h5⟩=>⟨e,r,h1,c6K h _ _ h2,c6K h _ _ h3,h4,d4s h h5⟩
theorem c3z(h:Ext ρ ρ'){l:Loc}{o:X7}{w:World}(r:c7W ρ w l o):c7W ρ' w l o:=by
 cases o with
 |cells cs wr pre=>obtain⟨arr,el,lo,hi,h1,h2,h3,h4,h5⟩:=r;exact⟨arr,el,lo,hi,h1,h2,h3,L5 h _ _ h4,h5⟩
 |map es clock=>obtain⟨mes,h1,h2⟩:=r;exact⟨mes,h1,d4s h h2⟩
theorem a3s{l:Loc}{o:X7}{w w':World}(r:c7W ρ w l o)(e:w'.heap[l.blk]? =w.heap[l.blk]?):c7W ρ w' l o:=by
 cases o<;>simp only[c7W]at r ⊢ <;>rw[e]<;>exact r
theorem b2m{l:Loc}{o:X7}{w:World}(r:c7W ρ w l o):l.blk<w.heap.size:=by
 cases o with
 |cells cs wr pre=>obtain⟨arr,el,lo,hi,h1,_⟩:=r;exact(Array.getElem?_eq_some_iff.1 h1).1
 |map es clock=>obtain⟨mes,h1,_⟩:=r;exact(Array.getElem?_eq_some_iff.1 h1).1
theorem K9.cells(R:K9 E w0 H w ρ){o:Id}{cs:List AV}(h:cellsOf E H o=some cs):
  ∃b d arr el fr,Q3 ρ o=some (b,d)∧w.heap[b]? =some (.cells arr el fr)∧d+cs.length≤arr.size∧w5 ρ cs ((arr.toList.drop d).take cs.length):=by
 cases o with
 |old b=>
  obtain⟨hb,arr,el,fr,h1,h2⟩:=R.env b cs h
  have hl:=B2 h2
  refine⟨b,0,arr,el,fr,rfl,by rw[R.old b hb,h1],by simp[hl], ?_⟩
  simp only[List.drop_zero]
  rw[List.take_of_length_le (by omega)]
  exact L5 (fun _ _ e=>by cases e) _ _ h2
 |new k=>
  simp only[cellsOf]at h
  split at h
  ·rename_i cs' wr pre hk
   cases h
   obtain⟨l,hl,_,arr,el,lo,hi,h1,h2,h3,h4,_⟩:=R.objs k _ hk
   exact⟨l.blk,l.d,arr,el,(lo,hi),by simp[Q3,hl],h1,by omega,h4⟩
  ·cases h
theorem Addr.add_plain(b o n:Nat):(⟨b,o,none⟩:Addr).add n=⟨b,o+n,none⟩:=by unfold Addr.add;split<;>simp_all
theorem b5r{b i:Nat}{arr:Array Value}{el:TypeId}{fr:Nat×Nat}(h:w.heap[b]? =some (.cells arr el fr)):
  w.cell? ⟨b,i,none⟩=arr[i]? :=by simp[World.cell?,h]
theorem d0h{b i:Nat}{arr:Array Value}{el:TypeId}{lo hi:Nat}(h:w.heap[b]? =some (.cells arr el (lo,hi))):
  w.frozen? ⟨b,i,none⟩=(decide (lo≤i)&&decide (i<hi)):=by simp[World.frozen?,h]
theorem d0p{b i:Nat}{v:Value}{arr:Array Value}{el:TypeId}{fr:Nat×Nat}(h:w.heap[b]? =some (.cells arr el fr)):
  w.setCell ⟨b,i,none⟩ v=E1 w b (.cells (arr.setIfInBounds i v) el fr):=by
 obtain⟨hb,hv⟩:=Array.getElem?_eq_some_iff.1 h
 cases w with
 |mk heap tape drawn os output=>
  simp only[World.setCell,E1,World.mk.injEq,and_true]
  apply Array.ext_getElem?
  intro j
  simp only[Array.getElem?_modify,Array.getElem?_setIfInBounds]
  split
  ·rename_i e;subst e
   simp only at hb h
   rw[h];rfl
  ·rfl
theorem C1(b j:Nat)(o:Obj)(hb:b<w.heap.size):(E1 w b o).heap[j]? =if b=j then some o else w.heap[j]? :=by
 simp only[E1,Array.getElem?_setIfInBounds,hb,if_true]
theorem a5M(b:Nat)(o:Obj):(E1 w b o).heap.size=w.heap.size:=by simp[E1]
theorem c1g(b:Nat)(o o':Obj):E1 (E1 w b o) b o'=E1 w b o':=by
 cases w;simp[E1]
theorem d3E{α:Type}(l:List α)(d i n:Nat)(h:i<n):((l.drop d).take n)[i]? =l[d+i]? :=by
 rw[List.getElem?_take,if_pos h,List.getElem?_drop]
theorem K9.load(R:K9 E w0 H w ρ){o:Id}{i:Nat}{a:AV}(h:a8Y E H o i=some a):
  ∃b d v,Q3 ρ o=some (b,d)∧w.cell? ⟨b,d+i,none⟩=some v∧rel ρ a v:=by
 unfold a8Y at h
 split at h
 ·rename_i cs hc
  obtain⟨b,d,arr,el,fr,h1,h2,h3,h4⟩:=R.cells hc
  obtain⟨v,hv,hr⟩:=a8b h4 i h
  have hi:i<cs.length:=(List.getElem?_eq_some_iff.1 h).1
  rw[d3E _ _ _ _ hi]at hv
  exact⟨b,d,v,h1,by rw[b5r h2];simpa using hv,hr⟩
 ·cases h
theorem K9.loads(R:K9 E w0 H w ρ){P:Program}{o:Id}{i n:Nat}{as:List AV}(h:G9 E H o i n=some as):
  ∃b d vs,Q3 ρ o=some (b,d)∧(∀w',w'.heap=w.heap→(loadCells ⟨b,d+i,none⟩ n).run P w'= .ok ⟨vs⟩ w')∧w5 ρ as vs∧as.length=n:=by
 unfold G9 at h
 split at h
 ·rename_i cs hc
  split at h
  ·rename_i hn
   cases h
   obtain⟨b,d,arr,el,fr,h1,h2,h3,h4⟩:=R.cells hc
   have hl:=B2 h4
   refine⟨b,d,(arr.toList.drop (d+i)).take n,h1,fun w' hw=> ?_, ?_,by simp;omega⟩
   ·have h2:w'.heap[b]? =some (.cells arr el fr):=by rw[hw];exact h2
    have hlen:((arr.toList.drop (d+i)).take n).length=n:=by simp;omega
    have:=run_loadCells_list (P:=P) w' ⟨b,d+i,none⟩ ((arr.toList.drop (d+i)).take n) (fun j v hj=>by
     have hjn:j<n:=by have:=(List.getElem?_eq_some_iff.1 hj).1;omega
     rw[Addr.add_plain,b5r h2]
     rw[d3E _ _ _ _ hjn]at hj
     simpa using hj)
    rw[hlen]at this
    rw[this]
   ·have:=b1Z (c3F h4 i) n
    rw[List.drop_take,List.drop_drop,List.take_take,Nat.min_eq_left (by omega)]at this
    exact this
  ·cases h
 ·cases h
def P9:Array Value→Nat→List Value→Array Value
 |a,_,[]=>a
 |a,i,v::vs=>P9 (a.setIfInBounds i v) (i+1) vs
theorem X8:∀(vs:List Value) (a:Array Value) (i:Nat),(P9 a i vs).size=a.size
 | [],_,_=>rfl
 |v::vs,a,i=>by rw[P9,X8 vs];simp
theorem a7G:∀(vs cs:List AV) (i:Nat),(G3 cs i vs).length=cs.length
 | [],_,_=>rfl
 |v::vs,cs,i=>by rw[G3,a7G vs];simp
theorem b6k{a:AV}{v:Value}(h:rel ρ a v)(hs:w7 a=true):v.oneCell'=true:=by
 have:=d5J h hs
 cases v<;>simp_all [Value.oneCell']
theorem a1J{P:Program}(b off:Nat)(el:TypeId)(lo hi:Nat):∀(vs:List Value) (i:Nat) (w:World) (arr:Array Value),
  w.heap[b]? =some (.cells arr el (lo,hi))→off+i+vs.length≤arr.size→(lo=hi∨arr.size≤lo)→(∀v∈vs,v.oneCell'=true)→
  (storeCells ⟨b,off,none⟩ vs i).run P w= .ok () (E1 w b (.cells (P9 arr (off+i) vs) el (lo,hi)))
 | [],i,w,arr,h,_,_,_=>by
  simp only[storeCells,Sem.run_pure,P9]
  congr 1
  obtain⟨hb,hv⟩:=Array.getElem?_eq_some_iff.1 h
  cases w with
  |mk heap tape drawn os output=>
   simp only[E1,World.mk.injEq,and_true]
   apply Array.ext_getElem?
   intro j
   simp only[Array.getElem?_setIfInBounds]
   split
   ·rename_i e;subst e
    simp only at hb h
    rw[h]
   ·rfl
 |v::vs,i,w,arr,h,hn,hf,hv=>by
  have hb:=(Array.getElem?_eq_some_iff.1 h).1
  simp only[List.length_cons]at hn
  have hc:w.cell? ⟨b,off+i,none⟩=some (arr[off+i]'(by omega)):=by rw[b5r h];simp
  have hfz:w.frozen? ⟨b,off+i,none⟩=false:=by
   rw[d0h h]
   rcases hf with e|e
   ·subst e;simp only[Bool.and_eq_false_iff,decide_eq_false_iff_not];omega
   ·simp only[Bool.and_eq_false_iff,decide_eq_false_iff_not];omega
  have hst:(store ((⟨b,off,none⟩:Addr).add i) v).run P w= .ok () (E1 w b (.cells (arr.setIfInBounds (off+i) v) el (lo,hi))):=by
   rw[Addr.add_plain,run_store P w _ v _ (hv v (by simp)),hc]
   simp only[hfz,d0p h]
   rfl
  rw[storeCells]
  simp only[Sem.run_bind,hst,Result.andThen_ok]
  rw[a1J b off el lo hi vs (i+1) _ (arr.setIfInBounds (off+i) v) (by rw[C1 _ _ _ hb];simp) (by simp;omega) (by simpa using hf) (fun u hu=>hv u (by simp[hu])),c1g]
  rfl
theorem b2U:∀ {as:List AV} {vs:List Value} {cs:List AV} {arr:Array Value} {d:Nat} (i:Nat),w5 ρ as vs→i+as.length≤cs.length→
  w5 ρ cs ((arr.toList.drop d).take cs.length)→w5 ρ (G3 cs i as) (((P9 arr (d+i) vs).toList.drop d).take cs.length)
 | [],vs,cs,arr,d,i,h,_,hc=>by rw[u9]at h;subst h;exact hc
 |a::as,[],_,_,_,_,h,_,_=>(A6 h).elim
 |a::as,v::vs,cs,arr,d,i,h,hn,hc=>by
  rw[r7]at h
  simp only[List.length_cons]at hn
  have h1:w5 ρ (cs.set i a) (((arr.setIfInBounds (d+i) v).toList.drop d).take (cs.set i a).length):=by
   have:=d3C hc i h.1
   rw[List.length_set,Array.toList_setIfInBounds,List.drop_set,if_neg (by omega),List.take_set,show d+i - d=i by omega]
   exact this
  have:=b2U (d:=d) (i+1) h.2 (by simp;omega) h1
  rw[List.length_set]at this
  exact this
def upd(ρ:B7)(k:Nat)(l:Loc):B7:=fun j=>if j=k then some l else ρ j
theorem U5(k:Nat)(l:Loc):upd ρ k l k=some l:=by simp[upd]
theorem J4{k j:Nat}(l:Loc)(h:j≠k):upd ρ k l j=ρ j:=by simp[upd,h]
theorem b0n{k:Nat}(l:Loc)(h:ρ k=none):Ext ρ (upd ρ k l):=by
 intro j m e
 rw[J4]
 ·exact e
 ·rintro rfl;rw[h]at e;cases e
theorem K9.heap_eq(R:K9 E w0 H w ρ){w':World}(h:w'.heap=w.heap)(h2:w'.os=w.os∧w'.output=w.output:=by exact⟨rfl,rfl⟩):K9 E w0 H w' ρ where
 size:=by rw[h];exact R.size
 old:=by rw[h];exact R.old
 env:=R.env
 side:=⟨h2.1.trans R.side.1,h2.2.trans R.side.2⟩
 objs k o e:=let ⟨l,h1,h2,h3⟩:=R.objs k o e;⟨l,h1,h2,a3s h3 (by rw[h])⟩
 apart:=R.apart
 pres:=R.pres
 kin:=R.kin
theorem K9.log_eq(R:K9 E w0 H w ρ){H':AHeap}(h:H'.objs=H.objs):K9 E w0 H' w ρ:=by
 have e:∀k,H'.get k=H.get k:=fun k=>by simp[AHeap.get,h]
 exact⟨R.size,R.old,R.env,R.side,fun k o hk=>R.objs k o (by rw[←e];exact hk),fun k k' o o' l l' h1 h2=>R.apart k k' o o' l l' (by rw[←e];exact h1) (by rw[←e];exact h2),
  fun k o hk=>R.pres k o (by rw[←e];exact hk),fun k p o op l lp h1 h2 h3=>R.kin k p o op l lp (by rw[←e];exact h1) h2 (by rw[←e];exact h3)⟩
theorem K9.get_none(R:K9 E w0 H w ρ){k:Nat}(h:ρ k=none):H.get k=none:=by
 cases e:H.get k with
 |none=>rfl
 |some o=>obtain⟨l,hl,_⟩:=R.objs k o e;rw[h]at hl;cases hl
theorem K9.less(R:K9 E w0 H w ρ){H':AHeap}(h:∀k o,H'.get k=some o→∃o',H.get k=some o'∧(o'=o∨
   ∃cs wr pre m pre',o'= .cells cs wr pre∧o= .cells (cs.take m) false pre'∧(pre'=pre∧cs.length≤m∨pre'=[]∧∀p∈pre,H'.get p=none)))
  :K9 E w0 H' w ρ:=by
 have inv:∀k o,H'.get k=some o→∃o',H.get k=some o'∧a4o o≤a4o o'∧(c3C o=true→c3C o'=true)∧(∀p∈E8 o,p∈E8 o')∧
   ((∀p∈E8 o',p∈E8 o)∧a4o o=a4o o'∨E8 o=[]∧∀p∈E8 o',H'.get p=none):=by
  intro k o hk
  obtain⟨o',h1,h2⟩:=h k o hk
  refine⟨o',h1, ?_⟩
  rcases h2 with rfl|⟨cs,wr,pre,m,pre',rfl,rfl,h3⟩
  ·exact⟨Nat.le_refl _,id,fun _ h=>h, .inl ⟨fun _ h=>h,rfl⟩⟩
  ·rcases h3 with ⟨rfl,hm⟩|⟨rfl,hp⟩
   ·refine⟨by simp[a4o];omega,by simp[c3C],fun _ h=>h, .inl ⟨fun _ h=>h,by simp[a4o];omega⟩⟩
   ·exact⟨by simp[a4o];omega,by simp[c3C],by simp[E8], .inr ⟨rfl,hp⟩⟩
 refine⟨R.size,R.old,R.env,R.side, ?_, ?_, ?_, ?_⟩
 ·intro k o hk
  obtain⟨o',h1,h2⟩:=h k o hk
  obtain⟨l,hl,hs,ho⟩:=R.objs k o' h1
  refine⟨l,hl,hs, ?_⟩
  rcases h2 with rfl|⟨cs,wr,pre,m,pre',rfl,rfl,_⟩
  ·exact ho
  ·obtain⟨arr,el,lo,hi,g1,g2,g3,g4,_⟩:=ho
   refine⟨arr,el,lo,hi,g1,g2,by simp;omega, ?_,by simp⟩
   have:=b1Z g4 m
   rw[List.take_take]at this
   rwa [List.length_take]
 ·intro k k' o o' l l' h1 h2 h3 h4 h5 h6
  obtain⟨p,hp,_,_,_,hp4⟩:=inv k o h1
  obtain⟨p',hp',_,_,_,hp4'⟩:=inv k' o' h2
  rcases R.apart k k' p p' l l' hp hp' h3 h4 h5 h6 with e|e
  ·rcases hp4' with ⟨g,_⟩|⟨_,g⟩
   ·exact .inl (g _ e)
   ·rw[g _ e]at h1;cases h1
  ·rcases hp4 with ⟨g,_⟩|⟨_,g⟩
   ·exact .inr (g _ e)
   ·rw[g _ e]at h2;cases h2
 ·intro k o hk p hp
  obtain⟨o',h1,_,_,h4,_⟩:=inv k o hk
  exact R.pres k o' h1 p (h4 p hp)
 ·intro k p o op l lp h1 h2 h3 h4 h5
  obtain⟨o',g1,g2,g3,g4,g5⟩:=inv k o h1
  obtain⟨op',k1,k2,k3,k4,k5⟩:=inv p op h3
  obtain⟨a,b⟩:=R.kin k p o' op' l lp g1 (g4 p h2) k1 h4 h5
  refine⟨?_, ?_⟩
  ·cases e:c3C op with
   |false=>rfl
   |true=>rw[k3 e]at a;cases a
  ·intro e
   have:=b e
   rcases g5 with ⟨_,g⟩|⟨g,_⟩
   ·omega
   ·rw[g]at h2;cases h2
theorem K9.new(R:K9 E w0 H w ρ)(hk:ρ H.next=none){cs:List AV}{arr:Array Value}{el:TypeId}{lo hi:Nat}{wr:Bool}{pre:List Nat}
  (hl:cs.length≤arr.size) (hr:w5 ρ cs (arr.toList.take cs.length)) (hf:wr=true→lo=hi∨arr.size≤lo)
  (hp:∀p∈pre,(ρ p).isSome∧∀op,H.get p=some op→c3C op=false):
  K9 E w0 (H.new (.cells cs wr pre)) { w with heap:=w.heap.push (.cells arr el (lo,hi)) } (upd ρ H.next ⟨w.heap.size,0,arr.size⟩):=by
 have hx:=b0n (ρ:=ρ) ⟨w.heap.size,0,arr.size⟩ hk
 have hn:=R.get_none hk
 have hg:∀k o,(H.new (.cells cs wr pre)).get k=some o→(k=H.next∧o= .cells cs wr pre)∨(k≠H.next∧H.get k=some o):=by
  intro k o e
  rw[AHeap.get_new]at e
  split at e
  ·rename_i h;cases e;exact .inl ⟨h.symm,rfl⟩
  ·rename_i h;exact .inr ⟨fun h'=>h h'.symm,e⟩
 have hpush:∀b,b<w.heap.size→(w.heap.push (.cells arr el (lo,hi)))[b]? =w.heap[b]? :=by
  intro b hb;rw[Array.getElem?_push];split
  ·omega
  ·rfl
 refine⟨by have:=R.size;simp;omega, ?_,R.env,R.side, ?_, ?_, ?_, ?_⟩
 ·intro b hb;rw[hpush b (by have:=R.size;omega)];exact R.old b hb
 ·intro k o e
  rcases hg k o e with ⟨rfl,rfl⟩|⟨h1,h2⟩
  ·refine⟨_,U5 _ _,R.size,arr,el,lo,hi,by simp,rfl,by simpa using hl, ?_,hf⟩
   simp only[List.drop_zero]
   exact L5 hx _ _ hr
  ·obtain⟨l,hl,hs,ho⟩:=R.objs k o h2
   exact⟨l,by rw[J4 _ h1];exact hl,hs,c3z hx (a3s ho (hpush _ (b2m ho)))⟩
 ·intro k k' o o' l l' h1 h2 h3 h4 h5 h6
  rcases hg k o h1 with ⟨rfl,rfl⟩|⟨g1,g2⟩<;>rcases hg k' o' h2 with ⟨rfl,rfl⟩|⟨g1',g2'⟩
  ·exact absurd rfl h5
  ·rw[U5]at h3;rw[J4 _ g1']at h4
   obtain⟨m,hm,_,ho⟩:=R.objs k' o' g2'
   rw[h4]at hm;cases hm;cases h3
   have:=b2m ho
   simp only at h6;omega
  ·rw[U5]at h4;rw[J4 _ g1]at h3
   obtain⟨m,hm,_,ho⟩:=R.objs k o g2
   rw[h3]at hm;cases hm;cases h4
   have:=b2m ho
   simp only at h6;omega
  ·rw[J4 _ g1]at h3;rw[J4 _ g1']at h4
   exact R.apart k k' o o' l l' g2 g2' h3 h4 h5 h6
 ·intro k o e p hpp
  rcases hg k o e with ⟨rfl,rfl⟩|⟨h1,h2⟩
  ·have:=(hp p hpp).1
   refine⟨fun e=> ?_, ?_⟩
   ·subst e;rw[hk]at this;cases this
   ·obtain⟨m,hm⟩:=Option.isSome_iff_exists.1 this
    rw[hx _ _ hm];rfl
  ·obtain⟨a,b⟩:=R.pres k o h2 p hpp
   obtain⟨m,hm⟩:=Option.isSome_iff_exists.1 b
   exact⟨a,by rw[hx _ _ hm];rfl⟩
 ·intro k p o op l lp h1 h2 h3 h4 h5
  rcases hg k o h1 with ⟨rfl,rfl⟩|⟨g1,g2⟩
  ·have hpn:p≠H.next:=by
    rintro rfl
    have:=(hp _ h2).1
    rw[hk]at this;cases this
   rcases hg p op h3 with ⟨e,_⟩|⟨_,g2'⟩
   ·exact absurd e hpn
   ·refine⟨(hp p h2).2 op g2',fun e=> ?_⟩
    rw[U5]at h4;rw[J4 _ hpn]at h5
    obtain⟨m,hm,_,ho⟩:=R.objs p op g2'
    rw[h5]at hm;cases hm;cases h4
    have:=b2m ho
    simp only at e;omega
  ·rcases hg p op h3 with ⟨rfl,_⟩|⟨g1',g2'⟩
   ·have:=(R.pres k o g2 _ h2).2
    rw[hk]at this;cases this
   ·rw[J4 _ g1]at h4;rw[J4 _ g1']at h5
    exact R.kin k p o op l lp g2 h2 g2' h4 h5
theorem K9.alone(R:K9 E w0 H w ρ){k j:Nat}{o oj:X7}{l lj:Loc}(hk:H.get k=some o)(hw:c3C o=true)(hl:ρ k=some l)
  (hj:H.get j=some oj) (hlj:ρ j=some lj) (hne:j≠k) (hb:lj.blk=l.blk):j∈E8 o:=by
 rcases R.apart j k oj o lj l hj hk hlj hl hne hb with e|e
 ·exact e
 ·have:=(R.kin j k oj o lj l hj e hk hlj hl).1
  rw[hw]at this;cases this
theorem K9.write(R:K9 E w0 H w ρ){k:Nat}{cs:List AV}{pre:List Nat}{l:Loc}{arr arr':Array Value}{el:TypeId}{lo hi:Nat}{cs':List AV}
  (hk:H.get k=some (.cells cs true pre)) (hl:ρ k=some l) (hb:w.heap[l.blk]? =some (.cells arr el (lo,hi)))
  (hs:arr'.size=arr.size) (hc:cs'.length=cs.length) (hr:w5 ρ cs' ((arr'.toList.drop l.d).take cs'.length)):
  K9 E w0 ((H.killAll pre).set k (.cells cs' true [])) (E1 w l.blk (.cells arr' el (lo,hi))) ρ:=by
 have hblk:=(Array.getElem?_eq_some_iff.1 hb).1
 obtain⟨l',hl',hbase,arr0,el0,lo0,hi0,e0,e1,e2,e3,e4⟩:=R.objs k _ hk
 rw[hl]at hl';cases hl'
 rw[hb]at e0;cases e0
 have hg:∀j o,((H.killAll pre).set k (.cells cs' true [])).get j=some o→(j=k∧o= .cells cs' true [])∨(j≠k∧j ∉ pre∧H.get j=some o):=by
  intro j o e
  rw[AHeap.get_set]at e
  split at e
  ·rename_i h;cases e;exact .inl ⟨h.symm,rfl⟩
  ·rename_i h
   rw[AHeap.get_killAll]at e
   split at e
   ·cases e
   ·rename_i h';exact .inr ⟨fun h'=>h h'.symm,h',e⟩
 have hoth:∀j o lj,j≠k→j ∉ pre→H.get j=some o→ρ j=some lj→lj.blk≠l.blk:=fun j o lj h1 h2 h3 h4 h5=>
  h2 (R.alone hk rfl hl h3 h4 h1 h5)
 refine⟨by rw[a5M];exact R.size, ?_,R.env,R.side, ?_, ?_, ?_, ?_⟩
 ·intro b hbb;rw[C1 _ _ _ hblk,if_neg (by omega)];exact R.old b hbb
 ·intro j o e
  rcases hg j o e with ⟨rfl,rfl⟩|⟨h1,h2,h3⟩
  ·exact⟨l,hl,hbase,arr',el,lo,hi,by rw[C1 _ _ _ hblk,if_pos rfl],by omega,by omega,hr,e4⟩
  ·obtain⟨lj,hlj,hsj,hoj⟩:=R.objs j o h3
   exact⟨lj,hlj,hsj,a3s hoj (by rw[C1 _ _ _ hblk,if_neg (fun e=>hoth j o lj h1 h2 h3 hlj e.symm)])⟩
 ·intro i j oi oj li lj h1 h2 h3 h4 h5 h6
  rcases hg i oi h1 with ⟨rfl,rfl⟩|⟨g1,g2,g3⟩<;>rcases hg j oj h2 with ⟨rfl,rfl⟩|⟨g1',g2',g3'⟩
  ·exact absurd rfl h5
  ·rw[hl]at h3;cases h3;exact absurd h6.symm (hoth j oj lj g1' g2' g3' h4)
  ·rw[hl]at h4;cases h4;exact absurd h6 (hoth i oi li g1 g2 g3 h3)
  ·exact R.apart i j oi oj li lj g3 g3' h3 h4 h5 h6
 ·intro j o e p hp
  rcases hg j o e with ⟨rfl,rfl⟩|⟨_,_,h3⟩
  ·simp[E8]at hp
  ·exact R.pres j o h3 p hp
 ·intro j p o op lj lp h1 h2 h3 h4 h5
  rcases hg j o h1 with ⟨rfl,rfl⟩|⟨g1,g2,g3⟩
  ·simp[E8]at h2
  ·rcases hg p op h3 with ⟨rfl,rfl⟩|⟨g1',g2',g3'⟩
   ·have:=(R.kin j p o _ lj lp g3 h2 hk h4 h5).1
    simp[c3C]at this
   ·exact R.kin j p o op lj lp g3 h2 g3' h4 h5
theorem K9.stores(R:K9 E w0 H w ρ){P:Program}{o:Id}{i:Nat}{as:List AV}{vs:List Value}{H':AHeap}(h:F0 H o i as=some H')(hv:w5 ρ as vs):
  (as=[]∧vs=[]∧H'=H)∨as≠[]∧∃b d w',Q3 ρ o=some (b,d)∧(storeCells ⟨b,d+i,none⟩ vs).run P w= .ok () w'∧K9 E w0 H' w' ρ:=by
 unfold F0 at h
 split at h
 ·cases h;rw[u9]at hv;exact .inl ⟨rfl,hv,rfl⟩
 ·rename_i hne
  split at h
  ·cases h
  ·rename_i k
   split at h
   ·rename_i cs pre hk
    split at h
    ·rename_i hc
     cases h
     simp only[Bool.and_eq_true,decide_eq_true_eq]at hc
     obtain⟨hn,hall⟩:=hc
     obtain⟨l,hl,hs,arr,el,lo,hi,e0,e1,e2,e3,e4⟩:=R.objs k _ hk
     have hlen:=B2 hv
     refine .inr ⟨hne,l.blk,l.d,_,by simp[Q3,hl],a1J l.blk (l.d+i) el lo hi vs 0 w arr e0 (by omega) (by rw[e1];exact e4 rfl)
      (c9y (P:=fun a=>w7 a=true) (fun a v h1 h2=>b6k h1 h2) hv (by simpa using hall)), ?_⟩
     rw[Nat.add_zero]
     exact R.write hk hl e0 (X8 _ _ _) (a7G _ _ _) (by rw[a7G];exact b2U i hv hn e3)
    ·cases h
   ·cases h
end
end
section
section
variable{E:j6}{w0:World}{H:AHeap}{w:World}{ρ:B7}{P:Program}
theorem b4s:∀(vs:List Value) (arr:Array Value) (p:Nat),p+vs.length≤arr.size→
  (P9 arr p vs).toList=arr.toList.take p++vs++arr.toList.drop (p+vs.length)
 | [],arr,p,_=>by simp[P9]
 |v::vs,arr,p,h=>by
  simp only[List.length_cons]at h
  rw[P9,b4s vs _ (p+1) (by simp;omega)]
  simp only[Array.toList_setIfInBounds,List.length_cons]
  have hp:p<arr.toList.length:=by simp;omega
  rw[List.drop_set,if_pos (by omega),List.take_set,List.take_add_one,List.set_append_right _ _ (by rw[List.length_take];exact Nat.min_le_left _ _)]
  have hp':p<arr.size:=by simpa using hp
  have h0:p - min p arr.size=0:=by omega
  simp[hp',h0]
  rw[show p+1+vs.length=p+(vs.length+1) by omega]
theorem K9.growIn(R:K9 E w0 H w ρ){k:Nat}{cs:List AV}{pre K pre':List Nat}{l:Loc}{arr:Array Value}{el:TypeId}{lo hi i cut:Nat}{news:List AV}{vs:List Value}
  {Hs:AHeap} (hk:H.get k=some (.cells cs true pre)) (hl:ρ k=some l) (hn:ρ H.next=none) (hb:w.heap[l.blk]? =some (.cells arr el (lo,hi)))
  (hic:i≤cut) (hc:cut≤cs.length) (hv:w5 ρ news vs) (hroom:l.d+cut+news.length≤l.n)
  (hnext:Hs.next=H.next) (hHs:∀j,Hs.get j=if j=k then some (.cells (cs.take cut) false pre') else if j∈K then none else H.get j)
  (hK:(K=pre∧pre'=[])∨(K=[]∧pre'=pre∧cut=cs.length)):
  K9 E w0 (Hs.new (.cells ((cs.take cut).drop i++news) true (k::pre'))) (E1 w l.blk (.cells (P9 arr (l.d+cut) vs) el (lo,hi)))
   (upd ρ H.next ⟨l.blk,l.d+i,l.n⟩):=by
 have hblk:=(Array.getElem?_eq_some_iff.1 hb).1
 obtain⟨l',hl',hbase,arr0,el0,lo0,hi0,e0,e1,e2,e3,e4⟩:=R.objs k _ hk
 rw[hl]at hl';cases hl'
 rw[hb]at e0;cases e0
 have hlen:=B2 hv
 have hx:=b0n (ρ:=ρ) ⟨l.blk,l.d+i,l.n⟩ hn
 have hkn:k≠H.next:=by rintro rfl;rw[hn]at hl;cases hl
 have R1:K9 E w0 Hs w ρ:=R.less (by
  intro j o e
  rw[hHs]at e
  split at e
  ·rename_i h;subst h;cases e
   refine⟨_,hk, .inr ⟨cs,true,pre,cut,pre',rfl,rfl, ?_⟩⟩
   rcases hK with ⟨rfl,rfl⟩|⟨rfl,rfl,h⟩
   ·refine .inr ⟨rfl,fun p hp=> ?_⟩
    rw[hHs,if_neg (R.pres j _ hk p hp).1,if_pos hp]
   ·exact .inl ⟨rfl,by omega⟩
  ·split at e
   ·cases e
   ·exact⟨o,e, .inl rfl⟩)
 have htl:=b4s vs arr (l.d+cut) (by omega)
 have hrow:∀a n,a+n≤l.d+cut→((P9 arr (l.d+cut) vs).toList.drop a).take n=(arr.toList.drop a).take n:=by
  intro a n h
  rw[htl,List.append_assoc,List.drop_append_of_le_length (by simp;omega),List.take_append_of_le_length (by simp;omega),List.drop_take,List.take_take,
   Nat.min_eq_left (by omega)]
 have hsame:∀j oj lj,j≠k→Hs.get j=some oj→ρ j=some lj→lj.blk=l.blk→j∈pre'∧lj.d+a4o oj≤l.d+cut:=by
  intro j oj lj h1 h2 h3 h4
  rw[hHs,if_neg h1]at h2
  split at h2
  ·cases h2
  ·rename_i hnK
   have hm:j∈pre:=R.alone hk rfl hl h2 h3 h1 h4
   rcases hK with ⟨rfl,_⟩|⟨_,rfl,hcut⟩
   ·exact absurd hm hnK
   ·refine⟨hm, ?_⟩
    have:=(R.kin k j _ oj l lj hk hm h2 hl h3).2 h4
    simpa [a4o,hcut]using this
 have hg:∀j o,(Hs.new (.cells ((cs.take cut).drop i++news) true (k::pre'))).get j=some o→
   (j=H.next∧o= .cells ((cs.take cut).drop i++news) true (k::pre'))∨(j≠H.next∧Hs.get j=some o):=by
  intro j o e
  rw[AHeap.get_new]at e
  split at e
  ·rename_i h;cases e;exact .inl ⟨by rw[←h,hnext],rfl⟩
  ·rename_i h;exact .inr ⟨fun h'=>h (by rw[h',hnext]),e⟩
 have hsk:Hs.get k=some (.cells (cs.take cut) false pre'):=by rw[hHs,if_pos rfl]
 have hpre:∀p∈pre',p∈pre:=by
  intro p hp
  rcases hK with ⟨_,rfl⟩|⟨_,rfl,_⟩
  ·simp at hp
  ·exact hp
 refine⟨by rw[a5M];exact R.size, ?_,R.env,R.side, ?_, ?_, ?_, ?_⟩
 ·intro b hbb;rw[C1 _ _ _ hblk,if_neg (by omega)];exact R.old b hbb
 ·intro j o e
  rcases hg j o e with ⟨rfl,rfl⟩|⟨h1,h2⟩
  ·refine⟨_,U5 _ _,hbase,_,el,lo,_,by rw[C1 _ _ _ hblk,if_pos rfl],by rw[X8,e1], ?_, ?_,e4⟩
   ·simp;omega
   ·apply L5 hx
    have hA:w5 ρ (cs.take cut) ((arr.toList.drop l.d).take cut):=by
     have:=b1Z e3 cut
     rwa [List.take_take,Nat.min_eq_left hc]at this
    have hB:=c3F (W9 hA hv) i
    have hdl:i≤((arr.toList.drop l.d).take cut).length:=by simp;omega
    rw[List.drop_append_of_le_length (by simp;omega),List.drop_append_of_le_length hdl]at hB
    have:(((P9 arr (l.d+cut) vs).toList.drop (l.d+i)).take ((cs.take cut).drop i++news).length)=((arr.toList.drop l.d).take cut).drop i++vs:=by
     have hm:((cs.take cut).drop i++news).length=(cut - i)+vs.length:=by simp;omega
     rw[hm,htl,List.append_assoc,List.drop_append_of_le_length (by simp;omega),List.drop_take,List.drop_take,List.drop_drop,
      show l.d+cut - (l.d+i)=cut - i by omega]
     rw[←List.append_assoc,List.take_append_of_le_length (by simp;omega),List.take_of_length_le (by simp;omega)]
    rw[this]
    exact hB
  ·by_cases hjk:j=k
   ·subst hjk
    rw[hsk]at h2;cases h2
    refine⟨l,by rw[J4 _ h1];exact hl,hbase,_,el,lo,_,by rw[C1 _ _ _ hblk,if_pos rfl],by rw[X8,e1],by simp;omega, ?_,by simp⟩
    apply L5 hx
    rw[hrow _ _ (by simp;omega)]
    have:=b1Z e3 cut
    have hcl:(cs.take cut).length=cut:=by simp;omega
    rw[hcl]
    rwa [List.take_take,Nat.min_eq_left hc]at this
   ·obtain⟨lj,hlj,hsj,hoj⟩:=R1.objs j o h2
    refine⟨lj,by rw[J4 _ h1];exact hlj,hsj,c3z hx ?_⟩
    by_cases hbb:lj.blk=l.blk
    ·obtain⟨_,hend⟩:=hsame j o lj hjk h2 hlj hbb
     cases o with
     |map es clock=>obtain⟨mes,g,_⟩:=hoj;rw[hbb,hb]at g;cases g
     |cells cj wj pj=>
      obtain⟨arr1,el1,lo1,hi1,g0,g1,g2,g3,g4⟩:=hoj
      rw[hbb,hb]at g0;cases g0
      refine⟨_,el,lo,_,by rw[hbb,C1 _ _ _ hblk,if_pos rfl],by rw[X8];exact g1,g2, ?_,g4⟩
      rw[hrow _ _ (by simpa [a4o]using hend)]
      exact g3
    ·exact a3s hoj (by rw[C1 _ _ _ hblk,if_neg (fun e=>hbb e.symm)])
 ·intro a b oa ob la lb h1 h2 h3 h4 h5 h6
  rcases hg a oa h1 with ⟨rfl,rfl⟩|⟨g1,g2⟩<;>rcases hg b ob h2 with ⟨rfl,rfl⟩|⟨g1',g2'⟩
  ·exact absurd rfl h5
  ·rw[U5]at h3;cases h3;rw[J4 _ g1']at h4
   right
   by_cases hbk:b=k
   ·simp[E8,hbk]
   ·simp only[E8,List.mem_cons];exact .inr (hsame b ob lb hbk g2' h4 h6.symm).1
  ·rw[U5]at h4;cases h4;rw[J4 _ g1]at h3
   left
   by_cases hak:a=k
   ·simp[E8,hak]
   ·simp only[E8,List.mem_cons];exact .inr (hsame a oa la hak g2 h3 h6).1
  ·rw[J4 _ g1]at h3;rw[J4 _ g1']at h4
   exact R1.apart a b oa ob la lb g2 g2' h3 h4 h5 h6
 ·intro j o e p hp
  rcases hg j o e with ⟨rfl,rfl⟩|⟨h1,h2⟩
  ·simp only[E8,List.mem_cons]at hp
   have hps:(ρ p).isSome:=by
    rcases hp with rfl|hp
    ·rw[hl];rfl
    ·exact(R.pres k _ hk p (hpre p hp)).2
   refine⟨fun e=> ?_, ?_⟩
   ·rw[e,hn]at hps;cases hps
   ·obtain⟨m,hm⟩:=Option.isSome_iff_exists.1 hps
    rw[hx _ _ hm];rfl
  ·obtain⟨a,b⟩:=R1.pres j o h2 p hp
   obtain⟨m,hm⟩:=Option.isSome_iff_exists.1 b
   exact⟨a,by rw[hx _ _ hm];rfl⟩
 ·intro j p o op lj lp h1 h2 h3 h4 h5
  rcases hg j o h1 with ⟨rfl,rfl⟩|⟨g1,g2⟩
  ·simp only[E8,List.mem_cons]at h2
   have hps:(ρ p).isSome:=by
    rcases h2 with rfl|hp
    ·rw[hl];rfl
    ·exact(R.pres k _ hk p (hpre p hp)).2
   have hpn:p≠H.next:=by rintro rfl;rw[hn]at hps;cases hps
   rcases hg p op h3 with ⟨e,_⟩|⟨_,g2'⟩
   ·exact absurd e hpn
   ·rw[U5]at h4;cases h4;rw[J4 _ hpn]at h5
    by_cases hpk:p=k
    ·subst hpk
     rw[hsk]at g2';cases g2'
     rw[hl]at h5;cases h5
     refine⟨rfl,fun _=> ?_⟩
     simp[a4o];omega
    ·have hp':p∈pre':=h2.resolve_left hpk
     have hp:p∈pre:=hpre p hp'
     have hgp:H.get p=some op:=by
      rw[hHs,if_neg hpk]at g2'
      split at g2'
      ·cases g2'
      ·exact g2'
     obtain⟨a,b⟩:=R.kin k p _ op l lp hk hp hgp hl h5
     refine⟨a,fun e=> ?_⟩
     have:=(hsame p op lp hpk g2' h5 e).2
     show lp.d+a4o op≤l.d+i+((cs.take cut).drop i++news).length
     simp only[List.length_append,List.length_drop,List.length_take]
     omega
  ·rcases hg p op h3 with ⟨rfl,_⟩|⟨g1',g2'⟩
   ·have:=(R1.pres j o g2 _ h2).2
    rw[hn]at this;cases this
   ·rw[J4 _ g1]at h4;rw[J4 _ g1']at h5
    exact R1.kin j p o op lj lp g2 h2 g2' h4 h5
end
end
section
section
variable{E:j6}{w0:World}{H:AHeap}{w:World}{ρ:B7}{P:Program}
theorem i7{t:TypeId}{d:TypeDesc}(h:P.underlying t=some d)(w:World):(underlying t).run P w= .ok d w:=by
 simp[underlying,h]
theorem C0{t:TypeId}{i:TypeInfo}(h:P.info? t=some i)(w:World):(typeInfo t).run P w= .ok i w:=by
 simp[typeInfo,h]
theorem E4{t:TypeId}{n:Nat}(h:E2 P t=some n)(w:World):(sizeOf t).run P w= .ok n w:=by
 unfold E2 at h
 cases e:P.info? t with
 |none=>rw[e]at h;cases h
 |some i=>rw[e]at h;cases h;simp[sizeOf,C0 e]
theorem b3D{t:TypeId}{b:Bool}(h:b3t P t=some b)(w:World):(isAgg t).run P w= .ok b w:=by
 unfold b3t at h
 split at h
 ·rename_i h1;cases h;simp[isAgg,i7 h1]
 ·rename_i h1;cases h;simp[isAgg,i7 h1]
 ·rename_i d h1 h2 h3
  cases h
  simp only[isAgg,Sem.run_bind,i7 h3,Result.andThen_ok]
  rfl
 ·cases h
theorem a5o{t:TypeId}{z:AV}(h:U3 P t=some z)(w:World):∃v,(zeroValue t).run P w= .ok v w∧rel ρ z v:=by
 unfold U3 at h
 split at h
 ·rename_i i hi
  cases e:i.zero with
  |none=>rw[e]at h;cases h
  |some v=>
   rw[e]at h;cases h
   exact⟨v,by simp[zeroValue,C0 hi,e],c3V v⟩
 ·cases h
theorem c9j{t:TypeId}{n:Nat}(h:b2M P t=some n):∃i,P.info? t=some i∧i.bytes=n:=by
 unfold b2M at h
 cases e:P.info? t with
 |none=>rw[e]at h;cases h
 |some i=>rw[e]at h;cases h;exact⟨i,rfl,rfl⟩
theorem a4Y{t e:TypeId}(h:b0G P t=some e):P.underlying t=some (.slice e):=by
 unfold b0G at h
 split at h
 ·rename_i h1;cases h;exact h1
 ·cases h
theorem a8Q(R:K9 E w0 H w ρ){t:TypeId}{o:Id}{i:Nat}{a:AV}(h:L7 P E H t o i=some a):
  ∃b d v,Q3 ρ o=some (b,d)∧(loadVar t ⟨b,d+i,none⟩).run P w= .ok v w∧rel ρ a v:=by
 unfold L7 at h
 simp only[Option.bind_eq_bind,Option.bind_eq_some_iff]at h
 obtain⟨g,hg,h⟩:=h
 cases g with
 |true=>
  simp only[if_true,Option.bind_eq_some_iff]at h
  obtain⟨n,hn,as,has,h⟩:=h
  cases h
  obtain⟨b,d,vs,h1,h2,h3,_⟩:=R.loads (P:=P) has
  refine⟨b,d, .agg ⟨vs⟩,h1, ?_,by simp only[rel];exact⟨⟨vs⟩,rfl,h3⟩⟩
  simp[loadVar,b3D hg,E4 hn,h2 w rfl]
 |false=>
  simp only[Bool.false_eq_true,if_false]at h
  obtain⟨b,d,v,h1,h2,h3⟩:=R.load h
  refine⟨b,d,v,h1, ?_,h3⟩
  simp[loadVar,b3D hg,h2]
theorem a5T{t:TypeId}{cs:List AV}{xs:Array Value}{off:Nat}{a:AV}(hr:w5 ρ cs xs.toList)(h:b8P P t cs off=some a)(w:World):
  ∃v,(part t xs off).run P w= .ok v w∧rel ρ a v:=by
 unfold b8P at h
 simp only[Option.bind_eq_bind,Option.bind_eq_some_iff]at h
 obtain⟨g,hg,h⟩:=h
 cases g with
 |true=>
  simp only[if_true,Option.bind_eq_some_iff]at h
  obtain⟨n,hn,h⟩:=h
  cases h
  refine⟨.agg (xs.extract off (off+n)),by simp[part,b3D hg,E4 hn], ?_⟩
  simp only[rel]
  refine⟨_,rfl, ?_⟩
  have:=b1Z (c3F hr off) n
  rw[Array.toList_extract,List.extract_eq_take_drop]
  simpa using this
 |false=>
  simp only[Bool.false_eq_true,if_false]at h
  obtain⟨v,h1,h2⟩:=a8b hr off h
  refine⟨v, ?_,h2⟩
  simp only[part,Sem.run_bind,b3D hg,Result.andThen_ok,Bool.false_eq_true,if_false]
  rw[show xs[off]? =some v by simpa using h1]
  rfl
theorem b6p(off:Nat):∀(l:List Value) (k:Nat) (a:Array Value),
  (l.zipIdx k).foldl (fun cs (x:Value×Nat)=>cs.setIfInBounds (off+x.2) x.1) a=P9 a (off+k) l
 | [],_,_=>rfl
 |v::l,k,a=>by
  rw[List.zipIdx_cons,List.foldl_cons,b6p off l (k+1)]
  rfl
theorem d0F{as:List AV}{vs:List Value}{cs:List AV}{arr:Array Value}{i:Nat}(h:w5 ρ as vs)(hn:i+as.length≤cs.length)
  (hc:w5 ρ cs arr.toList):w5 ρ (G3 cs i as) (P9 arr i vs).toList:=by
 have hl:=B2 hc
 have hc':w5 ρ cs ((arr.toList.drop 0).take cs.length):=by rw[List.drop_zero,List.take_of_length_le (by omega)];exact hc
 have:=b2U (d:=0) i h hn hc'
 rw[List.drop_zero,List.take_of_length_le (by simp[X8];simp at hl;omega),Nat.zero_add]at this
 exact this
def d5L(ρ:B7):List (Nat×AV)→List (Nat×Value)→Prop
 | [],l=>l=[]
 |(i,a)::ps,l=>∃v r,l=(i,v)::r∧rel ρ a v∧d5L ρ ps r
theorem b0x{place:Nat→Option (Nat×Nat)}:∀ {ps:List (Nat×AV)} {qs:List (Nat×Value)} {cs cs':List AV} {xs:Array Value},
  b2s place cs ps=some cs'→d5L ρ ps qs→w5 ρ cs xs.toList→∃xs',Instr.fill place xs qs=some xs'∧w5 ρ cs' xs'.toList∧xs'.size=xs.size
 | [],qs,cs,cs',xs,h,hp,hc=>by
  simp only[d5L]at hp;subst hp
  simp only[b2s]at h;cases h
  exact⟨xs,rfl,hc,rfl⟩
 |(i,a)::ps,qs,cs,cs',xs,h,hp,hc=>by
  simp only[d5L]at hp
  obtain⟨v,r,rfl,hv,hr⟩:=hp
  simp only[b2s]at h
  split at h
  ·cases h
  ·rename_i off size hpl
   split at h
   ·rename_i hcond
    obtain⟨h1,h2⟩:=hcond
    have hcl:=a3E hv
    have e1:=B2 hcl
    have e2:=B2 hc
    simp only[Array.length_toList]at e1 e2
    obtain⟨xs',g1,g2,g3⟩:=b0x (xs:=P9 xs off v.cells.toList) h hr (d0F hcl h2 hc)
    refine⟨xs', ?_,g2,by rw[g3,X8]⟩
    simp only[Instr.fill,hpl]
    rw[if_neg (by simp only[Bool.or_eq_true,decide_eq_true_eq];omega)]
    have:(v.cells.zipIdx.foldl (fun cs x=>cs.setIfInBounds (off+x.2) x.1) xs)=P9 xs off v.cells.toList:=by
     rw[←Array.foldl_toList,Array.toList_zipIdx,b6p off v.cells.toList 0 xs];rfl
    rw[←g1]
    exact congrArg (fun y=>Instr.fill place y r) this
   ·cases h
theorem b8D{α β:Type}{f:α→Sem β}{g:α→Option β}:∀ {l:List α} {r:List β},l.mapM g=some r→
  (∀x y,g x=some y→∀w,(f x).run P w= .ok y w)→∀w,(l.mapM f).run P w= .ok r w
 | [],r,h,_,w=>by simp at h;subst h;rfl
 |x::l,r,h,hf,w=>by
  simp only[List.mapM_cons,Option.bind_eq_bind,Option.bind_eq_some_iff]at h
  obtain⟨y,hy,ys,hys,h⟩:=h
  cases h
  simp[List.mapM_cons,hf x y hy,b8D hys hf]
theorem d2b{t:TypeId}{ps:List (Nat×AV)}{qs:Array (Nat×Value)}{a:AV}(h:b6w P t ps=some a)(hp:d5L ρ ps qs.toList)(w:World):
  ∃v,(Instr.build t qs).run P w= .ok v w∧rel ρ a v:=by
 unfold b6w at h
 simp only[Option.bind_eq_bind,Option.bind_eq_some_iff]at h
 obtain⟨z,hz,h⟩:=h
 obtain⟨zv,h1,h2⟩:=a5o (ρ:=ρ) hz w
 have hzc:=a3E h2
 split at h
 ·rename_i fields hu
  simp only[Option.bind_eq_some_iff]at h
  obtain⟨places,hpl,h⟩:=h
  simp only[Option.map_eq_some_iff]at h
  obtain⟨cs,hcs,rfl⟩:=h
  obtain⟨xs,g1,g2,_⟩:=b0x hcs hp hzc
  refine⟨.agg xs, ?_,by simp only[rel];exact⟨xs,rfl,g2⟩⟩
  have hm:(fields.mapM fun(f:Field)=>do pure (f.offset, ←sizeOf f.type)).run P w= .ok places.toArray w:=by
   rw[Array.mapM_eq_mapM_toList]
   have:=b8D (P:=P) (f:=fun f:Field=>do pure (f.offset, ←sizeOf f.type)) hpl (fun x y hy w=>by
    simp only[Option.map_eq_some_iff]at hy
    obtain⟨s,hs,rfl⟩:=hy
    simp[E4 hs]) w
   simp only[Sem.run_map,this,Result.andThen_ok]
  simp only[Instr.build,Sem.run_bind,h1,Result.andThen_ok,i7 hu,hm]
  have g1':Instr.fill (fun i=>places.toArray[i]?) zv.cells qs.toList=some xs:=by simpa using g1
  rw[g1']
  rfl
 ·rename_i n e hu
  simp only[Option.bind_eq_some_iff]at h
  obtain⟨size,hs,h⟩:=h
  simp only[Option.map_eq_some_iff]at h
  obtain⟨cs,hcs,rfl⟩:=h
  obtain⟨xs,g1,g2,_⟩:=b0x hcs hp hzc
  refine⟨.agg xs, ?_,by simp only[rel];exact⟨xs,rfl,g2⟩⟩
  simp only[Instr.build,Sem.run_bind,h1,Result.andThen_ok,i7 hu,E4 hs,g1]
  rfl
 ·cases h
end
end
end Go.Am
end
