/-
  BlocksCutsSaid: part Paa of its proof.
-/
import Derived.Calls
import Derived.Orders
set_option linter.unusedVariables false
set_option linter.unusedSimpArgs false
set_option maxRecDepth 100000
section
namespace Go.Am
inductive Id where
 |old (b:Nat)
 |new (k:Nat)
 deriving DecidableEq,Repr,Inhabited
inductive AV where
 |bool (b:Bool)
 |int (k:IntKind) (n:Int)
 |str (s:List UInt8)
 |nilPtr
 |ptr (o:Id) (i:Nat)
 |nilSlc
 |slc (o:Id) (i len cap:Nat) (ex:Bool) (sz:Nat)
 |nilMap
 |map (k:Nat)
 |fn (f:Fn) (first captured:List AV)
 |nilFn
 |ifc (t:TypeId) (v:AV)
 |nilIfc
 |agg (cs:List AV)
 |tup (vs:List AV)
 |opq (v:Value)
 deriving Inhabited
inductive Trie (α:Type) where
 |nil
 |node (v:Option α) (l r:Trie α)
namespace Trie
variable{α:Type}
def get:Trie α→Nat→Option α
 | .nil,_=>none
 | .node v l r,k=>match k with
  |0=>v
  |k+1=>if k % 2=0 then l.get (k / 2) else r.get (k / 2)
def setF:Nat→Trie α→Nat→Option α→Trie α
 |0,t,_,_=>t
 |f+1,t,k,x=>match t,k with
  | .nil,0=> .node x .nil .nil
  | .node _ l r,0=> .node x l r
  | .nil,k+1=>if k % 2=0 then .node none (setF f .nil (k / 2) x) .nil else .node none .nil (setF f .nil (k / 2) x)
  | .node v l r,k+1=>if k % 2=0 then .node v (setF f l (k / 2) x) r else .node v l (setF f r (k / 2) x)
def set(t:Trie α)(k:Nat)(x:Option α):Trie α:=setF (k+1) t k x
end Trie
inductive G3 where
 |cells (cs:List AV) (wr:Bool) (pre:List Nat)
 |map (es:List (AV×AV×Nat)) (clock:Nat)
 |iter (m since:Nat) (seen:List Nat) (last:Nat)
 deriving Inhabited
structure AHeap where
 objs:Trie G3
 next:Nat
 log:List Nat
def AHeap.get(H:AHeap)(k:Nat):Option G3:=H.objs.get k
def AHeap.set(H:AHeap)(k:Nat)(o:G3):AHeap:= { H with objs:=H.objs.set k (some o),log:=k::H.log }
def AHeap.kill(H:AHeap)(k:Nat):AHeap:= { H with objs:=H.objs.set k none,log:=k::H.log }
def AHeap.killAll(H:AHeap):List Nat→AHeap
 | []=>H
 |k::ks=>(H.kill k).killAll ks
def AHeap.new(H:AHeap)(o:G3):AHeap:= { H with objs:=H.objs.set H.next (some o),next:=H.next+1 }
def AHeap.empty:AHeap:=⟨.nil,0,[]⟩
abbrev g8:=Nat→Option (List AV)
def cellsOf(E:g8)(H:AHeap):Id→Option (List AV)
 | .old b=>E b
 | .new k=>match H.get k with
  |some (.cells cs _ _)=>some cs
  |_=>none
def a3c(E:g8)(H:AHeap)(o:Id)(i:Nat):Option AV:=
 match cellsOf E H o with
 |some cs=>cs[i]?
 |none=>none
def B5(E:g8)(H:AHeap)(o:Id)(i n:Nat):Option (List AV):=
 match cellsOf E H o with
 |some cs=>if i+n≤cs.length then some ((cs.drop i).take n) else none
 |none=>none
def F4(E:g8)(H:AHeap)(o:Id)(i n:Nat):Option (List AV):=if n=0 then some []else B5 E H o i n
def z7:List AV→Nat→List AV→List AV
 |cs,_,[]=>cs
 |cs,i,v::vs=>z7 (cs.set i v) (i+1) vs
def m9:AV→Bool
 | .agg _| .tup _=>false
 | .opq v=> !(v matches .agg _| .tuple _)
 |_=>true
def z8(H:AHeap)(o:Id)(i:Nat)(vs:List AV):Option AHeap:=
 match vs with
 | []=>some H
 |_=>match o with
  | .old _=>none
  | .new k=>match H.get k with
   |some (.cells cs true pre)=>
    if i+vs.length≤cs.length&&vs.all m9 then some ((H.killAll pre).set k (.cells (z7 cs i vs) true [])) else none
   |_=>none
def b3E:Value→AV
 | .bool b=> .bool b
 | .int k n=> .int k n
 | .string s=> .str s.data.toList
 | .pointer none=> .nilPtr
 | .slice none 0 0=> .nilSlc
 | .map none=> .nilMap
 | .nilFunc=> .nilFn
 | .nilIface=> .nilIfc
 |v=> .opq v
def c1f:Value→AV
 | .agg cs=> .agg (cs.toList.map b3E)
 | .tuple ⟨[]⟩=> .tup []
 |v=>b3E v
def AV.cells:AV→List AV
 | .agg cs=>cs
 | .opq v=>v.cells.toList.map .opq
 |v=>[v]
def s8:AV:= .tup []
def i4(T:List AV):Operand→AV
 | .tmp t=>T.getD t s8
 | .const v=>c1f v
 | .global g=> .ptr (.old g) 0
 | .func f=> .fn (.func f) [] []
section ops
variable(P:Program)(E:g8)
def G7(t:TypeId):Option AV:=match P.info? t with
 |some i=>i.zero.map c1f
 |none=>none
def A4(t:TypeId):Option Nat:=(P.info? t).map (·.size)
def a5X(t:TypeId):Option Nat:=(P.info? t).map (·.bytes)
def a6j(t:TypeId):Option Bool:=match P.underlying t with
 |some (.struct _)|some (.array _ _)=>some true
 |some _=>some false
 |none=>none
def a4j(t:TypeId):Option TypeId:=match P.underlying t with
 |some (.slice e)=>some e
 |_=>none
def H4(H:AHeap)(t:TypeId)(o:Id)(i:Nat):Option AV:=do
 if←a6j P t then some (.agg (←B5 E H o i (←A4 P t))) else a3c E H o i
def a9J(t:TypeId)(cs:List AV)(off:Nat):Option AV:=do
 if←a6j P t then some (.agg ((cs.drop off).take (←A4 P t))) else cs[off]?
def a5H(place:Nat→Option (Nat×Nat)):List AV→List (Nat×AV)→Option (List AV)
 |cs,[]=>some cs
 |cs,(i,v)::rest=>match place i with
  |none=>none
  |some (off,size)=>if v.cells.length=size∧off+v.cells.length≤cs.length then a5H place (z7 cs off v.cells) rest else none
def a7Y(t:TypeId)(parts:List (Nat×AV)):Option AV:=do
 let z←G7 P t
 match P.underlying t with
 |some (.struct fields)=>
  let places←fields.toList.mapM fun f=>(A4 P f.type).map fun s=>(f.offset,s)
  (a5H (places[·]?) z.cells parts).map .agg
 |some (.array _ e)=>
  let size←A4 P e
  (a5H (fun i=>some (i*size,size)) z.cells parts).map .agg
 |_=>none
def rep(z:List AV):Nat→List AV
 |0=>[]
 |n+1=>z++rep z n
def newCells(H:AHeap)(cs:List AV):AHeap:=H.new (.cells cs true [])
def I2(H:AHeap)(t:TypeId)(len:Nat)(parts:List (Nat×AV)):Option (AV×AHeap):=do
 let e←a4j P t
 let size←A4 P e
 if len*size≤2^24 then
  let z←G7 P e
  if z.cells.length=size then
   let cs←a5H (fun i=>some (i*size,size)) (rep z.cells len) parts
   some (.slc (.new H.next) 0 len len true size,newCells H cs)
  else none
 else none
def L6(op:BinOp)(k:IntKind)(a b:Int):Option AV:=
 match op with
 | .add=>some (.int k (k.wrap (a+b)))
 | .sub=>some (.int k (k.wrap (a - b)))
 | .mul=>some (.int k (k.wrap (a*b)))
 | .quo=>if b=0 then none else some (.int k (k.wrap (a.tdiv b)))
 | .rem=>if b=0 then none else some (.int k (a.tmod b))
 | .and=>some (.int k (k.wrap (BitVec.ofInt k.bits a &&& BitVec.ofInt k.bits b).toNat))
 | .or=>some (.int k (k.wrap (BitVec.ofInt k.bits a ||| BitVec.ofInt k.bits b).toNat))
 | .xor=>some (.int k (k.wrap (BitVec.ofInt k.bits a ^^^ BitVec.ofInt k.bits b).toNat))
 | .andNot=>some (.int k (k.wrap (BitVec.ofInt k.bits a &&& ~~~ BitVec.ofInt k.bits b).toNat))
 | .eql=>some (.bool (a==b))
 | .neq=>some (.bool (a != b))
 | .lss=>some (.bool (a<b))
 | .leq=>some (.bool (a≤b))
 | .gtr=>some (.bool (a>b))
 | .geq=>some (.bool (a≥b))
 | .shl| .shr=>none
def a4t(op:BinOp)(x y:List UInt8):Option AV:=
 match op with
 | .add=>if((x.length+y.length:Nat):Int)≤IntKind.i64.max then some (.str (x++y)) else none
 | .eql=>some (.bool (x==y))
 | .neq=>some (.bool !(x==y))
 | .lss=>some (.bool (Op.bytesLess x y))
 | .leq=>some (.bool (Op.bytesLess x y||x==y))
 | .gtr=>some (.bool !(Op.bytesLess x y||x==y))
 | .geq=>some (.bool !(Op.bytesLess x y))
 |_=>none
def a2Y(eq:TypeId→AV→AV→Option Bool)(xs ys:List AV):List Field→Option Bool
 | []=>some true
 |f::fs=>
  if f.name≠"_" then
   match a9J P f.type xs f.offset,a9J P f.type ys f.offset with
   |some a,some b=>match eq f.type a b with
    |some true=>a2Y eq xs ys fs
    |r=>r
   |_,_=>none
  else a2Y eq xs ys fs
def eqA:Nat→TypeId→AV→AV→Option Bool
 |0,_,_,_=>none
 |d+1,t,x,y=>
  match P.underlying t,x,y with
  |some .bool, .bool a, .bool b=>some (a==b)
  |some (.int _), .int k a, .int k' b=>if k=k' then some (a==b) else none
  |some .string, .str a, .str b=>some (a==b)
  |some (.pointer _), .nilPtr, .nilPtr=>some true
  |some (.pointer _), .nilPtr, .ptr _ _|some (.pointer _), .ptr _ _, .nilPtr=>some false
  |some (.pointer e), .ptr o i, .ptr o' i'=>if o=o'∧A4 P e≠some 0∧(A4 P e).isSome then some (i==i') else none
  |some (.interface _), .nilIfc, .nilIfc=>some true
  |some (.interface _), .nilIfc, .ifc _ _|some (.interface _), .ifc _ _, .nilIfc=>some false
  |some (.interface _), .ifc tx vx, .ifc ty vy=>
   if tx≠ty then some false
   else match P.info? tx with
    |some i=>if i.comparable then eqA d tx vx vy else none
    |none=>none
  |some (.slice _), .nilSlc, .nilSlc=>some true
  |some (.slice _), .nilSlc, .slc .. |some (.slice _), .slc .., .nilSlc=>some false
  |some (.map _ _), .nilMap, .nilMap=>some true
  |some (.map _ _), .nilMap, .map _|some (.map _ _), .map _, .nilMap=>some false
  |some (.func ..), .nilFn, .nilFn=>some true
  |some (.func ..), .nilFn, .fn .. |some (.func ..), .fn .., .nilFn=>some false
  |some (.struct fields), .agg xs, .agg ys=>
   if P.stoodInHeld t then none else
   a2Y P (fun t a b=>eqA d t a b) xs ys fields.toList
  |_,_,_=>none
def a0j(op:BinOp)(t:TypeId)(x y:Operand)(a b:AV):Bool:=
 match op with
 | .eql| .neq=>match a,b with
  | .nilIfc, .nilIfc=>Region.isConst x||Region.isConst y
  | .agg _, .agg _=> !P.eqGuardType P.depth t
  |_,_=>true
 |_=>true
def a9Y(op:BinOp)(t:TypeId)(a b:AV):Option AV:=
 match a,b with
 | .int k x, .int k' y=>match op with
  | .shl=>if y<0 then none else some (.int k (k.wrap (x*2^(min y.toNat k.bits))))
  | .shr=>if y<0 then none else some (.int k (x.fdiv (2^(min y.toNat k.bits))))
  |_=>if k=k' then L6 op k x y else none
 | .str x, .str y=>a4t op x y
 |a,b=>match op with
  | .eql=>(eqA P Op.maxDepth t a b).map .bool
  | .neq=>(eqA P Op.maxDepth t a b).map fun r=> .bool !r
  |_=>none
def unA(op:UnOp)(x:AV):Option AV:=
 match op,x with
 | .neg, .int k n=>some (.int k (k.wrap (0 - n)))
 | .xor, .int k n=>some (.int k (k.wrap (BitVec.ofInt k.bits (if k.signed then -1 else k.max) ^^^ BitVec.ofInt k.bits n).toNat))
 | .not, .bool b=>some (.bool !b)
 |_,_=>none
def b9E:AV→Option UInt8
 | .int .u8 n=>some (UInt8.ofNat n.toNat)
 |_=>none
def J3(H:AHeap)(src dst:TypeId)(x:AV):Option (AV×AHeap):=
 match P.underlying src,P.underlying dst,x with
 |some _,some (.int k), .int _ n=>some (.int k (k.wrap n),H)
 |some _,some .string, .str s=>some (.str s,H)
 |some _,some (.slice e), .str s=>match P.underlying e with
  |some (.int .u8)=>if s.length≤2^40 then some (.slc (.new H.next) 0 s.length s.length false 1,newCells H (s.map fun b=> .int .u8 b.toNat)) else none
  |_=>none
 |some (.slice _),some (.slice e), .slc (.new k) i len cap ex sz=>match P.underlying e with
  |some (.int .u8)=>if src=dst∧len≠0∧(cellsOf E H (.new k)).isSome then some (.slc (.new k) i len cap ex sz,H) else none
  |_=>none
 |some (.slice e),some .string,x=>match P.underlying e with
  |some (.int .u8)=>match x with
   | .nilSlc=>some (.str [],H)
   | .slc o i len _ _ _=>match F4 E H o i len with
    |some cs=>(cs.mapM b9E).map fun bs=>(.str bs,H)
    |none=>none
   |_=>none
  |_=>none
 |_,_,_=>none
def R7:AV→Option Int
 | .int _ n=>some n
 |_=>none
def I6(H:AHeap)(t:TypeId)(len cap:AV):Option (AV×AHeap):=do
 let e←a4j P t
 let size←A4 P e
 let bytes←a5X P e
 let l←R7 len
 let c←R7 cap
 let z←G7 P e
 if IntKind.i64.wrap l=l∧IntKind.i64.wrap c=c∧0≤l∧l≤c∧bytes*c≤2^47∧z.cells.length=size then
  some (.slc (.new H.next) 0 l.toNat c.toNat true size,newCells H (rep z.cells c.toNat))
 else none
def P1(x:AV)(y:Nat):Option Nat:=
 match x with
 | .int _ i=>if 0≤i∧i≤y then some i.toNat else none
 |_=>none
def c2M(cap:Nat):Option AV→Option Nat
 |some v=>P1 v cap
 |none=>some cap
def a9p(len m:Nat):Option AV→Option AV→Option Nat
 |some v,_=>P1 v m
 |none,none=>some len
 |none,some _=>none
def c3X(h:Nat):Option AV→Option Nat
 |some v=>P1 v h
 |none=>some 0
def a1O(len cap:Nat)(low high max:Option AV):Option (Nat×Nat×Nat):=
 (c2M cap max).bind fun m=>(a9p len m high max).bind fun h=>(c3X h low).bind fun l=>some (l,h,m)
def a3P:Id→Nat→Nat→Bool
 | .old _,_,_=>true
 | .new _,sz,size=>sz==size
def a0G(H:AHeap)(t:TypeId)(x:AV)(low high max:Option AV):Option AV:=
 match P.underlying t,x with
 |some .string, .str s=>if max.isSome then none else do
  let (l,h,_)←a1O s.length s.length low high none
  some (.str ((s.drop l).take (h - l)))
 |some (.slice e), .nilSlc=>do
  let _←A4 P e
  let _←a1O 0 0 low high max
  some .nilSlc
 |some (.slice e), .slc o i len cap ex sz=>do
  let size←A4 P e
  let (l,h,m)←a1O len cap low high max
  if a3P o sz size then
   some (.slc o (i+l*size) (h - l) (m - l) (ex||max.isSome) sz)
  else none
 |some (.array n e), .ptr (.new k) i=>do
  let size←A4 P e
  let (l,h,m)←a1O n n low high max
  match H.get k with
  |some (.cells cs _ _)=>if i+n*size≤cs.length then some (.slc (.new k) (i+l*size) (h - l) (m - l) true size) else none
  |_=>none
 |_,_=>none
def a2M(s:TypeId)(field:Nat):Option Field:=match P.underlying s with
 |some (.struct fields)=>fields[field]?
 |_=>none
def a3E(s:TypeId)(x:AV)(field:Nat):Option AV:=do
 let f←a2M P s field
 match x with
 | .ptr o i=>if(A4 P f.type).isSome∧A4 P f.type≠some 0 then some (.ptr o (i+f.offset)) else none
 |_=>none
def b0b(s:TypeId)(x:AV)(field:Nat):Option AV:=do
 let f←a2M P s field
 match x with
 | .agg cs=>a9J P f.type cs f.offset
 |_=>none
def a0o(t:TypeId)(x ix:AV):Option AV:=do
 let n←R7 ix
 match P.underlying t,x with
 |some (.slice e), .slc o i len _ _ _=>do
  let size←A4 P e
  if 0≤n∧n<len then some (.ptr o (i+n.toNat*size)) else none
 |some (.array len e), .ptr o i=>do
  let size←A4 P e
  if 0≤n∧n<len then some (.ptr o (i+n.toNat*size)) else none
 |_,_=>none
def a7n(t:TypeId)(x ix:AV):Option AV:=do
 let n←R7 ix
 match P.underlying t,x with
 |some (.array len e), .agg cs=>do
  let size←A4 P e
  if 0≤n∧n<len then a9J P e cs (n.toNat*size) else none
 |some .string, .str s=>if 0≤n then(s[n.toNat]?).map fun b=> .int .u8 b.toNat else none
 |_,_=>none
def b8U:AV→AV→Option Bool
 | .int k a, .int k' b=>if k=k' then some (a==b) else none
 | .str a, .str b=>some (a==b)
 | .bool a, .bool b=>some (a==b)
 |_,_=>none
def a5L(k:AV):List (AV×AV×Nat)→Nat→Option (Option (Nat×AV×Nat))
 | [],_=>some none
 |(k',v,n)::es,i=>match b8U k k' with
  |some true=>some (some (i,v,n))
  |some false=>a5L k es (i+1)
  |none=>none
def a4e(t:TypeId)(k:AV):Bool:=match P.underlying t,k with
 |some (.int _), .int _ _|some .string, .str _|some .bool, .bool _=>true
 |_,_=>false
def a2b(H:AHeap):AV→Option (List (AV×AV×Nat))
 | .nilMap=>some []
 | .map k=>match H.get k with
  |some (.map es _)=>some es
  |_=>none
 |_=>none
def b9z(e:TypeId):Option (Option (Nat×AV×Nat))→Option (AV×Bool)
 |some (some (_,v,_))=>some (v,true)
 |some none=>(G7 P e).map fun z=>(z,false)
 |none=>none
def a1g(H:AHeap)(t:TypeId)(x ix:AV)(ok:Bool):Option AV:=
 match P.underlying t with
 |some (.map kt e)=>if a4e P kt ix then
   (a2b H x).bind fun es=>(b9z P e (a5L ix es 0)).bind fun r=>some (if ok then .tup [r.1, .bool r.2]else r.1)
  else none
 |_=>none
def P5(H:AHeap)(t:TypeId)(m key v:AV):Option AHeap:=
 match P.underlying t,m with
 |some (.map kt _), .map k=>if a4e P kt key then match H.get k with
   |some (.map es clock)=>match a5L key es 0 with
    |some (some (i,_,n))=>some (H.set k (.map (es.set i (key,v,n)) clock))
    |some none=>some (H.set k (.map (es++[(key,v,clock)]) (clock+1)))
    |none=>none
   |_=>none
  else none
 |_,_=>none
def a2v(H:AHeap)(t:TypeId)(m key:AV):Option (AV×AHeap):=
 match P.underlying t,m with
 |some (.map kt e), .map k=>if a4e P kt key then match H.get k with
   |some (.map es clock)=>match a5L key es 0 with
    |some (some (i,v,n))=>some (.tup [v, .int .i64 n],H.set k (.map (es.set i (key,v,n)) clock))
    |some none=>match G7 P e with
     |some z=>some (.tup [z, .int .i64 clock],H.set k (.map (es++[(key,z,clock)]) (clock+1)))
     |none=>none
    |none=>none
   |_=>none
  else none
 |_,_=>none
def D1(H:AHeap)(m stamp v:AV):Option AHeap:=
 match m,stamp with
 | .map k, .int _ n=>match H.get k with
  |some (.map es clock)=>match es.findIdx? (fun e=>(e.2.2:Int)==n) with
   |some i=>match es[i]? with
    |some e=>some (H.set k (.map (es.set i (e.1,v,e.2.2)) clock))
    |none=>none
   |none=>none
  |_=>none
 |_,_=>none
def a6k(x:AV)(asserted:TypeId)(ok:Bool):Option AV:=
 match P.underlying asserted with
 |some (.interface _)=>none
 |some _=>
  let fails:Option AV:=if ok then(G7 P asserted).map fun z=> .tup [z, .bool false]else none
  match x with
  | .nilIfc=>fails
  | .ifc t v=>if t=asserted then some (if ok then .tup [v, .bool true]else v) else fails
  |_=>none
 |none=>none
def b0D(t:TypeId)(x:AV):Option Nat:=
 match P.underlying t,x with
 |some .string, .str s=>some s.length
 |some (.slice _), .nilSlc=>some 0
 |some (.slice _), .slc _ _ len _ _ _=>some len
 |some (.array n _),_=>some n
 |_,_=>none
def a1P(H:AHeap)(t:TypeId)(x:AV):Option Nat:=
 match P.underlying t,x with
 |some (.map _ _), .nilMap=>some 0
 |some (.map _ _), .map k=>match H.get k with
  |some (.map es _)=>some es.length
  |_=>none
 |_,_=>none
def b9w(t:TypeId)(x:AV):Option Nat:=
 match P.underlying t,x with
 |some (.slice _), .nilSlc=>some 0
 |some (.slice _), .slc _ _ _ cap true _=>some cap
 |some (.array n _),_=>some n
 |_,_=>none
def U5(H:AHeap)(size n:Nat):AV→Option (List AV)
 | .nilSlc=>some []
 | .slc o i _ _ _ _=>F4 E H o i (n*size)
 | .str s=>some ((s.take n).map fun b=> .int .u8 b.toNat)
 |_=>none
def a1J:AV→Option Nat
 | .nilSlc=>some 0
 | .slc _ _ len _ _ _=>some len
 | .str s=>some s.length
 |_=>none
def J6(H:AHeap)(size bytes:Nat)(s:AV)(n:Nat)(news:List AV):Option (AV×AHeap):=
 if news.length=n*size then
  match s with
  | .nilSlc=>
   if n=0 then some (.nilSlc,H)
   else if 0<bytes∧(2*n+768)*bytes≤2^47 then some (.slc (.new H.next) 0 n n false size,newCells H news)
   else none
  | .slc o i len cap ex sz=>
   if n=0 then some (s,H)
   else if 0<bytes∧(2*(len+n)+768)*bytes≤2^47 then
    if ex&&cap<len+n then
     match B5 E H o i (len*size) with
     |some olds=>some (.slc (.new H.next) 0 (len+n) (len+n) false size,newCells H (olds++news))
     |none=>none
    else match o with
     | .old _=>none
     | .new k=>match H.get k with
      |some (.cells cs true pre)=>
       if sz=size∧i+len*size≤cs.length∧news.all m9 then
        if i+len*size<cs.length then
         some (.slc (.new H.next) 0 (len+n) (len+n) false size,
          (((H.killAll pre).set k (.cells (cs.take (i+len*size)) false [])).new (.cells ((cs.take (i+len*size)).drop i++news) true [k])))
        else
         some (.slc (.new H.next) 0 (len+n) (len+n) false size,
          ((H.set k (.cells cs false pre)).new (.cells (cs.drop i++news) true (k::pre))))
       else none
      |_=>none
   else none
  |_=>none
 else none
def Y8(H:AHeap)(sT:TypeId)(s:AV)(xT:TypeId)(x:AV):Option (AV×AHeap):=do
 let e←a4j P sT
 let size←A4 P e
 let bytes←a5X P e
 let z←G7 P e
 if z.cells.length=size then
  match P.underlying xT with
  |some (.int _)=>do
   let l←R7 x
   if IntKind.i64.wrap l=l∧0≤l∧l*bytes≤2^47 then J6 E H size bytes s l.toNat (rep z.cells l.toNat) else none
  |some _=>do
   let n←a1J x
   let news←U5 E H size n x
   J6 E H size bytes s n news
  |none=>none
 else none
def a8h(H:AHeap)(dT:TypeId)(d x:AV):Option (AV×AHeap):=do
 let e←a4j P dT
 let size←A4 P e
 let k←a1J x
 match d with
 | .nilSlc=>some (.int .i64 0,H)
 | .slc o i len _ _ _=>
  let n:=min k len
  let news←U5 E H size n x
  let H'←z8 H o i news
  some (.int .i64 n,H')
 |_=>none
def a1W(isMax:Bool):List AV→Option AV
 | []=>none
 |x::rest=>rest.foldlM (fun x y=>match x,y with
  | .int k a, .int _ b=>some (.int k (if isMax then(if b>a then b else a) else(if b<a then b else a)))
  |_,_=>none) x
inductive W7 where
 |val (v:AV) (H:AHeap)
 |call (f:FuncId) (args:List AV) (H:AHeap)
inductive X4 where
 |val (v:AV)
 |var (o:Id) (i:Nat)
def X4.get(H:AHeap)(t:TypeId):X4→Option AV
 | .val v=>some v
 | .var o i=>H4 P E H t o i
def P3(H:AHeap):List FieldStep→TypeId→X4→Option (TypeId×X4)
 | [],t,x=>some (t,x)
 |s::rest,t,x=>do
  let f←a2M P s.struct s.index
  if(A4 P f.type).isSome∧A4 P f.type≠some 0 then
   if s.deref then
    match←x.get P E H t with
    | .ptr o i=>P3 H rest f.type (.var o (i+f.offset))
    |_=>none
   else match x with
    | .var o i=>P3 H rest f.type (.var o (i+f.offset))
    | .val (.agg cs)=>do P3 H rest f.type (.val (←a9J P f.type cs f.offset))
    |_=>none
  else none
def Z3(H:AHeap)(t:TypeId)(v:AV)(name:String):Option (FuncId×AV):=do
 let info←P.info? t
 let m←info.methods.find? (·.name==name)
 let (xt,x)←P3 P E H m.path.toList t (.val v)
 let (f,ptrRecv)←m.func
 match P.underlying xt,ptrRecv,x with
 |some (.pointer _),true,x=>(x.get P E H xt).map fun r=>(f,r)
 |some (.pointer _),false,_=>none
 |some _,true, .var o i=>some (f, .ptr o i)
 |some _,true, .val _=>none
 |some _,false,x=>(x.get P E H xt).map fun r=>(f,r)
 |none,_,_=>none
def a3L(f:FuncId):Bool:=match P.funcs[f]? with
 |some fn=>fn.body.isSome&&fn.name != "runtime.NumGoroutine"
 |none=>false
def J7(H:AHeap)(f:FuncId)(args:List AV):Option W7:=if a3L P f then some (.call f args H) else none
def Q8(H:AHeap)(c:Call)(ρ:Operand→AV):Option W7:=
 let args:=c.args.toList.map ρ
 match c.callee with
 | .value f=>match ρ f with
  | .fn (.func g) first captured=>J7 P H g (first++args++captured)
  | .fn (.method name) first captured=>match captured,first++args with
   | [], .ifc t v::rest=>(Z3 P E H t v name).bind fun(g,r)=>J7 P H g (r::rest)
   |_,_=>none
  | .fn (.via t path g pointer) first captured=>match captured,path.toList,first++args,P.underlying t with
   | [],[],x::rest,some (.pointer _)=>if pointer then J7 P H g (x::rest) else none
   |_,_,_,_=>none
  |_=>none
 | .invoke recv name=>match ρ recv with
  | .ifc t v=>(Z3 P E H t v name).bind fun(g,r)=>J7 P H g (r::args)
  |_=>none
 | .builtin b=>match b,args,c.argTypes.toList with
  | .append,[s,x],[sT,xT]=>(Y8 P E H sT s xT x).map fun r=> .val r.1 r.2
  | .len,[x],[t]=>match b0D P t x with
   |some n=>some (.val (.int .i64 n) H)
   |none=>(a1P P H t x).map fun(n:Nat)=> .val (.int .i64 n) H
  | .cap,[x],[t]=>(b9w P t x).map fun(n:Nat)=> .val (.int .i64 n) H
  | .copy,[d,x],dT::_=>(a8h P E H dT d x).map fun r=> .val r.1 r.2
  | .min,l,_=>(a1W false l).map fun v=> .val v H
  | .max,l,_=>(a1W true l).map fun v=> .val v H
  |_,_,_=>none
def V8(T:List AV)(H:AHeap)(o:Oper):Option W7:=
 let ρ:=i4 T
 let v (r:Option AV):Option W7:=r.map fun x=> .val x H
 let vh (r:Option (AV×AHeap)):Option W7:=r.map fun x=> .val x.1 x.2
 let h (r:Option AHeap):Option W7:=r.map fun H'=> .val s8 H'
 match o.op with
 | .move x| .assign x=>some (.val (ρ x) H)
 | .pick c a b=>match ρ c with
  | .bool t=>some (.val (if t then ρ a else ρ b) H)
  |_=>none
 | .alloc e=>match G7 P e with
  |some z=>some (.val (.ptr (.new H.next) 0) (newCells H z.cells))
  |none=>none
 | .box _ x=>some (.val (.ptr (.new H.next) 0) (newCells H (ρ x).cells))
 | .build t parts=>v (a7Y P t (parts.toList.map fun p=>(p.1,ρ p.2)))
 | .buildSlice t len parts=>vh (I2 P H t len (parts.toList.map fun p=>(p.1,ρ p.2)))
 | .load t a=>match ρ a with
  | .ptr o i=>v (H4 P E H t o i)
  |_=>none
 | .store t a x=>match ρ a with
  | .ptr o i=>if A4 P t=some (ρ x).cells.length then h (z8 H o i (ρ x).cells) else none
  |_=>none
 | .nilCheck x=>match ρ x with
  | .nilPtr| .nilIfc| .nilFn| .opq _=>none
  | .fn (.method _) _ _=>none
  |y=>some (.val y H)
 | .binOp op t x y _=>if a0j P op t x y (ρ x) (ρ y) then v (a9Y P op t (ρ x) (ρ y)) else none
 | .unOp op _ x=>v (unA op (ρ x))
 | .convert src dst x=>vh (J3 P E H src dst (ρ x))
 | .makeInterface t x=>match P.underlying t with
  |some (.interface _)=>none
  |some _=>some (.val (.ifc t (ρ x)) H)
  |none=>none
 | .makeFunc fn first captured=>some (.val (.fn fn (first.toList.map ρ) (captured.toList.map ρ)) H)
 | .makeMap _ r=>match r with
  |none=>some (.val (.map H.next) (H.new (.map [] 0)))
  |some _=>none
 | .makeSlice t l c=>vh (I6 P H t (ρ l) (ρ c))
 | .slice t x lo hi mx=>v (a0G P H t (ρ x) (lo.map ρ) (hi.map ρ) (mx.map ρ))
 | .fieldAddr s x f=>v (a3E P s (ρ x) f)
 | .field s x f=>v (b0b P s (ρ x) f)
 | .indexAddr t x ix=>v (a0o P t (ρ x) (ρ ix))
 | .index t x ix=>v (a7n P t (ρ x) (ρ ix))
 | .lookup t x ix ok=>v (a1g P H t (ρ x) (ρ ix) ok)
 | .mapUpdate t m k x| .insert t m k x=>h (P5 P H t (ρ m) (ρ k) (ρ x))
 | .mapEntry t m k=>vh (a2v P H t (ρ m) (ρ k))
 | .entryStore _ m s x=>h (D1 H (ρ m) (ρ s) (ρ x))
 | .typeAssert x _ asserted ok=>v (a6k P (ρ x) asserted ok)
 | .extract t ix=>match ρ t with
  | .tup vs=>v (vs[ix]?)
  |_=>none
 | .call c=>Q8 P E H c ρ
 |_=>none
end ops
inductive j7 where
 |normal
 |exit (id:Nat)
 |ret
 deriving DecidableEq,Repr
def a0X(T:List AV)(dst:Option Tmp)(v:AV):List AV:=match dst with
 |some d=>T.set d v
 |none=>T
def U8(ops:Array Oper)(T:List AV)(o:Oper):Option Bool:=
 match o.guard with
 |none=>some true
 |some (j,want)=>match (ops[j]?).bind (·.dst) with
  |none=>some false
  |some d=>match T[d]? with
   |some (.bool b)=>some (b==want)
   |some (.opq _)=>none
   |_=>some false
abbrev a9K:=FuncId→List AV→AHeap→Option (AV×AHeap)
section code
variable(P:Program)(E:g8)(call:a9K)
def b0V(ops:Array Oper)(T:List AV)(H:AHeap)(o:Oper):Option (AV×AHeap):=
 match U8 ops T o with
 |some true=>match V8 P E T H o with
  |some (.val v H')=>some (v,H')
  |some (.call f args H')=>call f args H'
  |none=>none
 |some false=>some (s8,H)
 |none=>none
mutual
def a0U:AV→AV→Bool
 | .bool a, .bool b=>a==b
 | .int j a, .int k b=>decide (j=k)&&a==b
 | .str a, .str b=>a==b
 | .nilPtr, .nilPtr=>true
 | .ptr o i, .ptr p j=>decide (o=p)&&i==j
 | .nilSlc, .nilSlc=>true
 | .slc o i n c e z, .slc p j m d f y=>decide (o=p)&&i==j&&n==m&&c==d&&e==f&&z==y
 | .nilMap, .nilMap=>true
 | .map k, .map l=>k==l
 | .fn f a b, .fn g c d=>decide (f=g)&&b1l a c&&b1l b d
 | .nilFn, .nilFn=>true
 | .ifc t v, .ifc u w=>t==u&&a0U v w
 | .nilIfc, .nilIfc=>true
 | .agg a, .agg b=>b1l a b
 | .tup a, .tup b=>b1l a b
 |_,_=>false
def b1l:List AV→List AV→Bool
 | [],[]=>true
 |a::l,b::m=>a0U a b&&b1l l m
 |_,_=>false
end
structure o9 where
 o:Oper
 anc:Nat
 T:List AV
 v:AV
 lo:Nat
 hi:Nat
 wr:Bool
 kv:List (Nat×Option G3)
def s9:G3→List Nat
 | .cells _ _ pre=>pre
 | .map .. =>[]
 | .iter .. =>[]
def b5M(lo hi:Nat)(H:AHeap):List (Nat×Option G3):=
 ((H.log.filter fun k=>decide (k<lo))++(List.range' lo (hi - lo)).filter fun k=>(H.get k).isSome).map fun k=>(k,H.get k)
def c6D(lim:Nat):Option G3→Option G3
 |some o=>if(s9 o).all (fun p=>decide (p<lim)) then some o else none
 |none=>none
def b8L(lim:Nat):List (Nat×Option G3)→AHeap→AHeap
 | [],H=>H
 |x::l,H=>b8L lim l (if x.1<lim then{ H with objs:=H.objs.set x.1 (c6D lim x.2) } else H)
def a3s(lim:Nat)(p:Nat→o9→Bool):Nat→List o9→AHeap→AHeap
 |_,[],H=>H
 |j,d::ds,H=>a3s lim p (j+1) ds (if p j d then b8L lim d.kv H else H)
def a7I(ds:List o9):List Edge→Nat→Option Nat
 | [],m=>some m
 |e::es,m=>if Region.binds .any e then
   match ds[e.on]? with
   |some d=>a7I ds es (m ||| 2^e.on ||| d.anc)
   |none=>none
  else a7I ds es m
def c3Y(p:Nat→o9→Bool):Nat→List o9→Bool
 |_,[]=>true
 |j,d::ds=>p j d&&c3Y p (j+1) ds
def atN(M:AHeap)(n:Nat):AHeap:= { M with next:=n,log:=[] }
def c6Z:Option G3→Option G3→Bool
 |none,none=>true
 |some (.cells a w p),some (.cells b x q)=>b1l a b&&w==x&&p==q
 |some (.map [] c),some (.map [] d)=>c==d
 |_,_=>false
def b6H:List (Nat×Option G3)→List (Nat×Option G3)→Bool
 | [],[]=>true
 |a::l,b::m=>a.1==b.1&&c6Z a.2 b.2&&b6H l m
 |_,_=>false
def b9s(ops:Array Oper)(M:AHeap)(d:o9):Bool:=
 match b0V P E call ops d.T (atN M d.lo) d.o with
 |some (v,H')=>a0U d.v v&&H'.next==d.hi&&H'.log.all (fun k=>decide (d.lo≤k))&&b6H d.kv (b5M d.lo d.hi H')
 |none=>false
def c0a(ops:Array Oper)(H:AHeap)(ds:List o9)(d:o9):Bool:=
 if d.wr then
  c3Y (fun j e=>d.anc.testBit j||(!e.wr&&d.kv.all (fun x=>decide (x.1<e.lo)||decide (e.hi≤x.1))&&
   b9s P E call ops (a3s e.lo (fun x f=>e.anc.testBit x||f.wr) 0 (ds++[d]) H) e)) 0 ds
 else
  c3Y (fun j e=> !e.wr||d.anc.testBit j||b9s P E call ops (a3s d.lo (fun x f=>d.anc.testBit x||(f.wr&&decide (x≤j))) 0 ds H) d) 0 ds
def b1z(H:AHeap)(fn:Func)(T:List AV):Option AV:=do
 let vs←fn.results.toList.mapM fun
  | .tmp t=>some (T.getD t s8)
  | .cell a t=>match T.getD a s8 with
   | .ptr o i=>H4 P E H t o i
   |_=>none
 match vs with
 | [v]=>some v
 |vs=>some (.tup vs)
end code
end Go.Am
end
section
namespace Go.Am
theorem Trie.get_setF{α:Type}:∀(f:Nat) (t:Trie α) (k:Nat) (x:Option α),k<f→(Trie.setF f t k x).get k=x
 |0,_,_,_,h=>by omega
 |f+1,t,0,x,_=>by cases t<;>simp[Trie.setF,Trie.get]
 |f+1,t,k+1,x,h=>by
  have ih:=fun t=>Trie.get_setF f t (k / 2) x (by omega)
  cases t<;>simp only[Trie.setF]<;>split<;>simp_all [Trie.get]
theorem Trie.get_nil{α:Type}(k:Nat):(Trie.nil:Trie α).get k=none:=by simp[Trie.get]
theorem Trie.get_setF_ne{α:Type}:∀(f:Nat) (t:Trie α) (k j:Nat) (x:Option α),k≠j→(Trie.setF f t k x).get j=t.get j
 |0,_,_,_,_,_=>rfl
 |f+1,t,0,j,x,h=>by
  obtain⟨j,rfl⟩:∃i,j=i+1:=⟨j - 1,by omega⟩
  cases t<;>simp[Trie.setF,Trie.get]
 |f+1,t,k+1,0,x,h=>by cases t<;>simp only[Trie.setF]<;>split<;>simp[Trie.get]
 |f+1,t,k+1,j+1,x,h=>by
  cases t with
  |nil=>
   simp only[Trie.setF,Trie.get]
   split<;>simp only[Trie.get]<;>split
   ·rw[Trie.get_setF_ne f _ _ _ _ (by omega),Trie.get_nil]
   ·rfl
   ·rfl
   ·rw[Trie.get_setF_ne f _ _ _ _ (by omega),Trie.get_nil]
  |node v l r=>
   simp only[Trie.setF]
   split<;>simp only[Trie.get]<;>split
   ·exact Trie.get_setF_ne f _ _ _ _ (by omega)
   ·rfl
   ·rfl
   ·exact Trie.get_setF_ne f _ _ _ _ (by omega)
theorem Trie.get_set{α:Type}(t:Trie α)(k j:Nat)(x:Option α):(t.set k x).get j=if k=j then x else t.get j:=by
 unfold Trie.set
 split
 ·rename_i h;subst h;exact Trie.get_setF _ _ _ _ (by omega)
 ·rename_i h;exact Trie.get_setF_ne _ _ _ _ _ h
namespace AHeap
variable(H:AHeap)
theorem get_set(k j:Nat)(o:G3):(H.set k o).get j=if k=j then some o else H.get j:=Trie.get_set ..
theorem b5E(k j:Nat):(H.kill k).get j=if k=j then none else H.get j:=Trie.get_set ..
theorem get_new(j:Nat)(o:G3):(H.new o).get j=if H.next=j then some o else H.get j:=Trie.get_set ..
@[simp] theorem next_set(k:Nat)(o:G3):(H.set k o).next=H.next:=rfl
@[simp] theorem b9j(k:Nat):(H.kill k).next=H.next:=rfl
@[simp] theorem next_new(o:G3):(H.new o).next=H.next+1:=rfl
@[simp] theorem next_killAll(ks:List Nat):∀H:AHeap,(H.killAll ks).next=H.next:=by
 induction ks with
 |nil=>intro H;rfl
 |cons k ks ih=>intro H;rw[killAll,ih];rfl
theorem get_killAll(ks:List Nat)(j:Nat):∀H:AHeap,(H.killAll ks).get j=if j∈ks then none else H.get j:=by
 induction ks with
 |nil=>intro H;simp[killAll]
 |cons k ks ih=>
  intro H
  rw[killAll,ih,b5E]
  by_cases h:j∈ks
  ·simp[h]
  ·by_cases e:k=j<;>simp[h,e]
   intro e';exact absurd e'.symm e
end AHeap
structure Loc where
 blk:Nat
 d:Nat
 n:Nat
abbrev u5:=Nat→Option Loc
def E4(ρ:u5):Id→Option (Nat×Nat)
 | .old b=>some (b,0)
 | .new k=>(ρ k).map fun l=>(l.blk,l.d)
def b3l(ρ:u5):Id→Nat→Prop
 | .old _,_=>True
 | .new k,e=>∃l,ρ k=some l∧l.d+e≤l.n
mutual
def rel(ρ:u5):AV→Value→Prop
 | .bool b,v=>v= .bool b
 | .int k n,v=>v= .int k n
 | .str s,v=>v= .string ⟨s.toArray⟩
 | .nilPtr,v=>v= .pointer none
 | .ptr o i,v=>∃b d,E4 ρ o=some (b,d)∧v= .pointer (some ⟨b,d+i,none⟩)
 | .nilSlc,v=>v= .slice none 0 0
 | .slc o i len cap ex sz,v=>∃a c,v= .slice (some a) len c∧len≤c∧cap≤c∧(ex=true→c=cap)∧
   (c=0∨∃b d,E4 ρ o=some (b,d)∧a=⟨b,d+i,none⟩)∧b3l ρ o (i+c*sz)
 | .nilMap,v=>v= .map none
 | .map k,v=>∃l,ρ k=some l∧v= .map (some l.blk)
 | .fn f a b,v=>∃x y,v= .func f x y∧m6 ρ a x.toList∧m6 ρ b y.toList
 | .nilFn,v=>v= .nilFunc
 | .ifc t a,v=>∃x,v= .iface t x∧rel ρ a x
 | .nilIfc,v=>v= .nilIface
 | .agg cs,v=>∃x,v= .agg x∧m6 ρ cs x.toList
 | .tup cs,v=>∃x,v= .tuple x∧m6 ρ cs x.toList
 | .opq u,v=>v=u
def m6(ρ:u5):List AV→List Value→Prop
 | [],l=>l=[]
 |a::as,l=>∃v vs,l=v::vs∧rel ρ a v∧m6 ρ as vs
end
def Ext(ρ ρ':u5):Prop:=∀k l,ρ k=some l→ρ' k=some l
theorem Ext.refl(ρ:u5):Ext ρ ρ:=fun _ _ h=>h
theorem Ext.trans{a b c:u5}(h:Ext a b)(h':Ext b c):Ext a c:=fun k l e=>h' k l (h k l e)
section
variable{ρ ρ':u5}
theorem b6h(h:Ext ρ ρ'){o:Id}{x:Nat×Nat}(e:E4 ρ o=some x):E4 ρ' o=some x:=by
 cases o with
 |old b=>exact e
 |new k=>
  simp only[E4,Option.map_eq_some_iff]at e ⊢
  obtain⟨l,hl,rfl⟩:=e
  exact⟨l,h _ _ hl,rfl⟩
theorem c2Y(h:Ext ρ ρ'){o:Id}{e:Nat}(r:b3l ρ o e):b3l ρ' o e:=by
 cases o with
 |old b=>exact r
 |new k=>obtain⟨l,hl,hr⟩:=r;exact⟨l,h _ _ hl,hr⟩
mutual
theorem b5h(h:Ext ρ ρ'):∀(a:AV) (v:Value),rel ρ a v→rel ρ' a v
 | .bool _,_,r| .int _ _,_,r| .str _,_,r| .nilPtr,_,r| .nilSlc,_,r| .nilMap,_,r| .nilFn,_,r| .nilIfc,_,r| .opq _,_,r=>by
  simpa only[rel]using r
 | .ptr o i,v,r=>by
  simp only[rel]at r ⊢
  obtain⟨b,d,e,r⟩:=r
  exact⟨b,d,b6h h e,r⟩
 | .slc o i len cap ex sz,v,r=>by
  simp only[rel]at r ⊢
  obtain⟨a,c,e,h1,h2,h3,h4,h5⟩:=r
  exact⟨a,c,e,h1,h2,h3,h4.imp id (fun⟨b,d,e,r⟩=>⟨b,d,b6h h e,r⟩),c2Y h h5⟩
 | .map k,v,r=>by
  simp only[rel]at r ⊢
  obtain⟨l,e,r⟩:=r
  exact⟨l,h _ _ e,r⟩
 | .fn f a b,v,r=>by
  simp only[rel]at r ⊢
  obtain⟨x,y,e,r1,r2⟩:=r
  exact⟨x,y,e,H5 h a _ r1,H5 h b _ r2⟩
 | .ifc t a,v,r=>by
  simp only[rel]at r ⊢
  obtain⟨x,e,r⟩:=r
  exact⟨x,e,b5h h a _ r⟩
 | .agg cs,v,r=>by
  simp only[rel]at r ⊢
  obtain⟨x,e,r⟩:=r
  exact⟨x,e,H5 h cs _ r⟩
 | .tup cs,v,r=>by
  simp only[rel]at r ⊢
  obtain⟨x,e,r⟩:=r
  exact⟨x,e,H5 h cs _ r⟩
theorem H5(h:Ext ρ ρ'):∀(l:List AV) (v:List Value),m6 ρ l v→m6 ρ' l v
 | [],_,r=>by simpa only[m6]using r
 |a::l,v,r=>by
  simp only[m6]at r ⊢
  obtain⟨x,xs,e,r1,r2⟩:=r
  exact⟨x,xs,e,b5h h a _ r1,H5 h l _ r2⟩
end
theorem m7{l:List Value}:m6 ρ [] l↔l=[]:=by simp only[m6]
theorem j3{a:AV}{as:List AV}{v:Value}{vs:List Value}:m6 ρ (a::as) (v::vs)↔rel ρ a v∧m6 ρ as vs:=by
 simp only[m6]
 constructor
 ·rintro⟨x,xs,e,h1,h2⟩;cases e;exact⟨h1,h2⟩
 ·rintro⟨h1,h2⟩;exact⟨v,vs,rfl,h1,h2⟩
theorem t7{a:AV}{as:List AV}:¬m6 ρ (a::as) []:=by
 simp only[m6];rintro⟨_,_,e,_⟩;cases e
theorem b1v{v:Value}{vs:List Value}:¬m6 ρ [] (v::vs):=by simp only[m6];intro e;cases e
theorem u7:∀ {as:List AV} {vs:List Value},m6 ρ as vs→as.length=vs.length
 | [],[],_=>rfl
 | [],_::_,h=>(b1v h).elim
 |_::_,[],h=>(t7 h).elim
 |_::_,_::_,h=>by simp[u7 (j3.1 h).2]
theorem a2k:∀ {as:List AV} {vs:List Value} (_:m6 ρ as vs) (i:Nat) {a:AV},as[i]? =some a→∃v,vs[i]? =some v∧rel ρ a v
 | [],_,_,i,a,h=>by simp at h
 |_::_,[],r,_,_,_=>(t7 r).elim
 |a::as,v::vs,r,0,b,h=>by
  simp at h;subst h;exact⟨v,rfl,(j3.1 r).1⟩
 |a::as,v::vs,r,i+1,b,h=>by
  simp at h
  obtain⟨u,hu,hr⟩:=a2k (j3.1 r).2 i h
  exact⟨u,by simpa using hu,hr⟩
theorem O6{as bs:List AV}{vs ws:List Value}(h:m6 ρ as vs)(h':m6 ρ bs ws):m6 ρ (as++bs) (vs++ws):=by
 induction as generalizing vs with
 |nil=>rw[m7]at h;subst h;exact h'
 |cons a as ih=>
  cases vs with
  |nil=>exact(t7 h).elim
  |cons v vs=>rw[j3]at h;exact j3.2 ⟨h.1,ih h.2⟩
theorem a5R{as:List AV}{vs:List Value}(h:m6 ρ as vs)(n:Nat):m6 ρ (as.take n) (vs.take n):=by
 induction as generalizing vs n with
 |nil=>rw[m7]at h;subst h;simp[m7]
 |cons a as ih=>
  cases vs with
  |nil=>exact(t7 h).elim
  |cons v vs=>
   cases n with
   |zero=>simp[m7]
   |succ n=>rw[j3]at h;exact j3.2 ⟨h.1,ih h.2 n⟩
theorem b2O{as:List AV}{vs:List Value}(h:m6 ρ as vs)(n:Nat):m6 ρ (as.drop n) (vs.drop n):=by
 induction as generalizing vs n with
 |nil=>rw[m7]at h;subst h;simp[m7]
 |cons a as ih=>
  cases vs with
  |nil=>exact(t7 h).elim
  |cons v vs=>
   cases n with
   |zero=>exact h
   |succ n=>rw[j3]at h;exact ih h.2 n
theorem c1I{as:List AV}{vs:List Value}(h:m6 ρ as vs)(n:Nat){a:AV}{v:Value}(hv:rel ρ a v):m6 ρ (as.set n a) (vs.set n v):=by
 induction as generalizing vs n with
 |nil=>rw[m7]at h;subst h;simp[m7]
 |cons b as ih=>
  cases vs with
  |nil=>exact(t7 h).elim
  |cons u vs=>
   rw[j3]at h
   cases n with
   |zero=>exact j3.2 ⟨hv,h.2⟩
   |succ n=>exact j3.2 ⟨h.1,ih h.2 n⟩
theorem b6J{P:AV→Prop}{Q:Value→Prop}(hpq:∀a v,rel ρ a v→P a→Q v):∀ {as:List AV} {vs:List Value},m6 ρ as vs→(∀a∈as,P a)→∀v∈vs,Q v
 | [],[],_,_=>by simp
 | [],_::_,h,_=>(b1v h).elim
 |_::_,[],h,_=>(t7 h).elim
 |a::as,v::vs,h,hp=>by
  rw[j3]at h
  intro u hu
  rcases List.mem_cons.1 hu with rfl|hu
  ·exact hpq _ _ h.1 (hp a (by simp))
  ·exact b6J hpq h.2 (fun b hb=>hp b (by simp[hb])) u hu
theorem b0u(v:Value):rel ρ (b3E v) v:=by
 unfold b3E
 split<;>simp[rel]
theorem b3O:∀l:List Value,m6 ρ (l.map b3E) l
 | []=>m7.2 rfl
 |v::l=>j3.2 ⟨b0u v,b3O l⟩
theorem b2w(v:Value):rel ρ (c1f v) v:=by
 unfold c1f
 split
 ·rename_i cs;simp only[rel];exact⟨cs,rfl,b3O _⟩
 ·simp only[rel];exact⟨_,rfl,m7.2 rfl⟩
 ·exact b0u _
theorem a8H:rel ρ s8 undef:=by
 simp only[s8,undef,rel];exact⟨_,rfl,m7.2 rfl⟩
theorem c1G:∀l:List Value,m6 ρ (l.map .opq) l
 | []=>m7.2 rfl
 |v::l=>j3.2 ⟨by simp only[rel],c1G l⟩
theorem a0R{a:AV}{v:Value}(h:rel ρ a v):m6 ρ a.cells v.cells.toList:=by
 have key:∀(a:AV) (v:Value),rel ρ a v→a.cells=[a]→v.cells= #[v]→m6 ρ a.cells v.cells.toList:=by
  intro a v h h1 h2
  rw[h1,h2]
  exact j3.2 ⟨h,m7.2 rfl⟩
 cases a
 case agg cs=>simp only[rel]at h;obtain⟨x,rfl,r⟩:=h;exact r
 case opq u=>simp only[rel]at h;subst h;exact c1G _
 all_goals
  refine key _ _ h rfl ?_
  simp only[rel]at h
  first
   |(obtain⟨a,c,rfl,_⟩:=h;rfl)
   |(obtain⟨x,y,rfl,_⟩:=h;rfl)
   |(obtain⟨x,rfl,_⟩:=h;rfl)
   |(obtain⟨l,h0,rfl⟩:=h;rfl)
   |(obtain⟨b,d,h0,rfl⟩:=h;rfl)
   |(subst h;rfl)
theorem c3A{a:AV}{v:Value}(h:rel ρ a v)(hs:m9 a=true):¬(∃x,v= .agg x)∧¬(∃x,v= .tuple x):=by
 cases a<;>simp only[rel]at h<;>simp only[m9,Bool.false_eq_true]at hs
 case opq u=>subst h;cases v<;>simp_all
 all_goals
  first
   |(obtain⟨a,c,rfl,_⟩:=h)
   |(obtain⟨x,y,rfl,_⟩:=h)
   |(obtain⟨x,rfl,_⟩:=h)
   |(obtain⟨l,h0,rfl⟩:=h)
   |(obtain⟨b,d,h0,rfl⟩:=h)
   |(subst h)
  simp
end
end Go.Am
end
