/-
  BlocksCutsSaid: part Pap of its proof.
-/
import Derived.Test.YtdkidgkiplcggaaPao
set_option linter.unusedVariables false
set_option linter.unusedSimpArgs false
set_option maxRecDepth 100000
section
namespace Go.Am
section
def M6(E:g8)(R:Fz)(Q:D→b5→Prop)(v:AV)(H':AHeap):Prop:=B1 H'∧∃R' S' d,R.le R'∧s0 E R' S' H'∧Rp E R' d v∧Q d S'
abbrev DW:=FuncId→List D→b5→(D→b5→Prop)→Prop
def GoF(E:g8)(F:FW)(G:DW)(R:Fz)(S:b5)(H:AHeap):Prop:=∀f ds avs K,s7 E R ds avs→G f ds S K→F f avs H (M6 E R K)
def o6(S:b5)(cs:List D)(K:D→b5→Prop):Prop:=∀k acs,S k=none→K (.ptr k 0) (S.set k ⟨cs.length,[cs],acs⟩)
def c5t(S:b5)(sz:Nat)(rows:List (List D))(len cap:Nat)(ex:Bool)(K:D→b5→Prop):Prop:=
 K (.lst (rows.take len) sz) S∨∀k acs,S k=none→K (.raw k 0 len cap ex sz) (S.set k ⟨sz,rows,acs⟩)
def o7(sz:Nat):List (List D)→List (Nat×D)→Option (List (List D))
 |rows,[]=>some rows
 |rows,(i,v)::rest=>match s5 v with
  |some ds=>if ds.length=sz∧i<rows.length then o7 sz (rows.set i ds) rest else none
  |none=>none
def C7(S:b5)(sz:Nat)(rows:Option (List (List D)))(len:Nat)(K:D→b5→Prop):Prop:=b4 rows fun rs=>c5t S sz rs len len true K
def j1(S:b5)(n:Nat)(a x:D)(K:D→b5→Prop):Prop:=match s5 x with
 |some ds=>if ds.length=n∧0<n then match a with
  | .ptr k i=>match S k with
   |some o=>match o.rows with
    | [cs]=>if i+n≤cs.length then ∀acs,K b6 (S.set k ⟨o.sz,[j4 cs i ds],acs⟩) else False
    |_=>False
   |none=>False
  | .rel k r i sz=>match S k with
   |some o=>if o.sz=sz then match o.rows[r]? with
    |some row=>if i+n≤row.length then ∀acs,K b6 (S.set k ⟨sz,o.rows.set r (j4 row i ds),acs⟩) else False
    |none=>False
    else False
   |none=>False
  |_=>False
  else False
 |none=>False
def rowsS(S:b5)(sz:Nat)(x:D):Option (List (List D)):=match x with
 | .str s=>if sz=1 then some (s.map fun b=>[.int .u8 b.toNat]) else none
 |x=>C1 S sz x
def c6Q(acs:List AV):A2:=⟨b9d,[[],[]],acs⟩
def c9u(o:A2):Bool:=match o.rows with
 | [[],[]]=>o.sz==b9d
 |_=>false
theorem c8p{o:A2}(h:c9u o=true):o.sz=b9d∧o.rows=[[],[]]:=by
 unfold c9u at h
 split at h
 ·rename_i e;exact⟨by simpa using h,e⟩
 ·cases h
def a0h(S:b5)(sz bytes:Nat)(s:D)(news:List (List D))(K:D→b5→Prop):Prop:=match s with
 | .nilSlc=>if news=[]then K .nilSlc S else(0<bytes∧(2*news.length+768)*bytes≤2^47)∧c5t S sz news news.length news.length false K
 | .raw k i len cap ex z=>if news=[]then K s S else match S k with
  |some o=>if z=sz∧o.sz=sz∧i+len≤o.rows.length then(0<bytes∧(2*(len+news.length)+768)*bytes≤2^47)∧
    c5t (S.erase k) sz ((o.rows.drop i).take len++news) (len+news.length) (len+news.length) false K else False
  |none=>False
 | .lst _ _| .ext _ _ _=>if news=[]then K s S else False
 | .tip k rows z=>if news=[]then K s S else match S k with
  |some o=>if z=sz∧c9u o=true then(0<bytes∧(2*(rows.length+news.length)+768)*bytes≤2^47)∧K (.lst (rows++news) sz) (S.erase k) else False
  |none=>False
 |_=>False
def u4(S:b5)(sz bytes:Nat)(s x:D)(K:D→b5→Prop):Prop:=match rowsS S sz x with
 |some news=>a0h S sz bytes s news K
 |none=>False
def b6P(S:b5)(sz bytes:Nat)(z:List D)(s x:D)(K:D→b5→Prop):Prop:=match x with
 | .int _ l=>if IntKind.i64.wrap l=l∧0≤l∧l*bytes≤2^47 then a0h S sz bytes s (List.replicate l.toNat z) K else False
 |_=>False
def c7i(S:b5)(sz:Nat)(d x:D)(K:D→b5→Prop):Prop:=match d with
 | .nilSlc=>match rowsS S sz x with
  |some _=>K (.int .i64 0) S
  |none=>False
 | .raw k i len cap ex z=>match rowsS S sz x,S k with
  |some rows,some o=>if z=sz∧o.sz=sz∧i+len≤o.rows.length∧0<sz then
    ∀acs,K (.int .i64 (min rows.length len:Nat)) (S.set k ⟨sz,o.rows.take i++(rows.take (min rows.length len)++o.rows.drop (i+min rows.length len)),acs⟩) else False
  |_,_=>False
 |_=>False
def c6r(S:b5)(sz bytes:Nat)(z:List D)(l c:D)(K:D→b5→Prop):Prop:=match l,c with
 | .int _ l, .int _ c=>if 0≤l∧l≤c∧bytes*c≤2^47∧c<2^63 then c5t S sz (List.replicate c.toNat z) l.toNat c.toNat true K else False
 |_,_=>False
def c3E(S:b5)(x:D)(K:D→b5→Prop):Prop:=match x with
 | .str s=>if s.length≤2^40 then c5t S 1 (s.map fun b=>[.int .u8 b.toNat]) s.length s.length false K else False
 |_=>False
def c8J(S:b5)(x:D)(K:D→b5→Prop):Prop:=match x with
 | .raw k i len cap ex sz=>match S k with
  |some o=>if len≠0∧o.sz=sz then K (.raw k i len cap ex sz) S∨((o.sz=sz∧i+len≤o.rows.length∧len≤cap)∧K (.lst ((o.rows.drop i).take len) sz) (S.erase k)) else False
  |none=>False
 |_=>False
def b5a(rows:List (List D))(acs:List AV):A2:=⟨H3,[]::[]::rows,acs⟩
def b7l(S:b5)(K:D→b5→Prop):Prop:=∀k acs,S k=none→K (.mp k) (S.set k (b5a [] acs))
def c7t(rows:List (List D))(n:Nat):Prop:=∀row∈rows,row[2]? ≠some (.int .i64 (n:Int))
def b4t(S:b5)(kk:Nat)(m key x:D)(K:D→b5→Prop):Prop:=match m with
 | .mp k=>if b1N kk key then(match S k with
  |some o=>match a6S o with
   |some rows=>match a9q key rows 0 with
    |some (some (i,_,n))=>∀acs,K b6 (S.set k (b5a (rows.set i [key,x,n]) acs))
    |some none=>∀n acs,c7t rows n→K b6 (S.set k (b5a (rows++[[key,x, .int .i64 (n:Int)]]) acs))
    |none=>False
   |none=>False
  |none=>False) else False
 |_=>False
def c8U(S:b5)(kk:Nat)(z m key:D)(K:D→b5→Prop):Prop:=match m with
 | .mp k=>if b1N kk key then(match S k with
  |some o=>match a6S o with
   |some rows=>match a9q key rows 0 with
    |some (some (i,v,n))=>∀acs,K (.tup [v,n]) (S.set k (b5a (rows.set i [key,v,n]) acs))
    |some none=>∀n acs,c7t rows n→K (.tup [z, .int .i64 (n:Int)]) (S.set k (b5a (rows++[[key,z, .int .i64 (n:Int)]]) acs))
    |none=>False
   |none=>False
  |none=>False) else False
 |_=>False
def c9M(S:b5)(m s x:D)(K:D→b5→Prop):Prop:=match m with
 | .mp k=>match S k with
  |some o=>match a6S o with
   |some rows=>∃i key v,rows[i]? =some [key,v,s]∧∀acs,K b6 (S.set k (b5a (rows.set i [key,x,s]) acs))
   |none=>False
  |none=>False
 |_=>False
def b8I(o:A2):Option (Nat×List D×List (List D)):=if o.sz=b4m then(match o.rows with
 | [.mp m]::sr::rows=>some (m,sr,rows)
 |_=>none) else none
def b0a(S:b5)(x:D)(K:D→b5→Prop):Prop:=match x with
 | .mp m=>match S m with
  |some o=>match a6S o with
   |some rows=>∀j acs,S j=none→K (.ptr j 0) ((S.erase m).set j ⟨b4m,[.mp m]::[]::rows,acs⟩)
   |none=>False
  |none=>False
 |_=>False
def b8F(S:b5)(it:D)(K:D→b5→Prop):Prop:=match it with
 | .ptr j 0=>match S j with
  |some o=>match b8I o with
   |some (m,sr,rows)=>(∀key x n,[key,x,n]∈rows→n ∉ sr→∀acs,K (.tup [.bool true,key,x]) (S.set j ⟨b4m,[.mp m]::(sr++[n])::rows,acs⟩))∧((∀key x n,[key,x,n]∈rows→n∈sr)→K (.tup [.bool false]) S)
   |none=>False
  |none=>False
 |_=>False
def b2L(S:b5)(it:D)(K:D→b5→Prop):Prop:=match it with
 | .ptr j 0=>match S j with
  |some o=>match b8I o with
   |some (_,sr,rows)=>∃key x n,[key,x,n]∈rows∧sr.getLast? =some n∧K (.tup [key,x]) S
   |none=>False
  |none=>False
 |_=>False
section
variable(P:Program)
def b9e(t:TypeId):Option Nat:=match P.underlying t with
 |some (.map kt _)=>b1A P kt
 |_=>none
def c9N(t:TypeId):Option D:=match P.underlying t with
 |some (.map _ e)=>(G7 P e).map c1A
 |_=>none
def a9O(G:DW)(S:b5)(f:FuncId)(args:List D)(K:D→b5→Prop):Prop:=if a3L P f then G f args S K else False
def a7h(G:DW)(S:b5)(f:D)(args:List D)(K:D→b5→Prop):Prop:=match f with
 | .fn (.func g) a b=>a9O P G S g (a++args++b) K
 | .fn (.via t path g pointer) a b=>match b,path.toList,a++args,P.underlying t with
  | [],[],x::rest,some (.pointer _)=>if pointer then a9O P G S g (x::rest) K else False
  |_,_,_,_=>False
 |_=>False
def c5c(t:TypeId)(name:String):Option FuncId:=match P.info? t with
 |some info=>match info.methods.find? (·.name==name) with
  |some m=>match m.path.toList,m.func,P.underlying t with
   | [],some (f,true),some (.pointer _)=>some f
   | [],some (f,false),some (.struct _)| [],some (f,false),some (.int _)| [],some (f,false),some .string| [],some (f,false),some (.slice _)=>some f
   |_,_,_=>none
  |none=>none
 |none=>none
def c0p(G:DW)(S:b5)(r:D)(name:String)(args:List D)(K:D→b5→Prop):Prop:=match r with
 | .ifc t v=>match c5c P t name with
  |some f=>a9O P G S f (v::args) K
  |none=>False
 |_=>False
def zeroCells(t:TypeId):Option (List D):=match G7 P t with
 |some z=>s5 (c1A z)
 |none=>none
def c9p(G:DW)(T:List D)(S:b5)(o:Oper)(K:D→b5→Prop):Prop:=
 match o.op with
 | .alloc e=>match zeroCells P e with
  |some cs=>o6 S cs K
  |none=>False
 | .box _ x=>b4 (s5 (q7 T x)) fun cs=>o6 S cs K
 | .buildSlice t len parts=>match a4j P t with
  |some e=>match A4 P e,zeroCells P e with
   |some sz,some z=>if(z.length=sz∧sz<H3)∧len*sz≤2^24 then C7 S sz (o7 sz (List.replicate len z) (parts.toList.map fun p=>(p.1,q7 T p.2))) len K else False
   |_,_=>False
  |none=>False
 | .store t a x=>match A4 P t with
  |some n=>j1 S n (q7 T a) (q7 T x) K
  |none=>False
 | .convert src dst x=>match P.underlying src,P.underlying dst with
  |some .string,some (.slice e)=>match P.underlying e with
   |some (.int .u8)=>c3E S (q7 T x) K
   |_=>False
  |some (.slice _),some (.slice e)=>match P.underlying e with
   |some (.int .u8)=>if src=dst then c8J S (q7 T x) K else False
   |_=>False
  |_,_=>False
 | .makeSlice t l c=>match a4j P t with
  |some e=>match A4 P e,a5X P e,zeroCells P e with
   |some sz,some bytes,some z=>if z.length=sz∧sz<H3 then c6r S sz bytes z (q7 T l) (q7 T c) K else False
   |_,_,_=>False
  |none=>False
 | .makeMap _ r=>match r with
  |none=>b7l S K
  |some _=>False
 | .mapUpdate t m k x| .insert t m k x=>match b9e P t with
  |some kk=>b4t S kk (q7 T m) (q7 T k) (q7 T x) K
  |none=>False
 | .mapEntry t m k=>match b9e P t,c9N P t with
  |some kk,some z=>c8U S kk z (q7 T m) (q7 T k) K
  |_,_=>False
 | .entryStore _ m s x=>c9M S (q7 T m) (q7 T s) (q7 T x) K
 | .range t x=>match P.underlying t with
  |some (.map _ _)=>b0a S (q7 T x) K
  |_=>False
 | .next it s=>match s with
  |true=>False
  |false=>b8F S (q7 T it) K
 | .entry it=>b2L S (q7 T it) K
 | .call c=>match c.callee with
  | .value (.func g)=>if a3L P g then G g (c.args.toList.map (q7 T)) S K else False
  | .value f=>a7h P G S (q7 T f) (c.args.toList.map (q7 T)) K
  | .invoke r name=>c0p P G S (q7 T r) name (c.args.toList.map (q7 T)) K
  | .builtin b=>match b,c.args.toList.map (q7 T),c.argTypes.toList with
   | .append,[s,x],[sT,xT]=>match a4j P sT with
    |some e=>match A4 P e,a5X P e,zeroCells P e,P.underlying xT with
     |some sz,some bytes,some z,some (.slice _)|some sz,some bytes,some z,some .string=>if z.length=sz∧sz<H3 then u4 S sz bytes s x K else False
     |some sz,some bytes,some z,some (.int _)=>if z.length=sz∧sz<H3 then b6P S sz bytes z s x K else False
     |_,_,_,_=>False
    |none=>False
   | .copy,[d,x],dT::_=>match a4j P dT with
    |some e=>match A4 P e with
     |some sz=>c7i S sz d x K
     |none=>False
    |none=>False
   |_,_,_=>False
 |_=>False
end
section
variable{P:Program}{E:g8}{R:Fz}{S:b5}{H:AHeap}
theorem a1n:∀(vs cs:List D) (i j:Nat),(j4 cs i vs)[j]? =if i≤j∧j<i+vs.length∧j<cs.length then vs[j - i]? else cs[j]? :=by
 intro vs
 induction vs with
 |nil=>intro cs i j;simp only[j4,List.length_nil];rw[if_neg (by omega)]
 |cons v vs ih=>
  intro cs i j
  simp only[j4]
  rw[ih,List.length_set,List.getElem?_set,List.length_cons]
  by_cases h:i=j
  ·subst h
   rw[if_neg (by omega),if_pos rfl]
   by_cases hl:i<cs.length
   ·rw[if_pos hl,if_pos ⟨by omega,by omega,hl⟩,Nat.sub_self];rfl
   ·rw[if_neg hl,if_neg (by omega)]
    exact(List.getElem?_eq_none (by omega)).symm
  ·rw[if_neg h]
   by_cases hc:i+1≤j∧j<i+1+vs.length∧j<cs.length
   ·rw[if_pos hc,if_pos ⟨by omega,by omega,hc.2.2⟩,show j - i=(j - (i+1))+1 by omega]
    rfl
   ·rw[if_neg hc,if_neg (by omega)]
theorem a9z:∀ {rows:List (List D)} {sz i:Nat} {ds:List D},(∀row∈rows,row.length=sz)→ds.length=sz→i<rows.length→j4 rows.flatten (i*sz) ds=(rows.set i ds).flatten:=by
 intro rows sz i ds h hd hi
 refine List.ext_getElem? fun j=> ?_
 rw[a1n]
 induction rows generalizing i j with
 |nil=>simp at hi
 |cons r rs ih=>
  have hr:=h r List.mem_cons_self
  have hrs:∀row∈rs,row.length=sz:=fun x hx=>h x (List.mem_cons_of_mem _ hx)
  have hfl:=r6 h
  cases i with
  |zero=>
   simp only[List.set_cons_zero,List.flatten_cons,Nat.zero_mul,Nat.zero_le,true_and,Nat.zero_add,Nat.sub_zero]
   rw[List.getElem?_append,List.getElem?_append,List.length_append]
   by_cases hj:j<sz
   ·rw[if_pos ⟨by omega,by omega⟩,if_pos (by omega)]
   ·rw[if_neg (by omega),if_neg (by omega),if_neg (by omega),hr,hd]
  |succ i=>
   have hi':i<rs.length:=by simpa using hi
   simp only[List.set_cons_succ,List.flatten_cons]
   rw[List.getElem?_append,List.getElem?_append,List.length_append]
   by_cases hj:j<r.length
   ·rw[if_neg (by rw[Nat.succ_mul];omega),if_pos hj,if_pos hj]
   ·rw[if_neg hj,if_neg hj, ←ih hrs hi',Nat.succ_mul]
    by_cases hc:i*sz≤j - r.length∧j - r.length<i*sz+ds.length∧j - r.length<rs.flatten.length
    ·rw[if_pos (by omega),if_pos hc]
     congr 1;omega
    ·rw[if_neg (by omega),if_neg hc]
theorem c2s{sz:Nat}:∀ {parts:List (Nat×D)} {ps:List (Nat×AV)} {rows r:List (List D)} {ws:List AV},RpP E R parts ps→(∀row∈rows,row.length=sz)→s7 E R rows.flatten ws→ws.all m9=true→o7 sz rows parts=some r→
  ∃us,(∀row∈r,row.length=sz)∧r.length=rows.length∧s7 E R r.flatten us∧us.all m9=true∧a5H (fun i=>some (i*sz,sz)) ws ps=some us
 | [],ps,rows,r,ws,hp,hl,hw,hs,h=>by
  have hp':ps=[]:=hp
  subst hp'
  cases h
  exact⟨ws,hl,rfl,hw,hs,rfl⟩
 |(i,d)::parts,ps,rows,r,ws,hp,hl,hw,hs,h=>by
  obtain⟨v,vs,rfl,hd,hp⟩:=hp
  simp only[o7]at h
  split at h
  ·rename_i ds hds
   split at h
   ·rename_i hc
    obtain⟨g1,g2⟩:=a7o hd hds
    have hw':s7 E R (rows.set i ds).flatten (z7 ws (i*sz) v.cells):=by
     rw[←a9z hl hc.1 hc.2]
     exact a0V hw g1
    have hl':∀row∈rows.set i ds,row.length=sz:=fun row hr=>by
     rcases List.mem_or_eq_of_mem_set hr with hr|rfl
     ·exact hl row hr
     ·exact hc.1
    obtain⟨us,k1,k2,k3,k4,k5⟩:=c2s hp hl' hw' (O0 hs g2) h
    refine⟨us,k1,by rw[k2,List.length_set],k3,k4, ?_⟩
    simp only[a5H]
    rw[if_pos,k5]
    have hwl:=hw.length
    rw[r6 hl]at hwl
    rw[g1.length,hwl,hc.1]
    have:(i+1)*sz≤rows.length*sz:=Nat.mul_le_mul_right _ hc.2
    rw[Nat.succ_mul]at this
    exact⟨rfl,this⟩
   ·cases h
  ·cases h
theorem b1G{z:List AV}{zd:List D}(h:s7 E R zd z):∀n:Nat,s7 E R (List.replicate n zd).flatten (rep z n)
 |0=>A7
 |n+1=>by
  rw[List.replicate_succ,List.flatten_cons]
  exact h.append (b1G h n)
theorem a6v{z:List AV}(h:z.all m9=true):∀n:Nat,(rep z n).all m9=true
 |0=>rfl
 |n+1=>by
  show(z++rep z n).all m9=true
  rw[List.all_append,h,a6v h n];rfl
theorem b1X{t:TypeId}{cs:List D}(h:zeroCells P t=some cs):∃z,G7 P t=some z∧s7 E R cs z.cells∧z.cells.all m9=true:=by
 unfold zeroCells at h
 cases hz:G7 P t with
 |none=>rw[hz]at h;cases h
 |some z=>
  rw[hz]at h
  obtain⟨g1,g2⟩:=a7o (E:=E) (R:=R) (a8I (v:=z)) h
  exact⟨z,rfl,g1,g2⟩
theorem c4i{cs:List AV}{rows:List (List D)}{sz:Nat}{H':AHeap}{q:List Nat}{S':b5}(F:B1 H)(hC0:s0 E R S' H)(F':B1 H')(hC:s0 E R S' H')(hg:H'.get H.next=some (.cells cs true q))(hq:∀p∈q,R p=none)(hl:∀row∈rows,row.length=sz)(hr:s7 E R rows.flatten cs)(hs:cs.all m9=true):
  S' H.next=none∧s0 E R (S'.set H.next ⟨sz,rows,cs⟩) H':=
 ⟨hC0.fresh.2,hC.put hC0.fresh.1 (o:=⟨sz,rows,cs⟩) hg hq hs hl hr⟩
theorem c2N(F:B1 H)(hC:s0 E R S H){cs:List D}{vs:List AV}(hr:s7 E R cs vs)(hs:vs.all m9=true){K:D→b5→Prop}(h:o6 S cs K):M6 E R K (.ptr (.new H.next) 0) (newCells H vs):=by
 obtain⟨a,b,c,d⟩:=F.newCells vs
 obtain⟨h1,h2⟩:=c4i (rows:=[cs]) (sz:=cs.length) F hC d (hC.stays d b) a (fun p hp=>by cases hp) (fun row hr=>by rw[List.mem_singleton.1 hr]) (by rw[List.flatten_singleton];exact hr) hs
 exact⟨d,R,_,_,Fz.le_refl R,h2,by simp only[Rp],h H.next vs h1⟩
theorem b2a{cs:List AV}{rows:List (List D)}{sz len cap:Nat}{ex:Bool}{H':AHeap}{q:List Nat}{S':b5}(F:B1 H)(hC0:s0 E R S' H)(F':B1 H')(hC:s0 E R S' H')(hg:H'.get H.next=some (.cells cs true q))(hq:∀p∈q,R p=none)(hl:∀row∈rows,row.length=sz)(hr:s7 E R rows.flatten cs)(hs:cs.all m9=true)
  (hmz:sz<H3) (hlen:len≤rows.length) (hcap:len≤cap) {K:D→b5→Prop} (h:c5t S' sz rows len cap ex K):M6 E R K (.slc (.new H.next) 0 len cap ex sz) H':=by
 obtain⟨h1,h2⟩:=c4i F hC0 F' hC hg hq hl hr hs
 rcases h with h|h
 ·obtain⟨h3,h4⟩:=h2.freeze (b5.set_same S' H.next _) (.inl hmz)
  rw[b5.erase_set _ _ _ h1]at h3
  refine⟨F',_,S',_,h4,h3, ?_,h⟩
  have hle:((rows.take len)).length=len:=by rw[List.length_take];omega
  simp only[Rp]
  refine .inr ⟨.new H.next,0,cap,ex,sz,by rw[hle],rfl,by rw[hle];exact hcap,fun row hr=>hl row (List.mem_of_mem_take hr), .inr ⟨cs, ?_, ?_⟩⟩
  ·show(if H.next=H.next then some cs else R H.next)=some cs
   rw[if_pos rfl]
  ·rw[hle,List.drop_zero]
   refine⟨?_,G8 hs _⟩
   refine a0b.le h4 _ _ ?_
   rw[E5, ←Z1 hl]
   exact hr.take _
 ·exact⟨F',R,_,_,Fz.le_refl R,h2,by simp only[Rp];exact⟨hmz,by rw[Nat.zero_mul]⟩,h H.next cs h1⟩
theorem c6X(F:B1 H)(hC:s0 E R S H){a x:D}{va vx:AV}(ha:Rp E R a va)(hx:Rp E R x vx){t:TypeId}{n:Nat}(hn:A4 P t=some n){K:D→b5→Prop}(h:j1 S n a x K):
  b9I P H t va vx fun v H'=>M6 E R K v H':=by
 unfold j1 at h
 split at h
 ·rename_i ds hds
  obtain⟨g1,g2⟩:=a7o hx hds
  split at h
  ·rename_i hc
   obtain⟨hlen,h0⟩:=hc
   have hvl:=g1.length
   have fin:∀ {k j:Nat} {o:A2} {rows':List (List D)},S k=some o→(o.sz<H3∨∃cs,o.rows=[cs])→j+n≤o.acs.length→(∀row∈rows',row.length=o.sz)→rows'.flatten=j4 o.rows.flatten j ds→(∀acs,K b6 (S.set k ⟨o.sz,rows',acs⟩))→
     b4 (z8 H (.new k) j vx.cells) fun H'=>M6 E R K s8 H':=by
    intro k j o rows' hk hoc hj hl' hfl hK
    obtain⟨h1,⟨pre,h2⟩,h3,h4,h5⟩:=hC.cells hk hoc
    obtain⟨H',e1,e2,e3,e4,F'⟩:=F.stores h2 (n:=j) (vs:=vx.cells) (fun e=>by rw[e]at hvl;simp at hvl;omega) (by omega) g2
    rw[e1]
    refine⟨F',R,_,b6,Fz.le_refl R, ?_,W8,hK (z7 o.acs j vx.cells)⟩
    have hS:S.set k ⟨o.sz,rows',z7 o.acs j vx.cells⟩=(S.erase k).set k ⟨o.sz,rows',z7 o.acs j vx.cells⟩:=by
     funext i;simp only[b5.set,b5.erase];split<;>rfl
    rw[hS]
    refine(hC.but F' e3 hk (fun cs e=>by rw[h1]at e;cases e)).put h1 (pre:=[]) e2 (fun p hp=>by cases hp) (O0 h3 g2) hl' ?_
    show s7 E R rows'.flatten _
    rw[hfl]
    exact a0V h5 g1
   split at h
   ·rename_i k i
    simp only[Rp]at ha
    subst ha
    show(if A4 P t=some vx.cells.length then _ else False)
    rw[if_pos (by rw[hn,hvl,hlen])]
    split at h
    ·rename_i o hk
     split at h
     ·rename_i cs hcs
      split at h
      ·rename_i hi
       obtain⟨h1,⟨pre,h2⟩,h3,h4,h5⟩:=hC.cells hk (.inr ⟨_,hcs⟩)
       have hcl:cs.length=o.sz:=h4 cs (by rw[hcs];exact List.mem_singleton.2 rfl)
       have hal:=h5.length
       rw[hcs,List.flatten_singleton]at hal
       refine fin hk (.inr ⟨_,hcs⟩) (by omega) (fun row hr=>by rw[List.mem_singleton.1 hr,Q4,hcl]) (by rw[hcs,List.flatten_singleton,List.flatten_singleton]) h
      ·exact h.elim
     ·exact h.elim
    ·exact h.elim
   ·rename_i k r i sz
    simp only[Rp]at ha
    obtain⟨hmz,rfl⟩:=ha
    show(if A4 P t=some vx.cells.length then _ else False)
    rw[if_pos (by rw[hn,hvl,hlen])]
    split at h
    ·rename_i o hk
     split at h
     ·rename_i hsz
      split at h
      ·rename_i row hrow
       split at h
       ·rename_i hi
        have hom:o.sz<H3:=by rw[hsz];exact hmz
        obtain⟨h1,⟨pre,h2⟩,h3,h4,h5⟩:=hC.cells hk (.inl hom)
        have hrl:=h4 row (List.mem_of_getElem? hrow)
        have hlt:=(List.getElem?_eq_some_iff.1 hrow).1
        have hal:=h5.length
        rw[r6 h4]at hal
        have hle:(r+1)*o.sz≤o.rows.length*o.sz:=Nat.mul_le_mul_right _ hlt
        rw[Nat.succ_mul]at hle
        rw[←hsz]
        rw[←hsz]at h
        refine fin hk (.inl hom) (by omega) (fun row' hr=> ?_) ?_ h
        ·rcases List.mem_or_eq_of_mem_set hr with hr|rfl
         ·exact h4 row' hr
         ·rw[Q4,hrl]
        ·rw[←a9z h4 (by rw[Q4,hrl]) hlt]
         have hrow':=a8j h4 hrow
         refine List.ext_getElem? fun j=> ?_
         have hfl:=r6 h4
         have hat:∀m,m<o.sz→o.rows.flatten[r*o.sz+m]? =row[m]? :=by
          intro m hm
          have:=congrArg (fun l=>l[m]?) hrow'
          simp only[List.getElem?_take,if_pos hm,List.getElem?_drop]at this
          exact this
         rw[a1n,a1n,a1n,Q4,hrl]
         by_cases hin:r*o.sz≤j∧j<r*o.sz+o.sz∧j<o.rows.flatten.length
         ·rw[if_pos hin]
          by_cases hc:i≤j - r*o.sz∧j - r*o.sz<i+ds.length∧j - r*o.sz<o.sz
          ·rw[if_pos hc,if_pos (by omega)]
           congr 1;omega
          ·rw[if_neg hc,if_neg (by omega), ←hat _ (by omega)]
           congr 1;omega
         ·rw[if_neg hin,if_neg (by omega)]
       ·exact h.elim
      ·exact h.elim
     ·exact h.elim
    ·exact h.elim
   ·exact h.elim
  ·exact h.elim
 ·exact h.elim
end
end
section
section
variable{P:Program}{E:g8}{R:Fz}{S:b5}{H:AHeap}
theorem B1.setP{H:AHeap}(F:B1 H){k:Nat}{o0:G3}(h:H.get k=some o0)(hw:a7T o0=true){o':G3}(hp':s9 o'=[]):
  (H.set k o').get k=some o'∧But k H (H.set k o')∧B1 (H.set k o'):=by
 have hg:∀j,(H.set k o').get j=if k=j then some o' else H.get j:=fun j=>AHeap.get_set ..
 have key:∀j o,(H.set k o').get j=some o→(k=j∧o=o')∨(k≠j∧H.get j=some o):=by
  intro j o hj
  rw[hg]at hj
  split at hj
  ·rename_i e;cases hj;exact .inl ⟨e,rfl⟩
  ·rename_i e;exact .inr ⟨e,hj⟩
 have hlt:k<H.next:=by
  by_cases hk:k<H.next
  ·exact hk
  ·rw[F.above k (by omega)]at h;cases h
 refine⟨by rw[hg,if_pos rfl],fun j o _ hne hj=>by rw[hg,if_neg (Ne.symm hne)];exact hj,fun j hj=> ?_,fun j p o op hj hp ho=> ?_,fun j o p hj hp=> ?_,fun j o p hj hp=> ?_⟩
 ·rw[AHeap.next_set]at hj
  rw[hg,if_neg (by omega)]
  exact F.above j hj
 ·rcases key j o hj with ⟨_,rfl⟩|⟨_,hj2⟩
  ·rw[hp']at hp;cases hp
  ·rcases key p op ho with ⟨e1,_⟩|⟨_,ho⟩
   ·have:=F.kin j k o _ hj2 (by rw[e1];exact hp) h
    rw[hw]at this;cases this
   ·exact F.kin j p o op hj2 hp ho
 ·rcases key j o hj with ⟨_,rfl⟩|⟨_,hj⟩
  ·rw[hp']at hp;cases hp
  ·exact F.self j o p hj hp
 ·rw[AHeap.next_set]
  rcases key j o hj with ⟨_,rfl⟩|⟨_,hj⟩
  ·rw[hp']at hp;cases hp
  ·exact F.below j o p hj hp
theorem B1.newP{H:AHeap}(F:B1 H){o':G3}(hp':s9 o'=[]):(H.new o').get H.next=some o'∧b8y H (H.new o')∧B1 (H.new o'):=by
 have hg:∀j,(H.new o').get j=if H.next=j then some o' else H.get j:=fun j=>AHeap.get_new ..
 have hlt:∀ {j o},H.get j=some o→j<H.next:=fun{j o} h=>by
  by_cases hk:j<H.next
  ·exact hk
  ·rw[F.above j (by omega)]at h;cases h
 have key:∀j o,(H.new o').get j=some o→(H.next=j∧o=o')∨(H.next≠j∧H.get j=some o):=by
  intro j o hj
  rw[hg]at hj
  split at hj
  ·rename_i e;cases hj;exact .inl ⟨e,rfl⟩
  ·rename_i e;exact .inr ⟨e,hj⟩
 refine⟨by rw[hg,if_pos rfl],fun j o hj=>by rw[hg,if_neg (by have:=hlt hj;omega)];exact hj,fun j hj=> ?_,fun j p o op hj hp ho=> ?_,fun j o p hj hp=> ?_,fun j o p hj hp=> ?_⟩
 ·rw[AHeap.next_new]at hj
  rw[hg,if_neg (by omega)]
  exact F.above j (by omega)
 ·rcases key j o hj with ⟨_,rfl⟩|⟨_,hj2⟩
  ·rw[hp']at hp;cases hp
  ·rcases key p op ho with ⟨e1,_⟩|⟨_,ho⟩
   ·have:=F.below j o _ hj2 hp
    omega
   ·exact F.kin j p o op hj2 hp ho
 ·rcases key j o hj with ⟨_,rfl⟩|⟨_,hj⟩
  ·rw[hp']at hp;cases hp
  ·exact F.self j o p hj hp
 ·rw[AHeap.next_new]
  rcases key j o hj with ⟨_,rfl⟩|⟨_,hj⟩
  ·rw[hp']at hp;cases hp
  ·have:=F.below j o p hj hp;omega
theorem b6u{o:A2}{m:Nat}{sr:List D}{rows:List (List D)}(h:b8I o=some (m,sr,rows)):o.sz=b4m∧o.rows=[.mp m]::sr::rows:=by
 unfold b8I at h
 split at h
 ·rename_i hs
  split at h
  ·rename_i a b c e;cases h;exact⟨hs,e⟩
  ·cases h
 ·cases h
theorem RpE.both:∀ {rows:List (List D)} {es:List (AV×AV×Nat)},RpE E R rows es→
  (∀e∈es,∃kd vd,[kd,vd,D.int .i64 (e.2.2:Int)]∈rows∧Rp E R kd e.1∧Rp E R vd e.2.1)∧∀row∈rows,∃e∈es,∃kd vd,row=[kd,vd,D.int .i64 (e.2.2:Int)]∧Rp E R kd e.1∧Rp E R vd e.2.1
 | [],es,h=>by
  simp only[RpE]at h
  subst h
  exact⟨fun e h=>(by cases h),fun r h=>(by cases h)⟩
 |row::rows,es,h=>by
  simp only[RpE]at h
  obtain⟨kd,vd,e,es',rfl,rfl,h1,h2,h3⟩:=h
  obtain⟨g1,g2⟩:=RpE.both h3
  refine⟨fun x hx=> ?_,fun r hr=> ?_⟩
  ·rcases List.mem_cons.1 hx with rfl|hx
   ·exact⟨kd,vd,List.mem_cons_self,h1,h2⟩
   ·obtain⟨a,b,c,d⟩:=g1 x hx
    exact⟨a,b,List.mem_cons_of_mem _ c,d⟩
  ·rcases List.mem_cons.1 hr with rfl|hr
   ·exact⟨e,List.mem_cons_self,kd,vd,rfl,h1,h2⟩
   ·obtain⟨a,b,c⟩:=g2 r hr
    exact⟨a,List.mem_cons_of_mem _ b,c⟩
theorem s0.putW(h:s0 E R S H){j m:Nat}{sr:List D}{rows:List (List D)}{acs:List AV}(hr:R j=none)(hu:b1Y S j)(hm:m≠j)(hw:a7j E R S H j m sr rows acs):s0 E R (S.set j ⟨b4m,[.mp m]::sr::rows,acs⟩) H:=by
 obtain⟨w0,es,cl,si,se,la,w1,w2,w3⟩:=hw
 refine⟨h.fine,h.frozen,fun i x e=> ?_,fun i x e=> ?_,fun i x e hz m' sr' rows' hr'=> ?_⟩
 ·unfold b5.set at e
  split at e
  ·rename_i hi;subst hi;cases e;exact .inr (.inr ⟨rfl,hr,m,sr,rows,si,se,la,rfl,w1⟩)
  ·exact h.own i x e
 ·unfold b5.set at e
  split at e
  ·rename_i hi;subst hi;unfold a8a;rw[w1];exact fun p hp=>by cases hp
  ·exact h.safe i x e
 ·unfold b5.set at e
  split at e
  ·rename_i hi
   subst hi
   cases e
   simp only[List.cons.injEq,D.mp.injEq,and_true]at hr'
   obtain⟨rfl,rfl,rfl⟩:=hr'
   exact⟨by rw[b5.set_ne _ _ _ hm];exact w0,es,cl,si,se,la,w1,w2,w3⟩
  ·refine(h.walks i x e hz m' sr' rows' hr').of (fun a _=> ?_) rfl fun _ _=>rfl
   rw[b5.set_ne _ _ _ (hu i x e hz m' sr' rows' hr')]
   exact a
theorem c6y(hF:B1 H)(hC:s0 E R S H){t k e:TypeId}(ht:P.underlying t=some (.map k e)){x:D}{v:AV}(hx:Rp E R x v){K:D→b5→Prop}(h:b0a S x K):a7Q P H t v (M6 E R K):=by
 unfold b0a at h
 split at h
 ·rename_i m
  simp only[Rp]at hx
  subst hx
  split at h
  ·rename_i o hk
   split at h
   ·rename_i rows hm
    obtain⟨hRm,es,cl,a1,a2,a3,a4,a5⟩:=hC.mapAt hk hm
    obtain⟨g1,g2,g3⟩:=hF.newP (o':= .iter m cl [] cl) rfl
    obtain⟨h1,h2⟩:=hC.fresh
    have hne:m≠H.next:=fun e=>by rw[e,h2]at hk;cases hk
    unfold a7Q
    simp only[ht,a2]
    refine⟨g3,R,_, .ptr H.next 0,Fz.le_refl R, ?_,by simp only[Rp],h H.next o.acs h2⟩
    refine((hC.less (b5.erase_le S m)).stays g3 g2).putW h1 (fun i y e hz m' sr' rows' hr'=>hC.unwalkedNew i y (b5.erase_le S m _ _ e) hz m' sr' rows' hr') hne ⟨?_,es,cl,cl,[],cl,g1,g2 _ _ a2,a1,rfl,a3,a4,fun e he=>⟨a5 e he,a5 e he⟩,fun h=>absurd rfl h⟩
    unfold b5.erase
    rw[if_pos rfl]
   ·exact h.elim
  ·exact h.elim
 ·exact h.elim
theorem c7V(hF:B1 H)(hC:s0 E R S H){x:D}{v:AV}(hx:Rp E R x v){K:D→b5→Prop}(h:b8F S x K):c2r H v (M6 E R K):=by
 unfold b8F at h
 split at h
 ·rename_i j
  simp only[Rp]at hx
  subst hx
  split at h
  ·rename_i o hk
   split at h
   ·rename_i m sr rows hw
    obtain⟨hz,hr⟩:=b6u hw
    obtain⟨w0,es,cl,si,se,la,w1,w2,w3,w4,w5,w6,w7,w8⟩:=hC.walks j o hk hz m sr rows hr
    obtain⟨b1,b2⟩:=w5.both
    have hRj:R j=none:=by
     cases e:R j with
     |none=>rfl
     |some cs=>obtain⟨_,_,g⟩:=hC.frozen j cs e;rw[w1]at g;cases g
    have hne:m≠j:=fun e=>by rw[e,hk]at w0;cases w0
    unfold c2r
    simp only[w1,w2]
    refine⟨fun e he=>(w7 e he).2, ?_,fun e he hs=> ?_,fun hs=> ?_⟩
    ·by_cases h0:se=[]
     ·exact .inl h0
     ·cases es with
      |nil=>exact .inr (.inl rfl)
      |cons e es=>exact .inr (.inr ⟨e,List.mem_cons_self,by rw[w8 h0];exact(w7 e List.mem_cons_self).1⟩)
    ·obtain⟨kd,vd,c1,c2,c3⟩:=b1 e he
     obtain⟨g1,g2,g3⟩:=hF.setP (k:=j) (o':= .iter m si (se++[e.2.2]) cl) w1 rfl rfl
     refine⟨g3,R,_,_,Fz.le_refl R, ?_, ?_,h.1 kd vd _ c1 (fun hm=> ?_) o.acs⟩
     ·have hS:S.set j ⟨b4m,[.mp m]::(sr++[D.int .i64 (e.2.2:Int)])::rows,o.acs⟩=(S.erase j).set j ⟨b4m,[.mp m]::(sr++[D.int .i64 (e.2.2:Int)])::rows,o.acs⟩:=by
       funext i;simp only[b5.set,b5.erase];split<;>rfl
      rw[hS]
      refine(hC.but g3 g2 hk (fun cs e'=>by rw[hRj]at e';cases e')).putW hRj (hC.unwalked hk) hne ⟨a8M (b5.erase_le S j) w0,es,cl,si,se++[e.2.2],cl,g1,g2 _ _ (.inl rfl) hne w2,w3, ?_,w5,w6,w7,fun _=>rfl⟩
      rw[w4,List.map_append];rfl
     ·simp only[Rp,s7]
      exact⟨_,rfl,_,_,rfl,rfl,_,_,rfl,c2,_,_,rfl,c3,rfl⟩
     ·rw[w4]at hm
      obtain⟨n,hn,e1⟩:=List.mem_map.1 hm
      simp only[D.int.injEq,true_and,Int.natCast_inj]at e1
      rw[e1]at hn
      exact hs hn
    ·refine⟨hF,R,S,_,Fz.le_refl R,hC, ?_,h.2 fun key x n hrow=> ?_⟩
     ·simp only[Rp,s7]
      exact⟨_,rfl,_,_,rfl,rfl,rfl⟩
     ·obtain⟨e,he,kd,vd,e1,_⟩:=b2 _ hrow
      simp only[List.cons.injEq,and_true]at e1
      rw[w4,e1.2.2]
      exact List.mem_map.2 ⟨_,hs e he,rfl⟩
   ·exact h.elim
  ·exact h.elim
 ·exact h.elim
theorem c7q(hF:B1 H)(hC:s0 E R S H){x:D}{v:AV}(hx:Rp E R x v){K:D→b5→Prop}(h:b2L S x K):a7J H v (M6 E R K):=by
 unfold b2L at h
 split at h
 ·rename_i j
  simp only[Rp]at hx
  subst hx
  split at h
  ·rename_i o hk
   split at h
   ·rename_i m sr rows hw
    obtain⟨key,x,n,hrow,hl,hK⟩:=h
    obtain⟨hz,hr⟩:=b6u hw
    obtain⟨w0,es,cl,si,se,la,w1,w2,w3,w4,w5,w6,w7,w8⟩:=hC.walks j o hk hz m sr rows hr
    obtain⟨b1,b2⟩:=w5.both
    obtain⟨e,he,kd,vd,e1,c2,c3⟩:=b2 _ hrow
    simp only[List.cons.injEq,and_true]at e1
    obtain⟨rfl,rfl,rfl⟩:=e1
    unfold a7J
    simp only[w1,w2]
    have hse:se≠[]:=fun e'=>by rw[w4,e']at hl;cases hl
    refine⟨(w8 hse).symm,w6,e,he, ?_,hF,R,S,_,Fz.le_refl R,hC, ?_,hK⟩
    ·rw[w4,List.getLast?_map]at hl
     simp only[Option.map_eq_some_iff,D.int.injEq,true_and,Int.natCast_inj]at hl
     obtain⟨n',q1,q2⟩:=hl
     rw[q1,q2]
    ·simp only[Rp,s7]
     exact⟨_,rfl,_,_,rfl,c2,_,_,rfl,c3,rfl⟩
   ·exact h.elim
  ·exact h.elim
 ·exact h.elim
end
end
end Go.Am
end
