/-
  TransferKnownSaid: part Kap of its proof.
-/
import Derived.Test.YtdkidgkiplcggaaKao
set_option linter.unusedVariables false
set_option linter.unusedSimpArgs false
set_option maxRecDepth 100000
section
namespace Go.Am
def a0d(E:i9)(R:Fz)(Q:D→b8→Prop)(v:AV)(H':AHeap):Prop:=E6 H'∧∃R' S' d,R.le R'∧A1 E R' S' H'∧Rp E R' d v∧Q d S'
abbrev DW:=FuncId→List D→b8→(D→b8→Prop)→Prop
def GoF(E:i9)(F:FW)(G:DW)(R:Fz)(S:b8)(H:AHeap):Prop:=∀f ds avs K,A0 E R ds avs→G f ds S K→F f avs H (a0d E R K)
def j8(S:b8)(cs:List D)(K:D→b8→Prop):Prop:=∀k acs,S k=none→K (.ptr k 0) (S.set k ⟨cs.length,[cs],acs⟩)
def c8J(S:b8)(sz:Nat)(rows:List (List D))(len cap:Nat)(ex:Bool)(K:D→b8→Prop):Prop:=
 K (.lst (rows.take len) sz) S∨∀k acs,S k=none→K (.raw k 0 len cap ex sz) (S.set k ⟨sz,rows,acs⟩)
def j1(sz:Nat):List (List D)→List (Nat×D)→Option (List (List D))
 |rows,[]=>some rows
 |rows,(i,v)::rest=>match o4 v with
  |some ds=>if ds.length=sz∧i<rows.length then j1 sz (rows.set i ds) rest else none
  |none=>none
def m8(S:b8)(sz:Nat)(rows:Option (List (List D)))(len:Nat)(K:D→b8→Prop):Prop:=b7 rows fun rs=>c8J S sz rs len len true K
def i7(S:b8)(n:Nat)(a x:D)(K:D→b8→Prop):Prop:=match o4 x with
 |some ds=>if ds.length=n∧0<n then match a with
  | .ptr k i=>match S k with
   |some o=>match o.rows with
    | [cs]=>if i+n≤cs.length then ∀acs,K c9 (S.set k ⟨o.sz,[l7 cs i ds],acs⟩) else False
    |_=>False
   |none=>False
  | .rel k r i sz=>match S k with
   |some o=>if o.sz=sz then match o.rows[r]? with
    |some row=>if i+n≤row.length then ∀acs,K c9 (S.set k ⟨sz,o.rows.set r (l7 row i ds),acs⟩) else False
    |none=>False
    else False
   |none=>False
  |_=>False
  else False
 |none=>False
def rowsS(S:b8)(sz:Nat)(x:D):Option (List (List D)):=match x with
 | .str s=>if sz=1 then some (s.map fun b=>[.int .u8 b.toNat]) else none
 |x=>J2 S sz x
def d2e(acs:List AV):D6:=⟨c2Y,[[],[]],acs⟩
def d5k(o:D6):Bool:=match o.rows with
 | [[],[]]=>o.sz==c2Y
 |_=>false
theorem d3t{o:D6}(h:d5k o=true):o.sz=c2Y∧o.rows=[[],[]]:=by
 unfold d5k at h
 split at h
 ·rename_i e;exact⟨by simpa using h,e⟩
 ·cases h
def a0B(S:b8)(sz bytes:Nat)(s:D)(news:List (List D))(K:D→b8→Prop):Prop:=match s with
 | .nilSlc=>if news=[]then K .nilSlc S else(0<bytes∧(2*news.length+768)*bytes≤2^47)∧c8J S sz news news.length news.length false K
 | .raw k i len cap ex z=>if news=[]then K s S else match S k with
  |some o=>if z=sz∧o.sz=sz∧i+len≤o.rows.length then(0<bytes∧(2*(len+news.length)+768)*bytes≤2^47)∧
    c8J (S.erase k) sz ((o.rows.drop i).take len++news) (len+news.length) (len+news.length) false K else False
  |none=>False
 | .lst _ _| .ext _ _ _=>if news=[]then K s S else False
 | .tip k rows z=>if news=[]then K s S else match S k with
  |some o=>if z=sz∧d5k o=true then(0<bytes∧(2*(rows.length+news.length)+768)*bytes≤2^47)∧K (.lst (rows++news) sz) (S.erase k) else False
  |none=>False
 |_=>False
def s8(S:b8)(sz bytes:Nat)(s x:D)(K:D→b8→Prop):Prop:=match rowsS S sz x with
 |some news=>a0B S sz bytes s news K
 |none=>False
def b0U(S:b8)(sz bytes:Nat)(z:List D)(s x:D)(K:D→b8→Prop):Prop:=match x with
 | .int _ l=>if IntKind.i64.wrap l=l∧0≤l∧l*bytes≤2^47 then a0B S sz bytes s (List.replicate l.toNat z) K else False
 |_=>False
def c7g(S:b8)(sz:Nat)(d x:D)(K:D→b8→Prop):Prop:=match d with
 | .nilSlc=>match rowsS S sz x with
  |some _=>K (.int .i64 0) S
  |none=>False
 | .raw k i len cap ex z=>match rowsS S sz x,S k with
  |some rows,some o=>if z=sz∧o.sz=sz∧i+len≤o.rows.length∧0<sz then
    ∀acs,K (.int .i64 (min rows.length len:Nat)) (S.set k ⟨sz,o.rows.take i++(rows.take (min rows.length len)++o.rows.drop (i+min rows.length len)),acs⟩) else False
  |_,_=>False
 |_=>False
def b1T(S:b8)(sz bytes:Nat)(z:List D)(l c:D)(K:D→b8→Prop):Prop:=match l,c with
 | .int _ l, .int _ c=>if 0≤l∧l≤c∧bytes*c≤2^47∧c<2^63 then c8J S sz (List.replicate c.toNat z) l.toNat c.toNat true K else False
 |_,_=>False
def b9J(S:b8)(x:D)(K:D→b8→Prop):Prop:=match x with
 | .str s=>if s.length≤2^40 then c8J S 1 (s.map fun b=>[.int .u8 b.toNat]) s.length s.length false K else False
 |_=>False
def c9t(S:b8)(x:D)(K:D→b8→Prop):Prop:=match x with
 | .raw k i len cap ex sz=>match S k with
  |some o=>if len≠0∧o.sz=sz then K (.raw k i len cap ex sz) S∨((o.sz=sz∧i+len≤o.rows.length∧len≤cap)∧K (.lst ((o.rows.drop i).take len) sz) (S.erase k)) else False
  |none=>False
 |_=>False
def c4J(rows:List (List D))(acs:List AV):D6:=⟨M8,[]::[]::rows,acs⟩
def d3W(S:b8)(K:D→b8→Prop):Prop:=∀k acs,S k=none→K (.mp k) (S.set k (c4J [] acs))
def d1Z(rows:List (List D))(n:Nat):Prop:=∀row∈rows,row[2]? ≠some (.int .i64 (n:Int))
def d4R(S:b8)(kk:Nat)(m key x:D)(K:D→b8→Prop):Prop:=match m with
 | .mp k=>if c5E kk key then(match S k with
  |some o=>match b5h o with
   |some rows=>match c0V key rows 0 with
    |some (some (i,_,n))=>∀acs,K c9 (S.set k (c4J (rows.set i [key,x,n]) acs))
    |some none=>∀n acs,d1Z rows n→K c9 (S.set k (c4J (rows++[[key,x, .int .i64 (n:Int)]]) acs))
    |none=>False
   |none=>False
  |none=>False) else False
 |_=>False
def d4m(S:b8)(kk:Nat)(z m key:D)(K:D→b8→Prop):Prop:=match m with
 | .mp k=>if c5E kk key then(match S k with
  |some o=>match b5h o with
   |some rows=>match c0V key rows 0 with
    |some (some (i,v,n))=>∀acs,K (.tup [v,n]) (S.set k (c4J (rows.set i [key,v,n]) acs))
    |some none=>∀n acs,d1Z rows n→K (.tup [z, .int .i64 (n:Int)]) (S.set k (c4J (rows++[[key,z, .int .i64 (n:Int)]]) acs))
    |none=>False
   |none=>False
  |none=>False) else False
 |_=>False
def d4W(S:b8)(m s x:D)(K:D→b8→Prop):Prop:=match m with
 | .mp k=>match S k with
  |some o=>match b5h o with
   |some rows=>∃i key v,rows[i]? =some [key,v,s]∧∀acs,K c9 (S.set k (c4J (rows.set i [key,x,s]) acs))
   |none=>False
  |none=>False
 |_=>False
section
variable(P:Program)
def c3o(t:TypeId):Option Nat:=match P.underlying t with
 |some (.map kt _)=>b6d P kt
 |_=>none
def d4Z(t:TypeId):Option D:=match P.underlying t with
 |some (.map _ e)=>(K4 P e).map c6d
 |_=>none
def b1L(G:DW)(S:b8)(f:FuncId)(args:List D)(K:D→b8→Prop):Prop:=if a8W P f then G f args S K else False
def a1Q(G:DW)(S:b8)(f:D)(args:List D)(K:D→b8→Prop):Prop:=match f with
 | .fn (.func g) a b=>b1L P G S g (a++args++b) K
 | .fn (.via t path g pointer) a b=>match b,path.toList,a++args,P.underlying t with
  | [],[],x::rest,some (.pointer _)=>if pointer then b1L P G S g (x::rest) K else False
  |_,_,_,_=>False
 |_=>False
def c8Y(t:TypeId)(name:String):Option FuncId:=match P.info? t with
 |some info=>match info.methods.find? (·.name==name) with
  |some m=>match m.path.toList,m.func,P.underlying t with
   | [],some (f,true),some (.pointer _)=>some f
   | [],some (f,false),some (.struct _)| [],some (f,false),some (.int _)| [],some (f,false),some .string| [],some (f,false),some (.slice _)=>some f
   |_,_,_=>none
  |none=>none
 |none=>none
def c4y(G:DW)(S:b8)(r:D)(name:String)(args:List D)(K:D→b8→Prop):Prop:=match r with
 | .ifc t v=>match c8Y P t name with
  |some f=>b1L P G S f (v::args) K
  |none=>False
 |_=>False
def zeroCells(t:TypeId):Option (List D):=match K4 P t with
 |some z=>o4 (c6d z)
 |none=>none
def d4L(G:DW)(T:List D)(S:b8)(o:Oper)(K:D→b8→Prop):Prop:=
 match o.op with
 | .alloc e=>match zeroCells P e with
  |some cs=>j8 S cs K
  |none=>False
 | .box _ x=>b7 (o4 (t8 T x)) fun cs=>j8 S cs K
 | .buildSlice t len parts=>match a6X P t with
  |some e=>match C5 P e,zeroCells P e with
   |some sz,some z=>if(z.length=sz∧sz<M8)∧len*sz≤2^24 then m8 S sz (j1 sz (List.replicate len z) (parts.toList.map fun p=>(p.1,t8 T p.2))) len K else False
   |_,_=>False
  |none=>False
 | .store t a x=>match C5 P t with
  |some n=>i7 S n (t8 T a) (t8 T x) K
  |none=>False
 | .convert src dst x=>match P.underlying src,P.underlying dst with
  |some .string,some (.slice e)=>match P.underlying e with
   |some (.int .u8)=>b9J S (t8 T x) K
   |_=>False
  |some (.slice _),some (.slice e)=>match P.underlying e with
   |some (.int .u8)=>if src=dst then c9t S (t8 T x) K else False
   |_=>False
  |_,_=>False
 | .makeSlice t l c=>match a6X P t with
  |some e=>match C5 P e,a9d P e,zeroCells P e with
   |some sz,some bytes,some z=>if z.length=sz∧sz<M8 then b1T S sz bytes z (t8 T l) (t8 T c) K else False
   |_,_,_=>False
  |none=>False
 | .makeMap _ r=>match r with
  |none=>d3W S K
  |some _=>False
 | .mapUpdate t m k x| .insert t m k x=>match c3o P t with
  |some kk=>d4R S kk (t8 T m) (t8 T k) (t8 T x) K
  |none=>False
 | .mapEntry t m k=>match c3o P t,d4Z P t with
  |some kk,some z=>d4m S kk z (t8 T m) (t8 T k) K
  |_,_=>False
 | .entryStore _ m s x=>d4W S (t8 T m) (t8 T s) (t8 T x) K
 | .call c=>match c.callee with
  | .value (.func g)=>if a8W P g then G g (c.args.toList.map (t8 T)) S K else False
  | .value f=>a1Q P G S (t8 T f) (c.args.toList.map (t8 T)) K
  | .invoke r name=>c4y P G S (t8 T r) name (c.args.toList.map (t8 T)) K
  | .builtin b=>match b,c.args.toList.map (t8 T),c.argTypes.toList with
   | .append,[s,x],[sT,xT]=>match a6X P sT with
    |some e=>match C5 P e,a9d P e,zeroCells P e,P.underlying xT with
     |some sz,some bytes,some z,some (.slice _)|some sz,some bytes,some z,some .string=>if z.length=sz∧sz<M8 then s8 S sz bytes s x K else False
     |some sz,some bytes,some z,some (.int _)=>if z.length=sz∧sz<M8 then b0U S sz bytes z s x K else False
     |_,_,_,_=>False
    |none=>False
   | .copy,[d,x],dT::_=>match a6X P dT with
    |some e=>match C5 P e with
     |some sz=>c7g S sz d x K
     |none=>False
    |none=>False
   |_,_,_=>False
 |_=>False
end
section
variable{P:Program}{E:i9}{R:Fz}{S:b8}{H:AHeap}
theorem a2V:∀(vs cs:List D) (i j:Nat),(l7 cs i vs)[j]? =if i≤j∧j<i+vs.length∧j<cs.length then vs[j - i]? else cs[j]? :=by
 intro vs
 induction vs with
 |nil=>intro cs i j;simp only[l7,List.length_nil];rw[if_neg (by omega)]
 |cons v vs ih=>
  intro cs i j
  simp only[l7]
  rw[ih,List.length_set,List.getElem?_set,List.length_cons]
  by_cases h:i=j
  ·subst h
   rw[if_neg (by omega),if_pos rfl]
   by_cases hl:i<cs.length
   ·rw[if_pos hl,if_pos ⟨by omega,by omega,hl⟩,Nat.sub_self];rfl
   ·rw[if_neg hl,if_neg (by omega)]
    exact(List.getElem?_eq_none (by omega)).symm
  ·rw[if_neg h]
   by_cases hc:i+1≤j∧j<i+1+vs.length∧j<cs.length
   ·rw[if_pos hc,if_pos ⟨by omega,by omega,hc.2.2⟩,show j - i=(j - (i+1))+1 by omega]
    rfl
   ·rw[if_neg hc,if_neg (by omega)]
theorem b3b:∀ {rows:List (List D)} {sz i:Nat} {ds:List D},(∀row∈rows,row.length=sz)→ds.length=sz→i<rows.length→l7 rows.flatten (i*sz) ds=(rows.set i ds).flatten:=by
 intro rows sz i ds h hd hi
 refine List.ext_getElem? fun j=> ?_
 rw[a2V]
 induction rows generalizing i j with
 |nil=>simp at hi
 |cons r rs ih=>
  have hr:=h r List.mem_cons_self
  have hrs:∀row∈rs,row.length=sz:=fun x hx=>h x (List.mem_cons_of_mem _ hx)
  have hfl:=u5 h
  cases i with
  |zero=>
   simp only[List.set_cons_zero,List.flatten_cons,Nat.zero_mul,Nat.zero_le,true_and,Nat.zero_add,Nat.sub_zero]
   rw[List.getElem?_append,List.getElem?_append,List.length_append]
   by_cases hj:j<sz
   ·rw[if_pos ⟨by omega,by omega⟩,if_pos (by omega)]
   ·rw[if_neg (by omega),if_neg (by omega),if_neg (by omega),hr,hd]
  |succ i=>
   have hi':i<rs.length:=by simpa using hi
   simp only[List.set_cons_succ,List.flatten_cons]
   rw[List.getElem?_append,List.getElem?_append,List.length_append]
   by_cases hj:j<r.length
   ·rw[if_neg (by rw[Nat.succ_mul];omega),if_pos hj,if_pos hj]
   ·rw[if_neg hj,if_neg hj, ←ih hrs hi',Nat.succ_mul]
    by_cases hc:i*sz≤j - r.length∧j - r.length<i*sz+ds.length∧j - r.length<rs.flatten.length
    ·rw[if_pos (by omega),if_pos hc]
     congr 1;omega
    ·rw[if_neg (by omega),if_neg hc]
theorem c5I{sz:Nat}:∀ {parts:List (Nat×D)} {ps:List (Nat×AV)} {rows r:List (List D)} {ws:List AV},RpP E R parts ps→(∀row∈rows,row.length=sz)→A0 E R rows.flatten ws→ws.all r6=true→j1 sz rows parts=some r→
  ∃us,(∀row∈r,row.length=sz)∧r.length=rows.length∧A0 E R r.flatten us∧us.all r6=true∧a8s (fun i=>some (i*sz,sz)) ws ps=some us
 | [],ps,rows,r,ws,hp,hl,hw,hs,h=>by
  have hp':ps=[]:=hp
  subst hp'
  cases h
  exact⟨ws,hl,rfl,hw,hs,rfl⟩
 |(i,d)::parts,ps,rows,r,ws,hp,hl,hw,hs,h=>by
  obtain⟨v,vs,rfl,hd,hp⟩:=hp
  simp only[j1]at h
  split at h
  ·rename_i ds hds
   split at h
   ·rename_i hc
    obtain⟨g1,g2⟩:=b0z hd hds
    have hw':A0 E R (rows.set i ds).flatten (B0 ws (i*sz) v.cells):=by
     rw[←b3b hl hc.1 hc.2]
     exact a2e hw g1
    have hl':∀row∈rows.set i ds,row.length=sz:=fun row hr=>by
     rcases List.mem_or_eq_of_mem_set hr with hr|rfl
     ·exact hl row hr
     ·exact hc.1
    obtain⟨us,k1,k2,k3,k4,k5⟩:=c5I hp hl' hw' (V6 hs g2) h
    refine⟨us,k1,by rw[k2,List.length_set],k3,k4, ?_⟩
    simp only[a8s]
    rw[if_pos,k5]
    have hwl:=hw.length
    rw[u5 hl]at hwl
    rw[g1.length,hwl,hc.1]
    have:(i+1)*sz≤rows.length*sz:=Nat.mul_le_mul_right _ hc.2
    rw[Nat.succ_mul]at this
    exact⟨rfl,this⟩
   ·cases h
  ·cases h
theorem b6f{z:List AV}{zd:List D}(h:A0 E R zd z):∀n:Nat,A0 E R (List.replicate n zd).flatten (rep z n)
 |0=>D0
 |n+1=>by
  rw[List.replicate_succ,List.flatten_cons]
  exact h.append (b6f h n)
theorem a8I{z:List AV}(h:z.all r6=true):∀n:Nat,(rep z n).all r6=true
 |0=>rfl
 |n+1=>by
  show(z++rep z n).all r6=true
  rw[List.all_append,h,a8I h n];rfl
theorem b5k{t:TypeId}{cs:List D}(h:zeroCells P t=some cs):∃z,K4 P t=some z∧A0 E R cs z.cells∧z.cells.all r6=true:=by
 unfold zeroCells at h
 cases hz:K4 P t with
 |none=>rw[hz]at h;cases h
 |some z=>
  rw[hz]at h
  obtain⟨g1,g2⟩:=b0z (E:=E) (R:=R) (b2k (v:=z)) h
  exact⟨z,rfl,g1,g2⟩
theorem d1k{cs:List AV}{rows:List (List D)}{sz:Nat}{H':AHeap}{q:List Nat}{S':b8}(F:E6 H)(hC0:A1 E R S' H)(F':E6 H')(hC:A1 E R S' H')(hg:H'.get H.next=some (.cells cs true q))(hq:∀p∈q,R p=none)(hl:∀row∈rows,row.length=sz)(hr:A0 E R rows.flatten cs)(hs:cs.all r6=true):
  S' H.next=none∧A1 E R (S'.set H.next ⟨sz,rows,cs⟩) H':=
 ⟨hC0.fresh.2,hC.put hC0.fresh.1 (o:=⟨sz,rows,cs⟩) hg hq hs hl hr⟩
theorem c6L(F:E6 H)(hC:A1 E R S H){cs:List D}{vs:List AV}(hr:A0 E R cs vs)(hs:vs.all r6=true){K:D→b8→Prop}(h:j8 S cs K):a0d E R K (.ptr (.new H.next) 0) (newCells H vs):=by
 obtain⟨a,b,c,d⟩:=F.newCells vs
 obtain⟨h1,h2⟩:=d1k (rows:=[cs]) (sz:=cs.length) F hC d (hC.stays d b) a (fun p hp=>by cases hp) (fun row hr=>by rw[List.mem_singleton.1 hr]) (by rw[List.flatten_singleton];exact hr) hs
 exact⟨d,R,_,_,Fz.le_refl R,h2,by simp only[Rp],h H.next vs h1⟩
theorem b4A{cs:List AV}{rows:List (List D)}{sz len cap:Nat}{ex:Bool}{H':AHeap}{q:List Nat}{S':b8}(F:E6 H)(hC0:A1 E R S' H)(F':E6 H')(hC:A1 E R S' H')(hg:H'.get H.next=some (.cells cs true q))(hq:∀p∈q,R p=none)(hl:∀row∈rows,row.length=sz)(hr:A0 E R rows.flatten cs)(hs:cs.all r6=true)
  (hmz:sz<M8) (hlen:len≤rows.length) (hcap:len≤cap) {K:D→b8→Prop} (h:c8J S' sz rows len cap ex K):a0d E R K (.slc (.new H.next) 0 len cap ex sz) H':=by
 obtain⟨h1,h2⟩:=d1k F hC0 F' hC hg hq hl hr hs
 rcases h with h|h
 ·obtain⟨h3,h4⟩:=h2.freeze (b8.set_same S' H.next _) (.inl hmz)
  rw[b8.erase_set _ _ _ h1]at h3
  refine⟨F',_,S',_,h4,h3, ?_,h⟩
  have hle:((rows.take len)).length=len:=by rw[List.length_take];omega
  simp only[Rp]
  refine .inr ⟨.new H.next,0,cap,ex,sz,by rw[hle],rfl,by rw[hle];exact hcap,fun row hr=>hl row (List.mem_of_mem_take hr), .inr ⟨cs, ?_, ?_⟩⟩
  ·show(if H.next=H.next then some cs else R H.next)=some cs
   rw[if_pos rfl]
  ·rw[hle,List.drop_zero]
   refine⟨?_,L0 hs _⟩
   refine a1n.le h4 _ _ ?_
   rw[H4, ←a1h hl]
   exact hr.take _
 ·exact⟨F',R,_,_,Fz.le_refl R,h2,by simp only[Rp];exact⟨hmz,by rw[Nat.zero_mul]⟩,h H.next cs h1⟩
theorem d1K(F:E6 H)(hC:A1 E R S H){a x:D}{va vx:AV}(ha:Rp E R a va)(hx:Rp E R x vx){t:TypeId}{n:Nat}(hn:C5 P t=some n){K:D→b8→Prop}(h:i7 S n a x K):
  c4H P H t va vx fun v H'=>a0d E R K v H':=by
 unfold i7 at h
 split at h
 ·rename_i ds hds
  obtain⟨g1,g2⟩:=b0z hx hds
  split at h
  ·rename_i hc
   obtain⟨hlen,h0⟩:=hc
   have hvl:=g1.length
   have fin:∀ {k j:Nat} {o:D6} {rows':List (List D)},S k=some o→(o.sz<M8∨∃cs,o.rows=[cs])→j+n≤o.acs.length→(∀row∈rows',row.length=o.sz)→rows'.flatten=l7 o.rows.flatten j ds→(∀acs,K c9 (S.set k ⟨o.sz,rows',acs⟩))→
     b7 (B2 H (.new k) j vx.cells) fun H'=>a0d E R K B6 H':=by
    intro k j o rows' hk hoc hj hl' hfl hK
    obtain⟨h1,⟨pre,h2⟩,h3,h4,h5⟩:=hC.cells hk hoc
    obtain⟨H',e1,e2,e3,e4,F'⟩:=F.stores h2 (n:=j) (vs:=vx.cells) (fun e=>by rw[e]at hvl;simp at hvl;omega) (by omega) g2
    rw[e1]
    refine⟨F',R,_,c9,Fz.le_refl R, ?_,a0T,hK (B0 o.acs j vx.cells)⟩
    have hS:S.set k ⟨o.sz,rows',B0 o.acs j vx.cells⟩=(S.erase k).set k ⟨o.sz,rows',B0 o.acs j vx.cells⟩:=by
     funext i;simp only[b8.set,b8.erase];split<;>rfl
    rw[hS]
    refine(hC.but F' e3 hk (fun cs e=>by rw[h1]at e;cases e)).put h1 (pre:=[]) e2 (fun p hp=>by cases hp) (V6 h3 g2) hl' ?_
    show A0 E R rows'.flatten _
    rw[hfl]
    exact a2e h5 g1
   split at h
   ·rename_i k i
    simp only[Rp]at ha
    subst ha
    show(if C5 P t=some vx.cells.length then _ else False)
    rw[if_pos (by rw[hn,hvl,hlen])]
    split at h
    ·rename_i o hk
     split at h
     ·rename_i cs hcs
      split at h
      ·rename_i hi
       obtain⟨h1,⟨pre,h2⟩,h3,h4,h5⟩:=hC.cells hk (.inr ⟨_,hcs⟩)
       have hcl:cs.length=o.sz:=h4 cs (by rw[hcs];exact List.mem_singleton.2 rfl)
       have hal:=h5.length
       rw[hcs,List.flatten_singleton]at hal
       refine fin hk (.inr ⟨_,hcs⟩) (by omega) (fun row hr=>by rw[List.mem_singleton.1 hr,K3,hcl]) (by rw[hcs,List.flatten_singleton,List.flatten_singleton]) h
      ·exact h.elim
     ·exact h.elim
    ·exact h.elim
   ·rename_i k r i sz
    simp only[Rp]at ha
    obtain⟨hmz,rfl⟩:=ha
    show(if C5 P t=some vx.cells.length then _ else False)
    rw[if_pos (by rw[hn,hvl,hlen])]
    split at h
    ·rename_i o hk
     split at h
     ·rename_i hsz
      split at h
      ·rename_i row hrow
       split at h
       ·rename_i hi
        have hom:o.sz<M8:=by rw[hsz];exact hmz
        obtain⟨h1,⟨pre,h2⟩,h3,h4,h5⟩:=hC.cells hk (.inl hom)
        have hrl:=h4 row (List.mem_of_getElem? hrow)
        have hlt:=(List.getElem?_eq_some_iff.1 hrow).1
        have hal:=h5.length
        rw[u5 h4]at hal
        have hle:(r+1)*o.sz≤o.rows.length*o.sz:=Nat.mul_le_mul_right _ hlt
        rw[Nat.succ_mul]at hle
        rw[←hsz]
        rw[←hsz]at h
        refine fin hk (.inl hom) (by omega) (fun row' hr=> ?_) ?_ h
        ·rcases List.mem_or_eq_of_mem_set hr with hr|rfl
         ·exact h4 row' hr
         ·rw[K3,hrl]
        ·rw[←b3b h4 (by rw[K3,hrl]) hlt]
         have hrow':=b0W h4 hrow
         refine List.ext_getElem? fun j=> ?_
         have hfl:=u5 h4
         have hat:∀m,m<o.sz→o.rows.flatten[r*o.sz+m]? =row[m]? :=by
          intro m hm
          have:=congrArg (fun l=>l[m]?) hrow'
          simp only[List.getElem?_take,if_pos hm,List.getElem?_drop]at this
          exact this
         rw[a2V,a2V,a2V,K3,hrl]
         by_cases hin:r*o.sz≤j∧j<r*o.sz+o.sz∧j<o.rows.flatten.length
         ·rw[if_pos hin]
          by_cases hc:i≤j - r*o.sz∧j - r*o.sz<i+ds.length∧j - r*o.sz<o.sz
          ·rw[if_pos hc,if_pos (by omega)]
           congr 1;omega
          ·rw[if_neg hc,if_neg (by omega), ←hat _ (by omega)]
           congr 1;omega
         ·rw[if_neg hin,if_neg (by omega)]
       ·exact h.elim
      ·exact h.elim
     ·exact h.elim
    ·exact h.elim
   ·exact h.elim
  ·exact h.elim
 ·exact h.elim
end
end Go.Am
end
