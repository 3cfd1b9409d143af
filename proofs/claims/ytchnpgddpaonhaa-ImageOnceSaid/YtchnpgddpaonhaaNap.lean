/-
  ImageOnceSaid: part Nap of its proof.
-/
import Derived.Test.YtchnpgddpaonhaaNao
set_option linter.unusedVariables false
set_option linter.unusedSimpArgs false
set_option maxRecDepth 100000
section
namespace Go.Am
section
def P5(E:l9)(R:Fz)(Q:D→b7→Prop)(v:AV)(H':AHeap):Prop:=L0 H'∧∃R' S' d,R.le R'∧C8 E R' S' H'∧Rp E R' d v∧Q d S'
abbrev DW:=FuncId→List D→b7→(D→b7→Prop)→Prop
def GoF(E:l9)(F:FW)(G:DW)(R:Fz)(S:b7)(H:AHeap):Prop:=∀f ds avs K,A2 E R ds avs→G f ds S K→F f avs H (P5 E R K)
def o4(S:b7)(cs:List D)(K:D→b7→Prop):Prop:=∀k acs,S k=none→K (.ptr k 0) (S.set k ⟨cs.length,[cs],acs⟩)
def c6n(S:b7)(sz:Nat)(rows:List (List D))(len cap:Nat)(ex:Bool)(K:D→b7→Prop):Prop:=
 K (.lst (rows.take len) sz) S∨∀k acs,S k=none→K (.raw k 0 len cap ex sz) (S.set k ⟨sz,rows,acs⟩)
def p7(sz:Nat):List (List D)→List (Nat×D)→Option (List (List D))
 |rows,[]=>some rows
 |rows,(i,v)::rest=>match r4 v with
  |some ds=>if ds.length=sz∧i<rows.length then p7 sz (rows.set i ds) rest else none
  |none=>none
def u4(S:b7)(sz:Nat)(rows:Option (List (List D)))(len:Nat)(K:D→b7→Prop):Prop:=a9 rows fun rs=>c6n S sz rs len len true K
def f0(S:b7)(n:Nat)(a x:D)(K:D→b7→Prop):Prop:=match r4 x with
 |some ds=>if ds.length=n∧0<n then match a with
  | .ptr k i=>match S k with
   |some o=>match o.rows with
    | [cs]=>if i+n≤cs.length then ∀acs,K b8 (S.set k ⟨o.sz,[o5 cs i ds],acs⟩) else False
    |_=>False
   |none=>False
  | .rel k r i sz=>match S k with
   |some o=>if o.sz=sz then match o.rows[r]? with
    |some row=>if i+n≤row.length then ∀acs,K b8 (S.set k ⟨sz,o.rows.set r (o5 row i ds),acs⟩) else False
    |none=>False
    else False
   |none=>False
  |_=>False
  else False
 |none=>False
def rowsS(S:b7)(sz:Nat)(x:D):Option (List (List D)):=match x with
 | .str s=>if sz=1 then some (s.map fun b=>[.int .u8 b.toNat]) else none
 |x=>K7 S sz x
def a4o(S:b7)(sz bytes:Nat)(s:D)(news:List (List D))(K:D→b7→Prop):Prop:=match s with
 | .nilSlc=>if news=[]then K .nilSlc S else(0<bytes∧(2*news.length+768)*bytes≤2^47)∧c6n S sz news news.length news.length false K
 | .raw k i len cap ex z=>if news=[]then K s S else match S k with
  |some o=>if z=sz∧o.sz=sz∧i+len≤o.rows.length then(0<bytes∧(2*(len+news.length)+768)*bytes≤2^47)∧
    c6n (S.erase k) sz ((o.rows.drop i).take len++news) (len+news.length) (len+news.length) false K else False
  |none=>False
 | .lst _ _| .ext _ _ _=>if news=[]then K s S else False
 |_=>False
def y8(S:b7)(sz bytes:Nat)(s x:D)(K:D→b7→Prop):Prop:=match rowsS S sz x with
 |some news=>a4o S sz bytes s news K
 |none=>False
def b0o(S:b7)(sz bytes:Nat)(z:List D)(s x:D)(K:D→b7→Prop):Prop:=match x with
 | .int _ l=>if IntKind.i64.wrap l=l∧0≤l∧l*bytes≤2^47 then a4o S sz bytes s (List.replicate l.toNat z) K else False
 |_=>False
def d0l(S:b7)(sz:Nat)(d x:D)(K:D→b7→Prop):Prop:=match d with
 | .nilSlc=>match rowsS S sz x with
  |some _=>K (.int .i64 0) S
  |none=>False
 | .raw k i len cap ex z=>match rowsS S sz x,S k with
  |some rows,some o=>if z=sz∧o.sz=sz∧i+len≤o.rows.length∧0<sz then
    ∀acs,K (.int .i64 (min rows.length len:Nat)) (S.set k ⟨sz,o.rows.take i++(rows.take (min rows.length len)++o.rows.drop (i+min rows.length len)),acs⟩) else False
  |_,_=>False
 |_=>False
def b2C(S:b7)(sz bytes:Nat)(z:List D)(l c:D)(K:D→b7→Prop):Prop:=match l,c with
 | .int _ l, .int _ c=>if 0≤l∧l≤c∧bytes*c≤2^47∧c<2^63 then c6n S sz (List.replicate c.toNat z) l.toNat c.toNat true K else False
 |_,_=>False
def b9c(S:b7)(x:D)(K:D→b7→Prop):Prop:=match x with
 | .str s=>if s.length≤2^40 then c6n S 1 (s.map fun b=>[.int .u8 b.toNat]) s.length s.length false K else False
 |_=>False
def c1z(S:b7)(x:D)(K:D→b7→Prop):Prop:=match x with
 | .raw k i len cap ex sz=>match S k with
  |some o=>if len≠0 then K (.raw k i len cap ex sz) S∨((o.sz=sz∧i+len≤o.rows.length∧len≤cap)∧K (.lst ((o.rows.drop i).take len) sz) (S.erase k)) else False
  |none=>False
 |_=>False
section
variable(P:Program)
def b0r(G:DW)(S:b7)(f:FuncId)(args:List D)(K:D→b7→Prop):Prop:=if a7Y P f then G f args S K else False
def a1L(G:DW)(S:b7)(f:D)(args:List D)(K:D→b7→Prop):Prop:=match f with
 | .fn (.func g) a b=>b0r P G S g (a++args++b) K
 | .fn (.via t path g pointer) a b=>match b,path.toList,a++args,P.underlying t with
  | [],[],x::rest,some (.pointer _)=>if pointer then b0r P G S g (x::rest) K else False
  |_,_,_,_=>False
 |_=>False
def c7M(t:TypeId)(name:String):Option FuncId:=match P.info? t with
 |some info=>match info.methods.find? (·.name==name) with
  |some m=>match m.path.toList,m.func,P.underlying t with
   | [],some (f,true),some (.pointer _)=>some f
   | [],some (f,false),some (.struct _)| [],some (f,false),some (.int _)| [],some (f,false),some .string| [],some (f,false),some (.slice _)=>some f
   |_,_,_=>none
  |none=>none
 |none=>none
def c2G(G:DW)(S:b7)(r:D)(name:String)(args:List D)(K:D→b7→Prop):Prop:=match r with
 | .ifc t v=>match c7M P t name with
  |some f=>b0r P G S f (v::args) K
  |none=>False
 |_=>False
def zeroCells(t:TypeId):Option (List D):=match N6 P t with
 |some z=>r4 (c8M z)
 |none=>none
def d1T(G:DW)(T:List D)(S:b7)(o:Oper)(K:D→b7→Prop):Prop:=
 match o.op with
 | .alloc e=>match zeroCells P e with
  |some cs=>o4 S cs K
  |none=>False
 | .box _ x=>a9 (r4 (A5 T x)) fun cs=>o4 S cs K
 | .buildSlice t len parts=>match a6B P t with
  |some e=>match C9 P e,zeroCells P e with
   |some sz,some z=>if z.length=sz∧len*sz≤2^24 then u4 S sz (p7 sz (List.replicate len z) (parts.toList.map fun p=>(p.1,A5 T p.2))) len K else False
   |_,_=>False
  |none=>False
 | .store t a x=>match C9 P t with
  |some n=>f0 S n (A5 T a) (A5 T x) K
  |none=>False
 | .convert src dst x=>match P.underlying src,P.underlying dst with
  |some .string,some (.slice e)=>match P.underlying e with
   |some (.int .u8)=>b9c S (A5 T x) K
   |_=>False
  |some (.slice _),some (.slice e)=>match P.underlying e with
   |some (.int .u8)=>if src=dst then c1z S (A5 T x) K else False
   |_=>False
  |_,_=>False
 | .makeSlice t l c=>match a6B P t with
  |some e=>match C9 P e,a9j P e,zeroCells P e with
   |some sz,some bytes,some z=>if z.length=sz then b2C S sz bytes z (A5 T l) (A5 T c) K else False
   |_,_,_=>False
  |none=>False
 | .call c=>match c.callee with
  | .value (.func g)=>if a7Y P g then G g (c.args.toList.map (A5 T)) S K else False
  | .value f=>a1L P G S (A5 T f) (c.args.toList.map (A5 T)) K
  | .invoke r name=>c2G P G S (A5 T r) name (c.args.toList.map (A5 T)) K
  | .builtin b=>match b,c.args.toList.map (A5 T),c.argTypes.toList with
   | .append,[s,x],[sT,xT]=>match a6B P sT with
    |some e=>match C9 P e,a9j P e,zeroCells P e,P.underlying xT with
     |some sz,some bytes,some z,some (.slice _)|some sz,some bytes,some z,some .string=>if z.length=sz then y8 S sz bytes s x K else False
     |some sz,some bytes,some z,some (.int _)=>if z.length=sz then b0o S sz bytes z s x K else False
     |_,_,_,_=>False
    |none=>False
   | .copy,[d,x],dT::_=>match a6B P dT with
    |some e=>match C9 P e with
     |some sz=>d0l S sz d x K
     |none=>False
    |none=>False
   |_,_,_=>False
 |_=>False
end
section
variable{P:Program}{E:l9}{R:Fz}{S:b7}{H:AHeap}
theorem a2y:∀(vs cs:List D) (i j:Nat),(o5 cs i vs)[j]? =if i≤j∧j<i+vs.length∧j<cs.length then vs[j - i]? else cs[j]? :=by
 intro vs
 induction vs with
 |nil=>intro cs i j;simp only[o5,List.length_nil];rw[if_neg (by omega)]
 |cons v vs ih=>
  intro cs i j
  simp only[o5]
  rw[ih,List.length_set,List.getElem?_set,List.length_cons]
  by_cases h:i=j
  ·subst h
   rw[if_neg (by omega),if_pos rfl]
   by_cases hl:i<cs.length
   ·rw[if_pos hl,if_pos ⟨by omega,by omega,hl⟩,Nat.sub_self];rfl
   ·rw[if_neg hl,if_neg (by omega)]
    exact(List.getElem?_eq_none (by omega)).symm
  ·rw[if_neg h]
   by_cases hc:i+1≤j∧j<i+1+vs.length∧j<cs.length
   ·rw[if_pos hc,if_pos ⟨by omega,by omega,hc.2.2⟩,show j - i=(j - (i+1))+1 by omega]
    rfl
   ·rw[if_neg hc,if_neg (by omega)]
theorem b2D:∀ {rows:List (List D)} {sz i:Nat} {ds:List D},(∀row∈rows,row.length=sz)→ds.length=sz→i<rows.length→o5 rows.flatten (i*sz) ds=(rows.set i ds).flatten:=by
 intro rows sz i ds h hd hi
 refine List.ext_getElem? fun j=> ?_
 rw[a2y]
 induction rows generalizing i j with
 |nil=>simp at hi
 |cons r rs ih=>
  have hr:=h r List.mem_cons_self
  have hrs:∀row∈rs,row.length=sz:=fun x hx=>h x (List.mem_cons_of_mem _ hx)
  have hfl:=B7 h
  cases i with
  |zero=>
   simp only[List.set_cons_zero,List.flatten_cons,Nat.zero_mul,Nat.zero_le,true_and,Nat.zero_add,Nat.sub_zero]
   rw[List.getElem?_append,List.getElem?_append,List.length_append]
   by_cases hj:j<sz
   ·rw[if_pos ⟨by omega,by omega⟩,if_pos (by omega)]
   ·rw[if_neg (by omega),if_neg (by omega),if_neg (by omega),hr,hd]
  |succ i=>
   have hi':i<rs.length:=by simpa using hi
   simp only[List.set_cons_succ,List.flatten_cons]
   rw[List.getElem?_append,List.getElem?_append,List.length_append]
   by_cases hj:j<r.length
   ·rw[if_neg (by rw[Nat.succ_mul];omega),if_pos hj,if_pos hj]
   ·rw[if_neg hj,if_neg hj, ←ih hrs hi',Nat.succ_mul]
    by_cases hc:i*sz≤j - r.length∧j - r.length<i*sz+ds.length∧j - r.length<rs.flatten.length
    ·rw[if_pos (by omega),if_pos hc]
     congr 1;omega
    ·rw[if_neg (by omega),if_neg hc]
theorem c5A{sz:Nat}:∀ {parts:List (Nat×D)} {ps:List (Nat×AV)} {rows r:List (List D)} {ws:List AV},RpP E R parts ps→(∀row∈rows,row.length=sz)→A2 E R rows.flatten ws→ws.all u9=true→p7 sz rows parts=some r→
  ∃us,(∀row∈r,row.length=sz)∧r.length=rows.length∧A2 E R r.flatten us∧us.all u9=true∧a7D (fun i=>some (i*sz,sz)) ws ps=some us
 | [],ps,rows,r,ws,hp,hl,hw,hs,h=>by
  have hp':ps=[]:=hp
  subst hp'
  cases h
  exact⟨ws,hl,rfl,hw,hs,rfl⟩
 |(i,d)::parts,ps,rows,r,ws,hp,hl,hw,hs,h=>by
  obtain⟨v,vs,rfl,hd,hp⟩:=hp
  simp only[p7]at h
  split at h
  ·rename_i ds hds
   split at h
   ·rename_i hc
    obtain⟨g1,g2⟩:=b1B hd hds
    have hw':A2 E R (rows.set i ds).flatten (D9 ws (i*sz) v.cells):=by
     rw[←b2D hl hc.1 hc.2]
     exact a3P hw g1
    have hl':∀row∈rows.set i ds,row.length=sz:=fun row hr=>by
     rcases List.mem_or_eq_of_mem_set hr with hr|rfl
     ·exact hl row hr
     ·exact hc.1
    obtain⟨us,k1,k2,k3,k4,k5⟩:=c5A hp hl' hw' (a0P hs g2) h
    refine⟨us,k1,by rw[k2,List.length_set],k3,k4, ?_⟩
    simp only[a7D]
    rw[if_pos,k5]
    have hwl:=hw.length
    rw[B7 hl]at hwl
    rw[g1.length,hwl,hc.1]
    have:(i+1)*sz≤rows.length*sz:=Nat.mul_le_mul_right _ hc.2
    rw[Nat.succ_mul]at this
    exact⟨rfl,this⟩
   ·cases h
  ·cases h
theorem b5k{z:List AV}{zd:List D}(h:A2 E R zd z):∀n:Nat,A2 E R (List.replicate n zd).flatten (rep z n)
 |0=>F5
 |n+1=>by
  rw[List.replicate_succ,List.flatten_cons]
  exact h.append (b5k h n)
theorem a8X{z:List AV}(h:z.all u9=true):∀n:Nat,(rep z n).all u9=true
 |0=>rfl
 |n+1=>by
  show(z++rep z n).all u9=true
  rw[List.all_append,h,a8X h n];rfl
theorem b4H{t:TypeId}{cs:List D}(h:zeroCells P t=some cs):∃z,N6 P t=some z∧A2 E R cs z.cells∧z.cells.all u9=true:=by
 unfold zeroCells at h
 cases hz:N6 P t with
 |none=>rw[hz]at h;cases h
 |some z=>
  rw[hz]at h
  obtain⟨g1,g2⟩:=b1B (E:=E) (R:=R) (c3l (v:=z)) h
  exact⟨z,rfl,g1,g2⟩
theorem c9p{cs:List AV}{rows:List (List D)}{sz:Nat}{H':AHeap}{q:List Nat}{S':b7}(F:L0 H)(hC0:C8 E R S' H)(F':L0 H')(hC:C8 E R S' H')(hg:H'.get H.next=some (.cells cs true q))(hl:∀row∈rows,row.length=sz)(hr:A2 E R rows.flatten cs)(hs:cs.all u9=true):
  S' H.next=none∧C8 E R (S'.set H.next ⟨sz,rows,cs⟩) H':=
 ⟨(hC0.fresh F).2,hC.put (hC0.fresh F).1 (o:=⟨sz,rows,cs⟩) hg hs hl hr⟩
theorem c4F(F:L0 H)(hC:C8 E R S H){cs:List D}{vs:List AV}(hr:A2 E R cs vs)(hs:vs.all u9=true){K:D→b7→Prop}(h:o4 S cs K):P5 E R K (.ptr (.new H.next) 0) (newCells H vs):=by
 obtain⟨a,b,c,d⟩:=F.newCells vs
 obtain⟨h1,h2⟩:=c9p (rows:=[cs]) (sz:=cs.length) F hC d (hC.stays b) a (fun row hr=>by rw[List.mem_singleton.1 hr]) (by rw[List.flatten_singleton];exact hr) hs
 exact⟨d,R,_,_,Fz.le_refl R,h2,by simp only[Rp],h H.next vs h1⟩
theorem b4j{cs:List AV}{rows:List (List D)}{sz len cap:Nat}{ex:Bool}{H':AHeap}{q:List Nat}{S':b7}(F:L0 H)(hC0:C8 E R S' H)(F':L0 H')(hC:C8 E R S' H')(hg:H'.get H.next=some (.cells cs true q))(hl:∀row∈rows,row.length=sz)(hr:A2 E R rows.flatten cs)(hs:cs.all u9=true)
  (hlen:len≤rows.length) (hcap:len≤cap) {K:D→b7→Prop} (h:c6n S' sz rows len cap ex K):P5 E R K (.slc (.new H.next) 0 len cap ex sz) H':=by
 obtain⟨h1,h2⟩:=c9p F hC0 F' hC hg hl hr hs
 rcases h with h|h
 ·obtain⟨h3,h4⟩:=h2.freeze (b7.set_same S' H.next _)
  rw[b7.erase_set _ _ _ h1]at h3
  refine⟨F',_,S',_,h4,h3, ?_,h⟩
  have hle:((rows.take len)).length=len:=by rw[List.length_take];omega
  simp only[Rp]
  refine .inr ⟨.new H.next,0,cap,ex,sz,by rw[hle],rfl,by rw[hle];exact hcap,fun row hr=>hl row (List.mem_of_mem_take hr), .inr ⟨cs, ?_, ?_⟩⟩
  ·show(if H.next=H.next then some cs else R H.next)=some cs
   rw[if_pos rfl]
  ·rw[hle,List.drop_zero]
   refine⟨?_,N9 hs _⟩
   refine a2f.le h4 _ _ ?_
   rw[N4, ←a3i hl]
   exact hr.take _
 ·exact⟨F',R,_,_,Fz.le_refl R,h2,by simp only[Rp];rw[Nat.zero_mul],h H.next cs h1⟩
theorem c9J(F:L0 H)(hC:C8 E R S H){a x:D}{va vx:AV}(ha:Rp E R a va)(hx:Rp E R x vx){t:TypeId}{n:Nat}(hn:C9 P t=some n){K:D→b7→Prop}(h:f0 S n a x K):
  c3f P H t va vx fun v H'=>P5 E R K v H':=by
 unfold f0 at h
 split at h
 ·rename_i ds hds
  obtain⟨g1,g2⟩:=b1B hx hds
  split at h
  ·rename_i hc
   obtain⟨hlen,h0⟩:=hc
   have hvl:=g1.length
   have fin:∀ {k j:Nat} {o:L2} {rows':List (List D)},S k=some o→j+n≤o.acs.length→(∀row∈rows',row.length=o.sz)→rows'.flatten=o5 o.rows.flatten j ds→(∀acs,K b8 (S.set k ⟨o.sz,rows',acs⟩))→
     a9 (D4 H (.new k) j vx.cells) fun H'=>P5 E R K y9 H':=by
    intro k j o rows' hk hj hl' hfl hK
    obtain⟨h1,⟨pre,h2⟩,h3,h4,h5⟩:=hC.own k o hk
    obtain⟨H',e1,e2,e3,e4,F'⟩:=F.stores h2 (n:=j) (vs:=vx.cells) (fun e=>by rw[e]at hvl;simp at hvl;omega) (by omega) g2
    rw[e1]
    refine⟨F',R,_,b8,Fz.le_refl R, ?_,a2L,hK (D9 o.acs j vx.cells)⟩
    have hS:S.set k ⟨o.sz,rows',D9 o.acs j vx.cells⟩=(S.erase k).set k ⟨o.sz,rows',D9 o.acs j vx.cells⟩:=by
     funext i;simp only[b7.set,b7.erase];split<;>rfl
    rw[hS]
    refine(hC.but e3 h1).put h1 (pre:=[]) e2 (a0P h3 g2) hl' ?_
    show A2 E R rows'.flatten _
    rw[hfl]
    exact a3P h5 g1
   split at h
   ·rename_i k i
    simp only[Rp]at ha
    subst ha
    show(if C9 P t=some vx.cells.length then _ else False)
    rw[if_pos (by rw[hn,hvl,hlen])]
    split at h
    ·rename_i o hk
     split at h
     ·rename_i cs hcs
      split at h
      ·rename_i hi
       obtain⟨h1,⟨pre,h2⟩,h3,h4,h5⟩:=hC.own k o hk
       have hcl:cs.length=o.sz:=h4 cs (by rw[hcs];exact List.mem_singleton.2 rfl)
       have hal:=h5.length
       rw[hcs,List.flatten_singleton]at hal
       refine fin hk (by omega) (fun row hr=>by rw[List.mem_singleton.1 hr,a0g,hcl]) (by rw[hcs,List.flatten_singleton,List.flatten_singleton]) h
      ·exact h.elim
     ·exact h.elim
    ·exact h.elim
   ·rename_i k r i sz
    simp only[Rp]at ha
    subst ha
    show(if C9 P t=some vx.cells.length then _ else False)
    rw[if_pos (by rw[hn,hvl,hlen])]
    split at h
    ·rename_i o hk
     split at h
     ·rename_i hsz
      split at h
      ·rename_i row hrow
       split at h
       ·rename_i hi
        obtain⟨h1,⟨pre,h2⟩,h3,h4,h5⟩:=hC.own k o hk
        have hrl:=h4 row (List.mem_of_getElem? hrow)
        have hlt:=(List.getElem?_eq_some_iff.1 hrow).1
        have hal:=h5.length
        rw[B7 h4]at hal
        have hle:(r+1)*o.sz≤o.rows.length*o.sz:=Nat.mul_le_mul_right _ hlt
        rw[Nat.succ_mul]at hle
        rw[←hsz]
        rw[←hsz]at h
        refine fin hk (by omega) (fun row' hr=> ?_) ?_ h
        ·rcases List.mem_or_eq_of_mem_set hr with hr|rfl
         ·exact h4 row' hr
         ·rw[a0g,hrl]
        ·rw[←b2D h4 (by rw[a0g,hrl]) hlt]
         have hrow':=b0l h4 hrow
         refine List.ext_getElem? fun j=> ?_
         have hfl:=B7 h4
         have hat:∀m,m<o.sz→o.rows.flatten[r*o.sz+m]? =row[m]? :=by
          intro m hm
          have:=congrArg (fun l=>l[m]?) hrow'
          simp only[List.getElem?_take,if_pos hm,List.getElem?_drop]at this
          exact this
         rw[a2y,a2y,a2y,a0g,hrl]
         by_cases hin:r*o.sz≤j∧j<r*o.sz+o.sz∧j<o.rows.flatten.length
         ·rw[if_pos hin]
          by_cases hc:i≤j - r*o.sz∧j - r*o.sz<i+ds.length∧j - r*o.sz<o.sz
          ·rw[if_pos hc,if_pos (by omega)]
           congr 1;omega
          ·rw[if_neg hc,if_neg (by omega), ←hat _ (by omega)]
           congr 1;omega
         ·rw[if_neg hin,if_neg (by omega)]
       ·exact h.elim
      ·exact h.elim
     ·exact h.elim
    ·exact h.elim
   ·exact h.elim
  ·exact h.elim
 ·exact h.elim
end
end
section
section
variable{P:Program}{E:l9}{R:Fz}{S:b7}{H:AHeap}
theorem c3U{cs vs:List D}{i:Nat}(h:i+vs.length≤cs.length):o5 cs i vs=cs.take i++(vs++cs.drop (i+vs.length)):=by
 refine List.ext_getElem? fun j=> ?_
 rw[a2y,List.getElem?_append,List.getElem?_append,List.length_take,Nat.min_eq_left (by omega)]
 by_cases h1:j<i
 ·rw[if_neg (by omega),if_pos h1,List.getElem?_take,if_pos h1]
 ·rw[if_neg h1]
  by_cases h2:j - i<vs.length
  ·rw[if_pos ⟨by omega,by omega,by omega⟩,if_pos h2]
  ·rw[if_neg (by omega),if_neg h2,List.getElem?_drop]
   congr 1;omega
theorem c3Q{o:Id}{i n m:Nat}{cs:List AV}(h:J3 E H o i n=some cs)(hm:m≤n):J3 E H o i m=some (cs.take m):=by
 unfold J3 at h ⊢
 split at h
 ·cases h
  rw[if_pos (by omega),List.take_nil]
 ·by_cases h0:m=0
  ·rw[if_pos h0,h0,List.take_zero]
  ·rw[if_neg h0]
   unfold E4 at h ⊢
   split at h
   ·split at h
    ·cases h
     rw[if_pos (by omega),List.take_take,Nat.min_eq_left hm]
    ·cases h
   ·cases h
theorem b5f(hC:C8 E R S H){sz:Nat}{x:D}{v:AV}(hx:Rp E R x v){rows:List (List D)}(h:rowsS S sz x=some rows):
  (∀row∈rows,row.length=sz)∧a3r v=some rows.length∧∃cs,A2 E R rows.flatten cs∧cs.all u9=true∧∀n,n≤rows.length→a0p E H sz n v=some (cs.take (n*sz)):=by
 have gen:∀ {rows},K7 S sz x=some rows→_:=fun h'=>c1A hC hx h'
 have low:∀ {rows:List (List D)},K7 S sz x=some rows→(∀row∈rows,row.length=sz)∧a3r v=some rows.length∧∃cs,A2 E R rows.flatten cs∧cs.all u9=true∧∀n,n≤rows.length→a0p E H sz n v=some (cs.take (n*sz)):=by
  intro rows h'
  obtain⟨g1,g2,cs,g3,g4,g5⟩:=gen h'
  refine⟨g1,g2,cs,g3,g4,fun n hn=> ?_⟩
  obtain⟨k1,k2⟩:=g5 H (hC.agr _)
  have hcl:=g3.length
  rw[B7 g1]at hcl
  cases v<;>simp only[a3r,Option.some.injEq]at g2<;>try (cases g2;done)
  ·
   rename_i s
   simp only[a0p,Option.some.injEq]at k1 ⊢
   have:cs.length=s.length:=by rw[←k1,List.length_map, ←g2,List.take_length]
   rw[←k1, ←List.map_take,List.take_take]
   have e:rows.length*sz=rows.length:=by rw[←hcl,this,g2]
   by_cases h0:rows.length=0
   ·have:n=0:=by omega
    subst this
    simp
   ·have:sz=1:=Nat.eq_of_mul_eq_mul_left (Nat.pos_of_ne_zero h0) (by rw[e,Nat.mul_one])
    subst this
    rw[Nat.mul_one,Nat.min_eq_left hn]
  ·
   simp only[a0p,Option.some.injEq]at k1 ⊢
   rw[←k1,List.take_nil]
  ·rename_i o i len cap ex z
   have:=k2 _ _ _ _ _ _ rfl
   rw[g2]at this
   exact c3Q this (Nat.mul_le_mul_right _ hn)
 cases x<;>simp only[rowsS]at h<;>try (exact low h)
 rename_i s
 split at h
 ·rename_i hsz
  cases h
  subst hsz
  simp only[Rp]at hx
  subst hx
  clear gen low
  have hfl:(s.map fun b=>[D.int .u8 b.toNat]).flatten=s.map fun b=>D.int .u8 b.toNat:=by
   clear hC
   induction s with
   |nil=>rfl
   |cons a l ih=>rw[List.map_cons,List.flatten_cons,ih];rfl
  refine⟨fun row hr=> ?_,by rw[List.length_map];rfl,s.map fun b=> .int .u8 b.toNat, ?_, ?_,fun n hn=> ?_⟩
  ·obtain⟨b,_,rfl⟩:=List.mem_map.1 hr;rfl
  ·rw[hfl]
   refine a5h (by rw[List.length_map,List.length_map]) fun i d v h1 h2=> ?_
   rw[List.getElem?_map]at h1 h2
   cases hb:s[i]? with
   |none=>rw[hb]at h1;cases h1
   |some b=>rw[hb]at h1 h2;cases h1;cases h2;simp only[Rp]
  ·refine List.all_eq_true.2 fun v hv=> ?_
   obtain⟨b,_,rfl⟩:=List.mem_map.1 hv;rfl
  ·simp only[a0p,Nat.mul_one,List.map_take]
 ·cases h
theorem c7k(F:L0 H)(hC:C8 E R S H){sz bytes:Nat}{s:D}{v:AV}(hs:Rp E R s v){news:List (List D)}{cs:List AV}(hl:∀row∈news,row.length=sz)(hr:A2 E R news.flatten cs)(hsc:cs.all u9=true){K:D→b7→Prop}(h:a4o S sz bytes s news K):
  a4q (W8 E H sz bytes v news.length cs) (P5 E R K):=by
 have hcl:=hr.length
 rw[B7 hl]at hcl
 unfold a4o at h
 split at h
 ·have hs':=hs
  simp only[Rp]at hs
  subst hs
  split at h
  ·rename_i e
   subst e
   unfold W8
   rw[if_pos hcl]
   simp only
   rw[if_pos (by rfl)]
   exact⟨F,R,S,_,Fz.le_refl R,hC,hs',h⟩
  ·rename_i e
   obtain⟨hb,h⟩:=h
   have h0:news.length≠0:=fun e'=>e (List.length_eq_zero_iff.1 e')
   unfold W8
   rw[if_pos hcl]
   simp only
   rw[if_neg h0,if_pos hb]
   obtain⟨a,b,c,d⟩:=F.newCells cs
   exact b4j F hC d (hC.stays b) a hl hr hsc (Nat.le_refl _) (Nat.le_refl _) h
 ·rename_i k i len cap ex z
  have hs':=hs
  simp only[Rp]at hs
  subst hs
  split at h
  ·rename_i e
   subst e
   unfold W8
   rw[if_pos hcl]
   simp only
   rw[if_pos (by rfl)]
   exact⟨F,R,S,_,Fz.le_refl R,hC,hs',h⟩
  ·rename_i e
   have h0:news.length≠0:=fun e'=>e (List.length_eq_zero_iff.1 e')
   split at h
   ·rename_i o hk
    split at h
    ·rename_i hz
     obtain⟨rfl,hsz,hlen⟩:=hz
     obtain⟨hb,h⟩:=h
     obtain⟨h1,⟨pre,h2⟩,h3,h4,h5⟩:=hC.own k o hk
     rw[hsz]at h4
     have hal:=h5.length
     rw[B7 h4]at hal
     have hle:i*z+len*z≤o.acs.length:=by rw[hal, ←Nat.add_mul];exact Nat.mul_le_mul_right _ hlen
     obtain⟨H',q,e1,e2,e3,e4,F'⟩:=F.growN (E:=E) h2 (n:=len) (cap:=cap) (sz:=z) (ex:=ex) hle cs hcl h0 hsc hb
     rw[e1]
     have hd:∀row∈o.rows.drop i,row.length=z:=fun row hr=>h4 row (List.mem_of_mem_drop hr)
     refine b4j F (hC.less (b7.erase_le S k)) F' (hC.but e4 h1) e3 (fun row hr=> ?_) ?_ ?_ ?_ (Nat.le_refl _) h
     ·rcases List.mem_append.1 hr with hr|hr
      ·exact hd row (List.mem_of_mem_take hr)
      ·exact hl row hr
     ·rw[List.flatten_append, ←a3i hd, ←a4P h4]
      exact((h5.drop _).take _).append hr
     ·rw[List.all_append,N9 (a1z h3 _) _,hsc];rfl
     ·rw[List.length_append,List.length_take,List.length_drop];omega
    ·exact h.elim
   ·exact h.elim
 ·rename_i rows z
  have hs':=hs
  simp only[Rp]at hs
  split at h
  ·rename_i e
   subst e
   unfold W8
   rw[if_pos hcl]
   rcases hs with ⟨rfl,rfl⟩|⟨o,j,cap,ex,z',rfl,_⟩<;>simp only<;>rw[if_pos (by rfl)]<;>exact⟨F,R,S,_,Fz.le_refl R,hC,hs',h⟩
  ·exact h.elim
 ·rename_i rows more z
  have hs':=hs
  simp only[Rp]at hs
  split at h
  ·rename_i e
   subst e
   unfold W8
   rw[if_pos hcl]
   obtain⟨o,j,cap,ex,z',all,rfl,_⟩:=hs
   simp only
   rw[if_pos (by rfl)]
   exact⟨F,R,S,_,Fz.le_refl R,hC,hs',h⟩
  ·exact h.elim
 ·exact h.elim
theorem c1G(F:L0 H)(hC:C8 E R S H){sT xT e:TypeId}{sz bytes:Nat}{z:List D}(he:a6B P sT=some e)(hsz:C9 P e=some sz)(hby:a9j P e=some bytes)(hz:zeroCells P e=some z)(hzl:z.length=sz)
  (hxT:(∃u,P.underlying xT=some (.slice u))∨P.underlying xT=some .string) {s x:D} {v w:AV} (hs:Rp E R s v) (hx:Rp E R x w) {K:D→b7→Prop} (h:y8 S sz bytes s x K):a4q (a1e P E H sT v xT w) (P5 E R K):=by
 obtain⟨zv,hz1,hz2,_⟩:=b4H (E:=E) (R:=R) hz
 have hzl':zv.cells.length=sz:=by rw[hz2.length,hzl]
 unfold y8 at h
 split at h
 ·rename_i news hn
  obtain⟨g1,g2,cs,g3,g4,g5⟩:=b5f hC hx hn
  have hcl:=g3.length
  rw[B7 g1]at hcl
  have hf:=g5 news.length (Nat.le_refl _)
  rw[List.take_of_length_le (by omega)]at hf
  have hg:=c7k (bytes:=bytes) F hC hs g1 g3 g4 h
  unfold a1e
  simp only[he,hsz,hby,hz1,Option.bind_eq_bind,Option.bind_some]
  rw[if_pos hzl']
  rcases hxT with ⟨u,hu⟩|hu
  ·simp only[hu,g2,hf,Option.bind_some];exact hg
  ·simp only[hu,g2,hf,Option.bind_some];exact hg
 ·exact h.elim
theorem a7E{R:Fz}{S:b7}{H:AHeap}(hC:C8 E R S H){k:Nat}{o:L2}(hk:S k=some o){i len cap:Nat}{ex:Bool}{sz:Nat}{v:AV}(hv:Rp E R (.raw k i len cap ex sz) v)(hsz:o.sz=sz)(hl:i+len≤o.rows.length)(hc:len≤cap):
  Rp E (fun j=>if j=k then some o.acs else R j) (.lst ((o.rows.drop i).take len) sz) v:=by
 obtain⟨h1,⟨pre,h2⟩,h3,h4,h5⟩:=hC.own k o hk
 obtain⟨_,hle⟩:=hC.freeze hk
 simp only[Rp]at hv
 subst hv
 rw[hsz]at h4
 have hlen:((o.rows.drop i).take len).length=len:=by rw[List.length_take,List.length_drop];omega
 have hd:∀row∈o.rows.drop i,row.length=sz:=fun row hr=>h4 row (List.mem_of_mem_drop hr)
 simp only[Rp]
 refine .inr ⟨.new k,i*sz,cap,ex,sz,by rw[hlen],rfl,by rw[hlen];exact hc,fun row hr=>hd row (List.mem_of_mem_take hr), .inr ⟨o.acs, ?_, ?_,N9 (a1z h3 _) _⟩⟩
 ·show(if k=k then some o.acs else R k)=some o.acs
  rw[if_pos rfl]
 ·rw[hlen,N4, ←a3i hd, ←a4P h4]
  exact A2.le hle _ _ ((h5.drop _).take _)
theorem c5N(F:L0 H)(hC:C8 E R S H){sT xT e:TypeId}{sz bytes:Nat}{z:List D}{ik:IntKind}(he:a6B P sT=some e)(hsz:C9 P e=some sz)(hby:a9j P e=some bytes)(hz:zeroCells P e=some z)(hzl:z.length=sz)
  (hxT:P.underlying xT=some (.int ik)) {s x:D} {v w:AV} (hs:Rp E R s v) (hx:Rp E R x w) {K:D→b7→Prop} (h:b0o S sz bytes z s x K):a4q (a1e P E H sT v xT w) (P5 E R K):=by
 obtain⟨zv,hz1,hz2,hz3⟩:=b4H (E:=E) (R:=R) hz
 have hzl':zv.cells.length=sz:=by rw[hz2.length,hzl]
 unfold b0o at h
 split at h
 ·rename_i k l
  split at h
  ·rename_i hc
   simp only[Rp]at hx
   subst hx
   have hg:=c7k (bytes:=bytes) (news:=List.replicate l.toNat z) (cs:=rep zv.cells l.toNat) F hC hs (fun row hr=>by rw[List.eq_of_mem_replicate hr];exact hzl) (b5k hz2 _) (a8X hz3 _) h
   rw[List.length_replicate]at hg
   unfold a1e
   simp only[he,hsz,hby,hz1,Option.bind_eq_bind,Option.bind_some,hxT,a0t]
   rw[if_pos hzl',if_pos hc]
   exact hg
  ·exact h.elim
 ·exact h.elim
theorem d1n(F:L0 H)(hC:C8 E R S H){dT e:TypeId}{sz:Nat}(he:a6B P dT=some e)(hsz:C9 P e=some sz){d x:D}{v w:AV}(hd:Rp E R d v)(hx:Rp E R x w){K:D→b7→Prop}(h:d0l S sz d x K):a4q (b0z P E H dT v w) (P5 E R K):=by
 unfold d0l at h
 unfold b0z
 simp only[he,hsz,Option.bind_eq_bind,Option.bind_some]
 split at h
 ·simp only[Rp]at hd
  subst hd
  split at h
  ·rename_i rows hr
   obtain⟨g1,g2,_⟩:=b5f hC hx hr
   simp only[g2,Option.bind_some]
   exact⟨F,R,S, .int .i64 0,Fz.le_refl R,hC,by simp only[Rp],h⟩
  ·exact h.elim
 ·rename_i k i len cap ex z
  simp only[Rp]at hd
  subst hd
  split at h
  ·rename_i rows o hr hk
   split at h
   ·rename_i hc
    obtain⟨rfl,hoz,hlen,hz0⟩:=hc
    obtain⟨g1,g2,cs,g3,g4,g5⟩:=b5f hC hx hr
    simp only[g2,Option.bind_some,g5 _ (Nat.min_le_left _ _)]
    obtain⟨h1,⟨pre,h2⟩,h3,h4,h5⟩:=hC.own k o hk
    rw[hoz]at h4
    have hal:=h5.length
    rw[B7 h4]at hal
    generalize hn:min rows.length len=n at*
    have hnl:n≤len:=by omega
    have hnr:n≤rows.length:=by omega
    have hcl:=g3.length
    rw[B7 g1]at hcl
    have hnews:A2 E R (rows.take n).flatten (cs.take (n*z)):=by rw[←a3i g1];exact g3.take _
    have hnewl:(cs.take (n*z)).length=n*z:=by rw[List.length_take,hcl];exact Nat.min_eq_left (Nat.mul_le_mul_right _ hnr)
    have hle:i*z+n*z≤o.acs.length:=by rw[hal, ←Nat.add_mul];exact Nat.mul_le_mul_right _ (by omega)
    have htl:∀row∈rows.take n,row.length=z:=fun row hr=>g1 row (List.mem_of_mem_take hr)
    have htn:(rows.take n).length=n:=by rw[List.length_take];omega
    have hflat:(o.rows.take i++(rows.take n++o.rows.drop (i+n))).flatten=o5 o.rows.flatten (i*z) (rows.take n).flatten:=by
     rw[c3U (by rw[B7 htl,htn, ←Nat.add_mul,B7 h4];exact Nat.mul_le_mul_right _ (by omega)),B7 htl,htn, ←Nat.add_mul,a3i h4,a4P h4,List.flatten_append,List.flatten_append]
    have hrl:∀row∈o.rows.take i++(rows.take n++o.rows.drop (i+n)),row.length=z:=fun row hr=>by
     rcases List.mem_append.1 hr with hr|hr
     ·exact h4 row (List.mem_of_mem_take hr)
     ·rcases List.mem_append.1 hr with hr|hr
      ·exact htl row hr
      ·exact h4 row (List.mem_of_mem_drop hr)
    by_cases h0:n=0
    ·subst h0
     have e0:cs.take (0*z)=[]:=by rw[Nat.zero_mul,List.take_zero]
     rw[e0]
     refine⟨F,R,_, .int .i64 (0:Nat),Fz.le_refl R, ?_,by simp only[Rp],h o.acs⟩
     refine hC.put h1 h2 h3 hrl ?_
     show A2 E R (o.rows.take i++(rows.take 0++o.rows.drop (i+0))).flatten _
     rw[List.take_zero,List.nil_append,Nat.add_zero,List.take_append_drop]
     exact h5
    ·have hne:cs.take (n*z)≠[]:=fun e=>by
      rw[e]at hnewl
      simp only[List.length_nil]at hnewl
      have:=Nat.mul_pos (Nat.pos_of_ne_zero h0) hz0
      omega
     obtain⟨H',e1,e2,e3,e4,F'⟩:=F.stores h2 (n:=i*z) hne (by rw[hnewl];exact hle) (N9 g4 _)
     rw[e1]
     refine⟨F',R,_, .int .i64 (n:Nat),Fz.le_refl R, ?_,by simp only[Rp],h (D9 o.acs (i*z) (cs.take (n*z)))⟩
     have hS:S.set k ⟨z,o.rows.take i++(rows.take n++o.rows.drop (i+n)),D9 o.acs (i*z) (cs.take (n*z))⟩=(S.erase k).set k ⟨z,o.rows.take i++(rows.take n++o.rows.drop (i+n)),D9 o.acs (i*z) (cs.take (n*z))⟩:=by
      funext j;simp only[b7.set,b7.erase];split<;>rfl
     rw[hS]
     refine(hC.but e3 h1).put h1 (pre:=[]) e2 (a0P h3 (N9 g4 _)) hrl ?_
     show A2 E R (o.rows.take i++(rows.take n++o.rows.drop (i+n))).flatten _
     rw[hflat]
     exact a3P h5 hnews
   ·exact h.elim
  ·exact h.elim
 ·exact h.elim
theorem d0V(F:L0 H)(hC:C8 E R S H){t e:TypeId}{sz bytes:Nat}{z:List D}(he:a6B P t=some e)(hsz:C9 P e=some sz)(hby:a9j P e=some bytes)(hz:zeroCells P e=some z)(hzl:z.length=sz){l c:D}{vl vc:AV}(hl:Rp E R l vl)(hc:Rp E R c vc){K:D→b7→Prop}(h:b2C S sz bytes z l c K):
  a4q (N8 P H t vl vc) (P5 E R K):=by
 obtain⟨zv,hz1,hz2,hz3⟩:=b4H (E:=E) (R:=R) hz
 have hzl':zv.cells.length=sz:=by rw[hz2.length,hzl]
 unfold b2C at h
 split at h
 ·rename_i k1 nl k2 nc
  simp only[Rp]at hl hc
  subst hl hc
  split at h
  ·rename_i hb
   obtain⟨h0,h1,h2,h3⟩:=hb
   unfold N8
   simp only[he,hsz,hby,hz1,a0t,Option.bind_eq_bind,Option.bind_some]
   rw[if_pos ⟨o3 (by omega) (by omega),o3 (by omega) (by omega),h0,h1,h2,hzl'⟩]
   obtain⟨a,b,c',d⟩:=F.newCells (rep zv.cells nc.toNat)
   exact b4j F hC d (hC.stays b) a (fun row hr=>by rw[List.eq_of_mem_replicate hr,hzl]) (b5k hz2 _) (a8X hz3 _) (by rw[List.length_replicate];omega) (by omega) h
  ·exact h.elim
 ·exact h.elim
theorem c9T(F:L0 H)(hC:C8 E R S H){s t e:TypeId}(hs:P.underlying s=some .string)(ht:P.underlying t=some (.slice e))(he:P.underlying e=some (.int .u8)){x:D}{v:AV}(hx:Rp E R x v){K:D→b7→Prop}(h:b9c S x K):
  a4q (O2 P E H s t v) (P5 E R K):=by
 cases x<;>simp only[b9c]at h<;>try (exact h.elim)
 rename_i u
 split at h
 ·rename_i hl
  have hx':=hx
  simp only[Rp]at hx'
  subst hx'
  have hr:rowsS S 1 (.str u)=some (u.map fun b=>[.int .u8 b.toNat]):=rfl
  obtain⟨g1,g2,cs,g3,g4,g5⟩:=b5f hC hx hr
  have hf:=g5 _ (Nat.le_refl _)
  have hcl:=g3.length
  rw[B7 g1]at hcl
  rw[List.take_of_length_le (by omega)]at hf
  simp only[a0p,List.length_map,List.take_length,Option.some.injEq]at hf
  simp only[O2,hs,ht,he]
  rw[if_pos hl,hf]
  obtain⟨a,b,c,d⟩:=F.newCells cs
  refine b4j F hC d (hC.stays b) a g1 g3 g4 ?_ (Nat.le_refl _) h
  rw[List.length_map];exact Nat.le_refl _
 ·exact h.elim
def c9H(F:FW):Prop:=∀f args H (Q Q':AV→AHeap→Prop),F f args H Q→(∀v H',Q v H'→Q' v H')→F f args H Q'
theorem c7T{F:FW}{G:DW}(hG:GoF E F G R S H){f:FuncId}{ds:List D}{avs:List AV}(hF:L0 H)(hC:C8 E R S H)(ha:A2 E R ds avs){K:D→b7→Prop}(h:G f ds S K):F f avs H (P5 E R K):=hG _ _ _ _ ha h
theorem c0h{F:FW}{G:DW}(hG:GoF E F G R S H){f:FuncId}{ds:List D}{avs:List AV}(hF:L0 H)(hC:C8 E R S H)(ha:A2 E R ds avs){K:D→b7→Prop}(h:b0r P G S f ds K):b3v F (R9 P H f avs) (P5 E R K):=by
 unfold b0r at h
 split at h
 ·rename_i hb
  unfold R9
  rw[if_pos hb]
  exact c7T hG hF hC ha h
 ·exact h.elim
theorem b8G{F:FW}{G:DW}(hG:GoF E F G R S H){f:D}{vf:AV}{ds:List D}{avs:List AV}(hF:L0 H)(hC:C8 E R S H)(hf:Rp E R f vf)(ha:A2 E R ds avs){K:D→b7→Prop}(h:a1L P G S f ds K):b3v F (b6z P E H vf avs) (P5 E R K):=by
 unfold a1L at h
 split at h
 ·rename_i g a b
  simp only[Rp]at hf
  obtain⟨a',b',rfl,h1,h2⟩:=hf
  exact c0h hG hF hC ((h1.append ha).append h2) h
 ·rename_i t path g pointer a b
  simp only[Rp]at hf
  obtain⟨a',b',rfl,h1,h2⟩:=hf
  have h12:=h1.append ha
  unfold b6z
  split at h
  ·rename_i x rest u hp hx hu
   rw[hx]at h12
   simp only[A2]at h2 h12
   subst h2
   obtain⟨v,vs,e,k1,k2⟩:=h12
   simp only[hp,e,hu]
   split at h
   ·rename_i hpt
    simp only[hpt]
    exact c0h hG hF hC (A7 k1 k2) h
   ·exact h.elim
  ·exact h.elim
 ·exact h.elim
theorem c8n{F:FW}{G:DW}(hG:GoF E F G R S H){r:D}{vr:AV}{name:String}{ds:List D}{avs:List AV}(hF:L0 H)(hC:C8 E R S H)(hr:Rp E R r vr)(ha:A2 E R ds avs){K:D→b7→Prop}(h:c2G P G S r name ds K):b3v F (c7Z P E H vr name avs) (P5 E R K):=by
 unfold c2G at h
 split at h
 ·rename_i t d
  simp only[Rp]at hr
  obtain⟨v,rfl,hv⟩:=hr
  split at h
  ·rename_i f hm
   have hmA:a1d P E H t v name=some (f,v):=by
    unfold c7M at hm
    unfold a1d
    cases hi:P.info? t with
    |none=>rw[hi]at hm;cases hm
    |some info=>
     rw[hi]at hm
     simp only at hm
     cases hf:info.methods.find? (·.name==name) with
     |none=>rw[hf]at hm;cases hm
     |some m=>
      simp only[hf]at hm
      simp only[Option.bind_eq_bind,Option.bind_some,hf]
      split at hm
      ·rename_i h1 h2 h3
       cases hm
       simp only[h1,Z2,Option.bind_some,h2,h3,a0V.get,Option.map_some]
      ·rename_i h1 h2 h3
       cases hm
       simp only[h1,Z2,Option.bind_some,h2,h3,a0V.get,Option.map_some]
      ·rename_i h1 h2 h3
       cases hm
       simp only[h1,Z2,Option.bind_some,h2,h3,a0V.get,Option.map_some]
      ·rename_i h1 h2 h3
       cases hm
       simp only[h1,Z2,Option.bind_some,h2,h3,a0V.get,Option.map_some]
      ·rename_i h1 h2 h3
       cases hm
       simp only[h1,Z2,Option.bind_some,h2,h3,a0V.get,Option.map_some]
      ·cases hm
   show b3v F ((a1d P E H t v name).bind fun(g,r)=>R9 P H g (r::avs)) _
   rw[hmA]
   exact c0h hG hF hC (A7 hv ha) h
  ·exact h.elim
 ·exact h.elim
theorem d1i{F:FW}{G:DW}(hG:GoF E F G R S H)(hF:L0 H)(hC:C8 E R S H){T:List D}{avs:List AV}(hT:A2 E R T avs){o:Oper}{K:D→b7→Prop}(h:d1T P G T S o K):opW P E F avs H o (P5 E R K):=by
 obtain⟨dst,op,type,pos,after,guard⟩:=o
 cases op<;>simp only[d1T]at h<;>try (exact h.elim)
 case alloc e=>
  simp only[opW]
  split at h
  ·rename_i cs hcs
   obtain⟨z,hz1,hz2,hz3⟩:=b4H (E:=E) (R:=R) hcs
   rw[hz1]
   exact c4F hF hC hz2 hz3 h
  ·exact h.elim
 case box t x=>
  simp only[opW]
  unfold a9 at h
  split at h
  ·rename_i cs hcs
   obtain⟨g1,g2⟩:=b1B (z7 hT x) hcs
   exact c4F hF hC g1 g2 h
  ·exact h.elim
 case buildSlice t len parts=>
  simp only[opW]
  split at h
  ·rename_i e he
   split at h
   ·rename_i sz z hsz hz
    split at h
    ·rename_i hc
     obtain⟨zv,hz1,hz2,hz3⟩:=b4H (E:=E) (R:=R) hz
     have hzl':zv.cells.length=sz:=by rw[hz2.length,hc.1]
     unfold u4 a9 at h
     split at h
     ·rename_i rs hrs
      obtain⟨us,k1,k2,k3,k4,k5⟩:=c5A (b8O hT parts.toList) (fun row hr=>by rw[List.eq_of_mem_replicate hr,hc.1]) (b5k hz2 len) (a8X hz3 len) hrs
      unfold M7
      simp only[he,hsz,Option.bind_eq_bind,Option.bind_some]
      rw[if_pos hc.2,hz1,Option.bind_some,if_pos hzl',k5,Option.bind_some]
      obtain⟨a,b,c',d⟩:=hF.newCells us
      rw[List.length_replicate]at k2
      exact b4j hF hC d (hC.stays b) a k1 k3 k4 (by omega) (Nat.le_refl _) h
     ·exact h.elim
    ·exact h.elim
   ·exact h.elim
  ·exact h.elim
 case store t a x=>
  simp only[opW]
  split at h
  ·rename_i n hn
   exact c9J hF hC (z7 hT a) (z7 hT x) hn h
  ·exact h.elim
 case convert s t x=>
  simp only[opW]
  split at h
  ·rename_i e hu1 hu2
   split at h
   ·rename_i hue
    exact c9T hF hC hu1 hu2 hue (z7 hT x) h
   ·exact h.elim
  ·rename_i e0 e hu1 hu2
   split at h
   ·rename_i hue
    split at h
    ·rename_i hst
     have hx:=z7 hT x
     unfold c1z at h
     split at h
     ·rename_i k i len cap ex sz hd
      rw[hd]at hx
      split at h
      ·rename_i ob hk
       split at h
       ·rename_i hl
        simp only[Rp]at hx
        obtain⟨g1,⟨pre,g2⟩,_⟩:=hC.own k ob hk
        rw[hx]
        unfold O2
        simp only[hu1,hu2,hue]
        rw[if_pos ⟨hst,hl,by simp only[cellsOf,g2];rfl⟩]
        rcases h with h|⟨⟨q1,q2,q3⟩,h⟩
        ·exact⟨hF,R,S,_,Fz.le_refl R,hC,by simp only[Rp],h⟩
        ·obtain⟨r1,r2⟩:=hC.freeze hk
         exact⟨hF,_,_,_,r2,r1,a7E (cap:=cap) (ex:=ex) hC hk (by simp only[Rp]) q1 q2 q3,h⟩
       ·exact h.elim
      ·exact h.elim
     ·exact h.elim
    ·exact h.elim
   ·exact h.elim
  ·exact h.elim
 case makeSlice t l c=>
  simp only[opW]
  split at h
  ·rename_i e he
   split at h
   ·rename_i sz bytes z hsz hby hz
    split at h
    ·rename_i hzl
     exact d0V hF hC he hsz hby hz hzl (z7 hT l) (z7 hT c) h
    ·exact h.elim
   ·exact h.elim
  ·exact h.elim
 case call c=>
  simp only[opW]
  cases hc:c.callee with
  |value f=>
   simp only[hc]at h
   have ha:=a3G hT c.args.toList
   cases f with
   |func g=>
    simp only at h ⊢
    split at h
    ·rename_i hb
     rw[if_pos hb]
     exact c7T hG hF hC ha h
    ·exact h.elim
   |tmp t=>exact b8G hG hF hC (z7 hT _) ha h
   |const v=>exact b8G hG hF hC (z7 hT _) ha h
   |global g=>exact b8G hG hF hC (z7 hT _) ha h
  |invoke r m=>
   simp only[hc]at h ⊢
   exact c8n hG hF hC (z7 hT r) (a3G hT c.args.toList) h
  |builtin b=>
   simp only[hc]at h ⊢
   have ha:=a3G hT c.args.toList
   generalize c.args.toList.map (A5 T)=ds at h ha
   generalize c.args.toList.map (m8 avs)=vs at ha
   generalize c.argTypes.toList=ts at h
   cases b<;>(try simp only at h)<;>try (exact h.elim)
   case append=>
    rcases ds with _|⟨x,_|⟨y,_|⟨w,ds⟩⟩⟩<;>(try simp only at h)<;>try (exact h.elim)
    rcases ts with _|⟨t,_|⟨u,_|⟨u',ts⟩⟩⟩<;>(try simp only at h)<;>try (exact h.elim)
    simp only[A2]at ha
    obtain⟨v,_,rfl,h1,v2,_,rfl,h2,rfl⟩:=ha
    split at h
    ·rename_i e he
     split at h
     ·rename_i sz bytes z u' hsz hby hz hu
      split at h
      ·rename_i hzl;exact c1G hF hC he hsz hby hz hzl (.inl ⟨_,hu⟩) h1 h2 h
      ·exact h.elim
     ·rename_i sz bytes z hsz hby hz hu
      split at h
      ·rename_i hzl;exact c1G hF hC he hsz hby hz hzl (.inr hu) h1 h2 h
      ·exact h.elim
     ·rename_i sz bytes z ik hsz hby hz hu
      split at h
      ·rename_i hzl;exact c5N hF hC he hsz hby hz hzl hu h1 h2 h
      ·exact h.elim
     ·exact h.elim
    ·exact h.elim
   case copy=>
    rcases ds with _|⟨x,_|⟨y,_|⟨w,ds⟩⟩⟩<;>(try simp only at h)<;>try (exact h.elim)
    rcases ts with _|⟨t,ts⟩<;>(try simp only at h)<;>try (exact h.elim)
    simp only[A2]at ha
    obtain⟨v,_,rfl,h1,v2,_,rfl,h2,rfl⟩:=ha
    split at h
    ·rename_i e he
     split at h
     ·rename_i sz hsz
      exact d1n hF hC he hsz h1 h2 h
     ·exact h.elim
    ·exact h.elim
end
end
end Go.Am
end
