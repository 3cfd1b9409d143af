/-
  ImageSpoiltSaid: part Pap of its proof.
-/
import Derived.Test.YtchnpgddpaonhaaPao
set_option linter.unusedVariables false
set_option linter.unusedSimpArgs false
set_option maxRecDepth 100000
section
namespace Go.Am
section
def Q9(E:m6)(R:Fz)(Q:D→b7→Prop)(v:AV)(H':AHeap):Prop:=L8 H'∧∃R' S' d,R.le R'∧D5 E R' S' H'∧Rp E R' d v∧Q d S'
abbrev DW:=FuncId→List D→b7→(D→b7→Prop)→Prop
def GoF(E:m6)(F:FW)(G:DW)(R:Fz)(S:b7)(H:AHeap):Prop:=∀f ds avs K,A3 E R ds avs→G f ds S K→F f avs H (Q9 E R K)
def o6(S:b7)(cs:List D)(K:D→b7→Prop):Prop:=∀k acs,S k=none→K (.ptr k 0) (S.set k ⟨cs.length,[cs],acs⟩)
def c8m(S:b7)(sz:Nat)(rows:List (List D))(len cap:Nat)(ex:Bool)(K:D→b7→Prop):Prop:=
 K (.lst (rows.take len) sz) S∨∀k acs,S k=none→K (.raw k 0 len cap ex sz) (S.set k ⟨sz,rows,acs⟩)
def p9(sz:Nat):List (List D)→List (Nat×D)→Option (List (List D))
 |rows,[]=>some rows
 |rows,(i,v)::rest=>match r7 v with
  |some ds=>if ds.length=sz∧i<rows.length then p9 sz (rows.set i ds) rest else none
  |none=>none
def u6(S:b7)(sz:Nat)(rows:Option (List (List D)))(len:Nat)(K:D→b7→Prop):Prop:=a9 rows fun rs=>c8m S sz rs len len true K
def f0(S:b7)(n:Nat)(a x:D)(K:D→b7→Prop):Prop:=match r7 x with
 |some ds=>if ds.length=n∧0<n then match a with
  | .ptr k i=>match S k with
   |some o=>match o.rows with
    | [cs]=>if i+n≤cs.length then ∀acs,K b8 (S.set k ⟨o.sz,[o8 cs i ds],acs⟩) else False
    |_=>False
   |none=>False
  | .rel k r i sz=>match S k with
   |some o=>if o.sz=sz then match o.rows[r]? with
    |some row=>if i+n≤row.length then ∀acs,K b8 (S.set k ⟨sz,o.rows.set r (o8 row i ds),acs⟩) else False
    |none=>False
    else False
   |none=>False
  |_=>False
  else False
 |none=>False
def rowsS(S:b7)(sz:Nat)(x:D):Option (List (List D)):=match x with
 | .str s=>if sz=1 then some (s.map fun b=>[.int .u8 b.toNat]) else none
 |x=>J5 S sz x
def a4P(S:b7)(sz bytes:Nat)(s:D)(news:List (List D))(K:D→b7→Prop):Prop:=match s with
 | .nilSlc=>if news=[]then K .nilSlc S else(0<bytes∧(2*news.length+768)*bytes≤2^47)∧c8m S sz news news.length news.length false K
 | .raw k i len cap ex z=>if news=[]then K s S else match S k with
  |some o=>if z=sz∧o.sz=sz∧i+len≤o.rows.length then(0<bytes∧(2*(len+news.length)+768)*bytes≤2^47)∧
    c8m (S.erase k) sz ((o.rows.drop i).take len++news) (len+news.length) (len+news.length) false K else False
  |none=>False
 | .lst _ _| .ext _ _ _=>if news=[]then K s S else False
 |_=>False
def y9(S:b7)(sz bytes:Nat)(s x:D)(K:D→b7→Prop):Prop:=match rowsS S sz x with
 |some news=>a4P S sz bytes s news K
 |none=>False
def b1M(S:b7)(sz bytes:Nat)(z:List D)(s x:D)(K:D→b7→Prop):Prop:=match x with
 | .int _ l=>if IntKind.i64.wrap l=l∧0≤l∧l*bytes≤2^47 then a4P S sz bytes s (List.replicate l.toNat z) K else False
 |_=>False
def d0Q(S:b7)(sz:Nat)(d x:D)(K:D→b7→Prop):Prop:=match d with
 | .nilSlc=>match rowsS S sz x with
  |some _=>K (.int .i64 0) S
  |none=>False
 | .raw k i len cap ex z=>match rowsS S sz x,S k with
  |some rows,some o=>if z=sz∧o.sz=sz∧i+len≤o.rows.length∧0<sz then
    ∀acs,K (.int .i64 (min rows.length len:Nat)) (S.set k ⟨sz,o.rows.take i++(rows.take (min rows.length len)++o.rows.drop (i+min rows.length len)),acs⟩) else False
  |_,_=>False
 |_=>False
def b3n(S:b7)(sz bytes:Nat)(z:List D)(l c:D)(K:D→b7→Prop):Prop:=match l,c with
 | .int _ l, .int _ c=>if 0≤l∧l≤c∧bytes*c≤2^47∧c<2^63 then c8m S sz (List.replicate c.toNat z) l.toNat c.toNat true K else False
 |_,_=>False
def b9x(S:b7)(x:D)(K:D→b7→Prop):Prop:=match x with
 | .str s=>if s.length≤2^40 then c8m S 1 (s.map fun b=>[.int .u8 b.toNat]) s.length s.length false K else False
 |_=>False
def c3k(S:b7)(x:D)(K:D→b7→Prop):Prop:=match x with
 | .raw k i len cap ex sz=>match S k with
  |some o=>if len≠0 then K (.raw k i len cap ex sz) S∨((o.sz=sz∧i+len≤o.rows.length∧len≤cap)∧K (.lst ((o.rows.drop i).take len) sz) (S.erase k)) else False
  |none=>False
 |_=>False
section
variable(P:Program)
def b1g(G:DW)(S:b7)(f:FuncId)(args:List D)(K:D→b7→Prop):Prop:=if a9X P f then G f args S K else False
def a2f(G:DW)(S:b7)(f:D)(args:List D)(K:D→b7→Prop):Prop:=match f with
 | .fn (.func g) a b=>b1g P G S g (a++args++b) K
 | .fn (.via t path g pointer) a b=>match b,path.toList,a++args,P.underlying t with
  | [],[],x::rest,some (.pointer _)=>if pointer then b1g P G S g (x::rest) K else False
  |_,_,_,_=>False
 |_=>False
def c9t(t:TypeId)(name:String):Option FuncId:=match P.info? t with
 |some info=>match info.methods.find? (·.name==name) with
  |some m=>match m.path.toList,m.func,P.underlying t with
   | [],some (f,true),some (.pointer _)=>some f
   | [],some (f,false),some (.struct _)| [],some (f,false),some (.int _)| [],some (f,false),some .string| [],some (f,false),some (.slice _)=>some f
   |_,_,_=>none
  |none=>none
 |none=>none
def c3W(G:DW)(S:b7)(r:D)(name:String)(args:List D)(K:D→b7→Prop):Prop:=match r with
 | .ifc t v=>match c9t P t name with
  |some f=>b1g P G S f (v::args) K
  |none=>False
 |_=>False
def zeroCells(t:TypeId):Option (List D):=match P5 P t with
 |some z=>r7 (d0B z)
 |none=>none
def d4y(G:DW)(T:List D)(S:b7)(o:Oper)(K:D→b7→Prop):Prop:=
 match o.op with
 | .alloc e=>match zeroCells P e with
  |some cs=>o6 S cs K
  |none=>False
 | .box _ x=>a9 (r7 (B0 T x)) fun cs=>o6 S cs K
 | .buildSlice t len parts=>match a7a P t with
  |some e=>match D7 P e,zeroCells P e with
   |some sz,some z=>if z.length=sz∧len*sz≤2^24 then u6 S sz (p9 sz (List.replicate len z) (parts.toList.map fun p=>(p.1,B0 T p.2))) len K else False
   |_,_=>False
  |none=>False
 | .store t a x=>match D7 P t with
  |some n=>f0 S n (B0 T a) (B0 T x) K
  |none=>False
 | .convert src dst x=>match P.underlying src,P.underlying dst with
  |some .string,some (.slice e)=>match P.underlying e with
   |some (.int .u8)=>b9x S (B0 T x) K
   |_=>False
  |some (.slice _),some (.slice e)=>match P.underlying e with
   |some (.int .u8)=>if src=dst then c3k S (B0 T x) K else False
   |_=>False
  |_,_=>False
 | .makeSlice t l c=>match a7a P t with
  |some e=>match D7 P e,a9s P e,zeroCells P e with
   |some sz,some bytes,some z=>if z.length=sz then b3n S sz bytes z (B0 T l) (B0 T c) K else False
   |_,_,_=>False
  |none=>False
 | .call c=>match c.callee with
  | .value (.func g)=>if a9X P g then G g (c.args.toList.map (B0 T)) S K else False
  | .value f=>a2f P G S (B0 T f) (c.args.toList.map (B0 T)) K
  | .invoke r name=>c3W P G S (B0 T r) name (c.args.toList.map (B0 T)) K
  | .builtin b=>match b,c.args.toList.map (B0 T),c.argTypes.toList with
   | .append,[s,x],[sT,xT]=>match a7a P sT with
    |some e=>match D7 P e,a9s P e,zeroCells P e,P.underlying xT with
     |some sz,some bytes,some z,some (.slice _)|some sz,some bytes,some z,some .string=>if z.length=sz then y9 S sz bytes s x K else False
     |some sz,some bytes,some z,some (.int _)=>if z.length=sz then b1M S sz bytes z s x K else False
     |_,_,_,_=>False
    |none=>False
   | .copy,[d,x],dT::_=>match a7a P dT with
    |some e=>match D7 P e with
     |some sz=>d0Q S sz d x K
     |none=>False
    |none=>False
   |_,_,_=>False
 |_=>False
end
section
variable{P:Program}{E:m6}{R:Fz}{S:b7}{H:AHeap}
theorem a2H:∀(vs cs:List D) (i j:Nat),(o8 cs i vs)[j]? =if i≤j∧j<i+vs.length∧j<cs.length then vs[j - i]? else cs[j]? :=by
 intro vs
 induction vs with
 |nil=>intro cs i j;simp only[o8,List.length_nil];rw[if_neg (by omega)]
 |cons v vs ih=>
  intro cs i j
  simp only[o8]
  rw[ih,List.length_set,List.getElem?_set,List.length_cons]
  by_cases h:i=j
  ·subst h
   rw[if_neg (by omega),if_pos rfl]
   by_cases hl:i<cs.length
   ·rw[if_pos hl,if_pos ⟨by omega,by omega,hl⟩,Nat.sub_self];rfl
   ·rw[if_neg hl,if_neg (by omega)]
    exact(List.getElem?_eq_none (by omega)).symm
  ·rw[if_neg h]
   by_cases hc:i+1≤j∧j<i+1+vs.length∧j<cs.length
   ·rw[if_pos hc,if_pos ⟨by omega,by omega,hc.2.2⟩,show j - i=(j - (i+1))+1 by omega]
    rfl
   ·rw[if_neg hc,if_neg (by omega)]
theorem b3t:∀ {rows:List (List D)} {sz i:Nat} {ds:List D},(∀row∈rows,row.length=sz)→ds.length=sz→i<rows.length→o8 rows.flatten (i*sz) ds=(rows.set i ds).flatten:=by
 intro rows sz i ds h hd hi
 refine List.ext_getElem? fun j=> ?_
 rw[a2H]
 induction rows generalizing i j with
 |nil=>simp at hi
 |cons r rs ih=>
  have hr:=h r List.mem_cons_self
  have hrs:∀row∈rs,row.length=sz:=fun x hx=>h x (List.mem_cons_of_mem _ hx)
  have hfl:=C5 h
  cases i with
  |zero=>
   simp only[List.set_cons_zero,List.flatten_cons,Nat.zero_mul,Nat.zero_le,true_and,Nat.zero_add,Nat.sub_zero]
   rw[List.getElem?_append,List.getElem?_append,List.length_append]
   by_cases hj:j<sz
   ·rw[if_pos ⟨by omega,by omega⟩,if_pos (by omega)]
   ·rw[if_neg (by omega),if_neg (by omega),if_neg (by omega),hr,hd]
  |succ i=>
   have hi':i<rs.length:=by simpa using hi
   simp only[List.set_cons_succ,List.flatten_cons]
   rw[List.getElem?_append,List.getElem?_append,List.length_append]
   by_cases hj:j<r.length
   ·rw[if_neg (by rw[Nat.succ_mul];omega),if_pos hj,if_pos hj]
   ·rw[if_neg hj,if_neg hj, ←ih hrs hi',Nat.succ_mul]
    by_cases hc:i*sz≤j - r.length∧j - r.length<i*sz+ds.length∧j - r.length<rs.flatten.length
    ·rw[if_pos (by omega),if_pos hc]
     congr 1;omega
    ·rw[if_neg (by omega),if_neg hc]
theorem c5A{sz:Nat}:∀ {parts:List (Nat×D)} {ps:List (Nat×AV)} {rows r:List (List D)} {ws:List AV},RpP E R parts ps→(∀row∈rows,row.length=sz)→A3 E R rows.flatten ws→ws.all w8=true→p9 sz rows parts=some r→
  ∃us,(∀row∈r,row.length=sz)∧r.length=rows.length∧A3 E R r.flatten us∧us.all w8=true∧a7I (fun i=>some (i*sz,sz)) ws ps=some us
 | [],ps,rows,r,ws,hp,hl,hw,hs,h=>by
  have hp':ps=[]:=hp
  subst hp'
  cases h
  exact⟨ws,hl,rfl,hw,hs,rfl⟩
 |(i,d)::parts,ps,rows,r,ws,hp,hl,hw,hs,h=>by
  obtain⟨v,vs,rfl,hd,hp⟩:=hp
  simp only[p9]at h
  split at h
  ·rename_i ds hds
   split at h
   ·rename_i hc
    obtain⟨g1,g2⟩:=b1T hd hds
    have hw':A3 E R (rows.set i ds).flatten (E4 ws (i*sz) v.cells):=by
     rw[←b3t hl hc.1 hc.2]
     exact a4f hw g1
    have hl':∀row∈rows.set i ds,row.length=sz:=fun row hr=>by
     rcases List.mem_or_eq_of_mem_set hr with hr|rfl
     ·exact hl row hr
     ·exact hc.1
    obtain⟨us,k1,k2,k3,k4,k5⟩:=c5A hp hl' hw' (a1k hs g2) h
    refine⟨us,k1,by rw[k2,List.length_set],k3,k4, ?_⟩
    simp only[a7I]
    rw[if_pos,k5]
    have hwl:=hw.length
    rw[C5 hl]at hwl
    rw[g1.length,hwl,hc.1]
    have:(i+1)*sz≤rows.length*sz:=Nat.mul_le_mul_right _ hc.2
    rw[Nat.succ_mul]at this
    exact⟨rfl,this⟩
   ·cases h
  ·cases h
theorem b4K{z:List AV}{zd:List D}(h:A3 E R zd z):∀n:Nat,A3 E R (List.replicate n zd).flatten (rep z n)
 |0=>G4
 |n+1=>by
  rw[List.replicate_succ,List.flatten_cons]
  exact h.append (b4K h n)
theorem b0f{z:List AV}(h:z.all w8=true):∀n:Nat,(rep z n).all w8=true
 |0=>rfl
 |n+1=>by
  show(z++rep z n).all w8=true
  rw[List.all_append,h,b0f h n];rfl
theorem b5I{t:TypeId}{cs:List D}(h:zeroCells P t=some cs):∃z,P5 P t=some z∧A3 E R cs z.cells∧z.cells.all w8=true:=by
 unfold zeroCells at h
 cases hz:P5 P t with
 |none=>rw[hz]at h;cases h
 |some z=>
  rw[hz]at h
  obtain⟨g1,g2⟩:=b1T (E:=E) (R:=R) (c3y (v:=z)) h
  exact⟨z,rfl,g1,g2⟩
theorem d1s{cs:List AV}{rows:List (List D)}{sz:Nat}{H':AHeap}{q:List Nat}{S':b7}(F:L8 H)(hC0:D5 E R S' H)(F':L8 H')(hC:D5 E R S' H')(hg:H'.get H.next=some (.cells cs true q))(hl:∀row∈rows,row.length=sz)(hr:A3 E R rows.flatten cs)(hs:cs.all w8=true):
  S' H.next=none∧D5 E R (S'.set H.next ⟨sz,rows,cs⟩) H':=
 ⟨(hC0.fresh F).2,hC.put (hC0.fresh F).1 (o:=⟨sz,rows,cs⟩) hg hs hl hr⟩
theorem c5V(F:L8 H)(hC:D5 E R S H){cs:List D}{vs:List AV}(hr:A3 E R cs vs)(hs:vs.all w8=true){K:D→b7→Prop}(h:o6 S cs K):Q9 E R K (.ptr (.new H.next) 0) (newCells H vs):=by
 obtain⟨a,b,c,d⟩:=F.newCells vs
 obtain⟨h1,h2⟩:=d1s (rows:=[cs]) (sz:=cs.length) F hC d (hC.stays b) a (fun row hr=>by rw[List.mem_singleton.1 hr]) (by rw[List.flatten_singleton];exact hr) hs
 exact⟨d,R,_,_,Fz.le_refl R,h2,by simp only[Rp],h H.next vs h1⟩
theorem b5R{cs:List AV}{rows:List (List D)}{sz len cap:Nat}{ex:Bool}{H':AHeap}{q:List Nat}{S':b7}(F:L8 H)(hC0:D5 E R S' H)(F':L8 H')(hC:D5 E R S' H')(hg:H'.get H.next=some (.cells cs true q))(hl:∀row∈rows,row.length=sz)(hr:A3 E R rows.flatten cs)(hs:cs.all w8=true)
  (hlen:len≤rows.length) (hcap:len≤cap) {K:D→b7→Prop} (h:c8m S' sz rows len cap ex K):Q9 E R K (.slc (.new H.next) 0 len cap ex sz) H':=by
 obtain⟨h1,h2⟩:=d1s F hC0 F' hC hg hl hr hs
 rcases h with h|h
 ·obtain⟨h3,h4⟩:=h2.freeze (b7.set_same S' H.next _)
  rw[b7.erase_set _ _ _ h1]at h3
  refine⟨F',_,S',_,h4,h3, ?_,h⟩
  have hle:((rows.take len)).length=len:=by rw[List.length_take];omega
  simp only[Rp]
  refine .inr ⟨.new H.next,0,cap,ex,sz,by rw[hle],rfl,by rw[hle];exact hcap,fun row hr=>hl row (List.mem_of_mem_take hr), .inr ⟨cs, ?_, ?_⟩⟩
  ·show(if H.next=H.next then some cs else R H.next)=some cs
   rw[if_pos rfl]
  ·rw[hle,List.drop_zero]
   refine⟨?_,O9 hs _⟩
   refine a2u.le h4 _ _ ?_
   rw[P4, ←a3J hl]
   exact hr.take _
 ·exact⟨F',R,_,_,Fz.le_refl R,h2,by simp only[Rp];rw[Nat.zero_mul],h H.next cs h1⟩
theorem d1F(F:L8 H)(hC:D5 E R S H){a x:D}{va vx:AV}(ha:Rp E R a va)(hx:Rp E R x vx){t:TypeId}{n:Nat}(hn:D7 P t=some n){K:D→b7→Prop}(h:f0 S n a x K):
  c4G P H t va vx fun v H'=>Q9 E R K v H':=by
 unfold f0 at h
 split at h
 ·rename_i ds hds
  obtain⟨g1,g2⟩:=b1T hx hds
  split at h
  ·rename_i hc
   obtain⟨hlen,h0⟩:=hc
   have hvl:=g1.length
   have fin:∀ {k j:Nat} {o:L7} {rows':List (List D)},S k=some o→j+n≤o.acs.length→(∀row∈rows',row.length=o.sz)→rows'.flatten=o8 o.rows.flatten j ds→(∀acs,K b8 (S.set k ⟨o.sz,rows',acs⟩))→
     a9 (E1 H (.new k) j vx.cells) fun H'=>Q9 E R K A0 H':=by
    intro k j o rows' hk hj hl' hfl hK
    obtain⟨h1,⟨pre,h2⟩,h3,h4,h5⟩:=hC.own k o hk
    obtain⟨H',e1,e2,e3,e4,F'⟩:=F.stores h2 (n:=j) (vs:=vx.cells) (fun e=>by rw[e]at hvl;simp at hvl;omega) (by omega) g2
    rw[e1]
    refine⟨F',R,_,b8,Fz.le_refl R, ?_,a2G,hK (E4 o.acs j vx.cells)⟩
    have hS:S.set k ⟨o.sz,rows',E4 o.acs j vx.cells⟩=(S.erase k).set k ⟨o.sz,rows',E4 o.acs j vx.cells⟩:=by
     funext i;simp only[b7.set,b7.erase];split<;>rfl
    rw[hS]
    refine(hC.but e3 h1).put h1 (pre:=[]) e2 (a1k h3 g2) hl' ?_
    show A3 E R rows'.flatten _
    rw[hfl]
    exact a4f h5 g1
   split at h
   ·rename_i k i
    simp only[Rp]at ha
    subst ha
    show(if D7 P t=some vx.cells.length then _ else False)
    rw[if_pos (by rw[hn,hvl,hlen])]
    split at h
    ·rename_i o hk
     split at h
     ·rename_i cs hcs
      split at h
      ·rename_i hi
       obtain⟨h1,⟨pre,h2⟩,h3,h4,h5⟩:=hC.own k o hk
       have hcl:cs.length=o.sz:=h4 cs (by rw[hcs];exact List.mem_singleton.2 rfl)
       have hal:=h5.length
       rw[hcs,List.flatten_singleton]at hal
       refine fin hk (by omega) (fun row hr=>by rw[List.mem_singleton.1 hr,a0s,hcl]) (by rw[hcs,List.flatten_singleton,List.flatten_singleton]) h
      ·exact h.elim
     ·exact h.elim
    ·exact h.elim
   ·rename_i k r i sz
    simp only[Rp]at ha
    subst ha
    show(if D7 P t=some vx.cells.length then _ else False)
    rw[if_pos (by rw[hn,hvl,hlen])]
    split at h
    ·rename_i o hk
     split at h
     ·rename_i hsz
      split at h
      ·rename_i row hrow
       split at h
       ·rename_i hi
        obtain⟨h1,⟨pre,h2⟩,h3,h4,h5⟩:=hC.own k o hk
        have hrl:=h4 row (List.mem_of_getElem? hrow)
        have hlt:=(List.getElem?_eq_some_iff.1 hrow).1
        have hal:=h5.length
        rw[C5 h4]at hal
        have hle:(r+1)*o.sz≤o.rows.length*o.sz:=Nat.mul_le_mul_right _ hlt
        rw[Nat.succ_mul]at hle
        rw[←hsz]
        rw[←hsz]at h
        refine fin hk (by omega) (fun row' hr=> ?_) ?_ h
        ·rcases List.mem_or_eq_of_mem_set hr with hr|rfl
         ·exact h4 row' hr
         ·rw[a0s,hrl]
        ·rw[←b3t h4 (by rw[a0s,hrl]) hlt]
         have hrow':=b2k h4 hrow
         refine List.ext_getElem? fun j=> ?_
         have hfl:=C5 h4
         have hat:∀m,m<o.sz→o.rows.flatten[r*o.sz+m]? =row[m]? :=by
          intro m hm
          have:=congrArg (fun l=>l[m]?) hrow'
          simp only[List.getElem?_take,if_pos hm,List.getElem?_drop]at this
          exact this
         rw[a2H,a2H,a2H,a0s,hrl]
         by_cases hin:r*o.sz≤j∧j<r*o.sz+o.sz∧j<o.rows.flatten.length
         ·rw[if_pos hin]
          by_cases hc:i≤j - r*o.sz∧j - r*o.sz<i+ds.length∧j - r*o.sz<o.sz
          ·rw[if_pos hc,if_pos (by omega)]
           congr 1;omega
          ·rw[if_neg hc,if_neg (by omega), ←hat _ (by omega)]
           congr 1;omega
         ·rw[if_neg hin,if_neg (by omega)]
       ·exact h.elim
      ·exact h.elim
     ·exact h.elim
    ·exact h.elim
   ·exact h.elim
  ·exact h.elim
 ·exact h.elim
end
end
section
section
variable{P:Program}{E:m6}{R:Fz}{S:b7}{H:AHeap}
theorem c4r{cs vs:List D}{i:Nat}(h:i+vs.length≤cs.length):o8 cs i vs=cs.take i++(vs++cs.drop (i+vs.length)):=by
 refine List.ext_getElem? fun j=> ?_
 rw[a2H,List.getElem?_append,List.getElem?_append,List.length_take,Nat.min_eq_left (by omega)]
 by_cases h1:j<i
 ·rw[if_neg (by omega),if_pos h1,List.getElem?_take,if_pos h1]
 ·rw[if_neg h1]
  by_cases h2:j - i<vs.length
  ·rw[if_pos ⟨by omega,by omega,by omega⟩,if_pos h2]
  ·rw[if_neg (by omega),if_neg h2,List.getElem?_drop]
   congr 1;omega
theorem c4l{o:Id}{i n m:Nat}{cs:List AV}(h:K4 E H o i n=some cs)(hm:m≤n):K4 E H o i m=some (cs.take m):=by
 unfold K4 at h ⊢
 split at h
 ·cases h
  rw[if_pos (by omega),List.take_nil]
 ·by_cases h0:m=0
  ·rw[if_pos h0,h0,List.take_zero]
  ·rw[if_neg h0]
   unfold F0 at h ⊢
   split at h
   ·split at h
    ·cases h
     rw[if_pos (by omega),List.take_take,Nat.min_eq_left hm]
    ·cases h
   ·cases h
theorem b5b(hC:D5 E R S H){sz:Nat}{x:D}{v:AV}(hx:Rp E R x v){rows:List (List D)}(h:rowsS S sz x=some rows):
  (∀row∈rows,row.length=sz)∧a3v v=some rows.length∧∃cs,A3 E R rows.flatten cs∧cs.all w8=true∧∀n,n≤rows.length→a0L E H sz n v=some (cs.take (n*sz)):=by
 have gen:∀ {rows},J5 S sz x=some rows→_:=fun h'=>c3w hC hx h'
 have low:∀ {rows:List (List D)},J5 S sz x=some rows→(∀row∈rows,row.length=sz)∧a3v v=some rows.length∧∃cs,A3 E R rows.flatten cs∧cs.all w8=true∧∀n,n≤rows.length→a0L E H sz n v=some (cs.take (n*sz)):=by
  intro rows h'
  obtain⟨g1,g2,cs,g3,g4,g5⟩:=gen h'
  refine⟨g1,g2,cs,g3,g4,fun n hn=> ?_⟩
  obtain⟨k1,k2⟩:=g5 H (hC.agr _)
  have hcl:=g3.length
  rw[C5 g1]at hcl
  cases v<;>simp only[a3v,Option.some.injEq]at g2<;>try (cases g2;done)
  ·
   rename_i s
   simp only[a0L,Option.some.injEq]at k1 ⊢
   have:cs.length=s.length:=by rw[←k1,List.length_map, ←g2,List.take_length]
   rw[←k1, ←List.map_take,List.take_take]
   have e:rows.length*sz=rows.length:=by rw[←hcl,this,g2]
   by_cases h0:rows.length=0
   ·have:n=0:=by omega
    subst this
    simp
   ·have:sz=1:=Nat.eq_of_mul_eq_mul_left (Nat.pos_of_ne_zero h0) (by rw[e,Nat.mul_one])
    subst this
    rw[Nat.mul_one,Nat.min_eq_left hn]
  ·
   simp only[a0L,Option.some.injEq]at k1 ⊢
   rw[←k1,List.take_nil]
  ·rename_i o i len cap ex z
   have:=k2 _ _ _ _ _ _ rfl
   rw[g2]at this
   exact c4l this (Nat.mul_le_mul_right _ hn)
 cases x<;>simp only[rowsS]at h<;>try (exact low h)
 rename_i s
 split at h
 ·rename_i hsz
  cases h
  subst hsz
  simp only[Rp]at hx
  subst hx
  clear gen low
  have hfl:(s.map fun b=>[D.int .u8 b.toNat]).flatten=s.map fun b=>D.int .u8 b.toNat:=by
   clear hC
   induction s with
   |nil=>rfl
   |cons a l ih=>rw[List.map_cons,List.flatten_cons,ih];rfl
  refine⟨fun row hr=> ?_,by rw[List.length_map];rfl,s.map fun b=> .int .u8 b.toNat, ?_, ?_,fun n hn=> ?_⟩
  ·obtain⟨b,_,rfl⟩:=List.mem_map.1 hr;rfl
  ·rw[hfl]
   refine a6j (by rw[List.length_map,List.length_map]) fun i d v h1 h2=> ?_
   rw[List.getElem?_map]at h1 h2
   cases hb:s[i]? with
   |none=>rw[hb]at h1;cases h1
   |some b=>rw[hb]at h1 h2;cases h1;cases h2;simp only[Rp]
  ·refine List.all_eq_true.2 fun v hv=> ?_
   obtain⟨b,_,rfl⟩:=List.mem_map.1 hv;rfl
  ·simp only[a0L,Nat.mul_one,List.map_take]
 ·cases h
theorem c9c(F:L8 H)(hC:D5 E R S H){sz bytes:Nat}{s:D}{v:AV}(hs:Rp E R s v){news:List (List D)}{cs:List AV}(hl:∀row∈news,row.length=sz)(hr:A3 E R news.flatten cs)(hsc:cs.all w8=true){K:D→b7→Prop}(h:a4P S sz bytes s news K):
  a4F (Z6 E H sz bytes v news.length cs) (Q9 E R K):=by
 have hcl:=hr.length
 rw[C5 hl]at hcl
 unfold a4P at h
 split at h
 ·have hs':=hs
  simp only[Rp]at hs
  subst hs
  split at h
  ·rename_i e
   subst e
   unfold Z6
   rw[if_pos hcl]
   simp only
   rw[if_pos (by rfl)]
   exact⟨F,R,S,_,Fz.le_refl R,hC,hs',h⟩
  ·rename_i e
   obtain⟨hb,h⟩:=h
   have h0:news.length≠0:=fun e'=>e (List.length_eq_zero_iff.1 e')
   unfold Z6
   rw[if_pos hcl]
   simp only
   rw[if_neg h0,if_pos hb]
   obtain⟨a,b,c,d⟩:=F.newCells cs
   exact b5R F hC d (hC.stays b) a hl hr hsc (Nat.le_refl _) (Nat.le_refl _) h
 ·rename_i k i len cap ex z
  have hs':=hs
  simp only[Rp]at hs
  subst hs
  split at h
  ·rename_i e
   subst e
   unfold Z6
   rw[if_pos hcl]
   simp only
   rw[if_pos (by rfl)]
   exact⟨F,R,S,_,Fz.le_refl R,hC,hs',h⟩
  ·rename_i e
   have h0:news.length≠0:=fun e'=>e (List.length_eq_zero_iff.1 e')
   split at h
   ·rename_i o hk
    split at h
    ·rename_i hz
     obtain⟨rfl,hsz,hlen⟩:=hz
     obtain⟨hb,h⟩:=h
     obtain⟨h1,⟨pre,h2⟩,h3,h4,h5⟩:=hC.own k o hk
     rw[hsz]at h4
     have hal:=h5.length
     rw[C5 h4]at hal
     have hle:i*z+len*z≤o.acs.length:=by rw[hal, ←Nat.add_mul];exact Nat.mul_le_mul_right _ hlen
     obtain⟨H',q,e1,e2,e3,e4,F'⟩:=F.growN (E:=E) h2 (n:=len) (cap:=cap) (sz:=z) (ex:=ex) hle cs hcl h0 hsc hb
     rw[e1]
     have hd:∀row∈o.rows.drop i,row.length=z:=fun row hr=>h4 row (List.mem_of_mem_drop hr)
     refine b5R F (hC.less (b7.erase_le S k)) F' (hC.but e4 h1) e3 (fun row hr=> ?_) ?_ ?_ ?_ (Nat.le_refl _) h
     ·rcases List.mem_append.1 hr with hr|hr
      ·exact hd row (List.mem_of_mem_take hr)
      ·exact hl row hr
     ·rw[List.flatten_append, ←a3J hd, ←a5k h4]
      exact((h5.drop _).take _).append hr
     ·rw[List.all_append,O9 (a1U h3 _) _,hsc];rfl
     ·rw[List.length_append,List.length_take,List.length_drop];omega
    ·exact h.elim
   ·exact h.elim
 ·rename_i rows z
  have hs':=hs
  simp only[Rp]at hs
  split at h
  ·rename_i e
   subst e
   unfold Z6
   rw[if_pos hcl]
   rcases hs with ⟨rfl,rfl⟩|⟨o,j,cap,ex,z',rfl,_⟩<;>simp only<;>rw[if_pos (by rfl)]<;>exact⟨F,R,S,_,Fz.le_refl R,hC,hs',h⟩
  ·exact h.elim
 ·rename_i rows more z
  have hs':=hs
  simp only[Rp]at hs
  split at h
  ·rename_i e
   subst e
   unfold Z6
   rw[if_pos hcl]
   obtain⟨o,j,cap,ex,z',all,rfl,_⟩:=hs
   simp only
   rw[if_pos (by rfl)]
   exact⟨F,R,S,_,Fz.le_refl R,hC,hs',h⟩
  ·exact h.elim
 ·exact h.elim
theorem c3r(F:L8 H)(hC:D5 E R S H){sT xT e:TypeId}{sz bytes:Nat}{z:List D}(he:a7a P sT=some e)(hsz:D7 P e=some sz)(hby:a9s P e=some bytes)(hz:zeroCells P e=some z)(hzl:z.length=sz)
  (hxT:(∃u,P.underlying xT=some (.slice u))∨P.underlying xT=some .string) {s x:D} {v w:AV} (hs:Rp E R s v) (hx:Rp E R x w) {K:D→b7→Prop} (h:y9 S sz bytes s x K):a4F (a1s P E H sT v xT w) (Q9 E R K):=by
 obtain⟨zv,hz1,hz2,_⟩:=b5I (E:=E) (R:=R) hz
 have hzl':zv.cells.length=sz:=by rw[hz2.length,hzl]
 unfold y9 at h
 split at h
 ·rename_i news hn
  obtain⟨g1,g2,cs,g3,g4,g5⟩:=b5b hC hx hn
  have hcl:=g3.length
  rw[C5 g1]at hcl
  have hf:=g5 news.length (Nat.le_refl _)
  rw[List.take_of_length_le (by omega)]at hf
  have hg:=c9c (bytes:=bytes) F hC hs g1 g3 g4 h
  unfold a1s
  simp only[he,hsz,hby,hz1,Option.bind_eq_bind,Option.bind_some]
  rw[if_pos hzl']
  rcases hxT with ⟨u,hu⟩|hu
  ·simp only[hu,g2,hf,Option.bind_some];exact hg
  ·simp only[hu,g2,hf,Option.bind_some];exact hg
 ·exact h.elim
theorem a5m{R:Fz}{S:b7}{H:AHeap}(hC:D5 E R S H){k:Nat}{o:L7}(hk:S k=some o){i len cap:Nat}{ex:Bool}{sz:Nat}{v:AV}(hv:Rp E R (.raw k i len cap ex sz) v)(hsz:o.sz=sz)(hl:i+len≤o.rows.length)(hc:len≤cap):
  Rp E (fun j=>if j=k then some o.acs else R j) (.lst ((o.rows.drop i).take len) sz) v:=by
 obtain⟨h1,⟨pre,h2⟩,h3,h4,h5⟩:=hC.own k o hk
 obtain⟨_,hle⟩:=hC.freeze hk
 simp only[Rp]at hv
 subst hv
 rw[hsz]at h4
 have hlen:((o.rows.drop i).take len).length=len:=by rw[List.length_take,List.length_drop];omega
 have hd:∀row∈o.rows.drop i,row.length=sz:=fun row hr=>h4 row (List.mem_of_mem_drop hr)
 simp only[Rp]
 refine .inr ⟨.new k,i*sz,cap,ex,sz,by rw[hlen],rfl,by rw[hlen];exact hc,fun row hr=>hd row (List.mem_of_mem_take hr), .inr ⟨o.acs, ?_, ?_,O9 (a1U h3 _) _⟩⟩
 ·show(if k=k then some o.acs else R k)=some o.acs
  rw[if_pos rfl]
 ·rw[hlen,P4, ←a3J hd, ←a5k h4]
  exact A3.le hle _ _ ((h5.drop _).take _)
theorem c7q(F:L8 H)(hC:D5 E R S H){sT xT e:TypeId}{sz bytes:Nat}{z:List D}{ik:IntKind}(he:a7a P sT=some e)(hsz:D7 P e=some sz)(hby:a9s P e=some bytes)(hz:zeroCells P e=some z)(hzl:z.length=sz)
  (hxT:P.underlying xT=some (.int ik)) {s x:D} {v w:AV} (hs:Rp E R s v) (hx:Rp E R x w) {K:D→b7→Prop} (h:b1M S sz bytes z s x K):a4F (a1s P E H sT v xT w) (Q9 E R K):=by
 obtain⟨zv,hz1,hz2,hz3⟩:=b5I (E:=E) (R:=R) hz
 have hzl':zv.cells.length=sz:=by rw[hz2.length,hzl]
 unfold b1M at h
 split at h
 ·rename_i k l
  split at h
  ·rename_i hc
   simp only[Rp]at hx
   subst hx
   have hg:=c9c (bytes:=bytes) (news:=List.replicate l.toNat z) (cs:=rep zv.cells l.toNat) F hC hs (fun row hr=>by rw[List.eq_of_mem_replicate hr];exact hzl) (b4K hz2 _) (b0f hz3 _) h
   rw[List.length_replicate]at hg
   unfold a1s
   simp only[he,hsz,hby,hz1,Option.bind_eq_bind,Option.bind_some,hxT,a0I]
   rw[if_pos hzl',if_pos hc]
   exact hg
  ·exact h.elim
 ·exact h.elim
theorem d3f(F:L8 H)(hC:D5 E R S H){dT e:TypeId}{sz:Nat}(he:a7a P dT=some e)(hsz:D7 P e=some sz){d x:D}{v w:AV}(hd:Rp E R d v)(hx:Rp E R x w){K:D→b7→Prop}(h:d0Q S sz d x K):a4F (b1u P E H dT v w) (Q9 E R K):=by
 unfold d0Q at h
 unfold b1u
 simp only[he,hsz,Option.bind_eq_bind,Option.bind_some]
 split at h
 ·simp only[Rp]at hd
  subst hd
  split at h
  ·rename_i rows hr
   obtain⟨g1,g2,_⟩:=b5b hC hx hr
   simp only[g2,Option.bind_some]
   exact⟨F,R,S, .int .i64 0,Fz.le_refl R,hC,by simp only[Rp],h⟩
  ·exact h.elim
 ·rename_i k i len cap ex z
  simp only[Rp]at hd
  subst hd
  split at h
  ·rename_i rows o hr hk
   split at h
   ·rename_i hc
    obtain⟨rfl,hoz,hlen,hz0⟩:=hc
    obtain⟨g1,g2,cs,g3,g4,g5⟩:=b5b hC hx hr
    simp only[g2,Option.bind_some,g5 _ (Nat.min_le_left _ _)]
    obtain⟨h1,⟨pre,h2⟩,h3,h4,h5⟩:=hC.own k o hk
    rw[hoz]at h4
    have hal:=h5.length
    rw[C5 h4]at hal
    generalize hn:min rows.length len=n at*
    have hnl:n≤len:=by omega
    have hnr:n≤rows.length:=by omega
    have hcl:=g3.length
    rw[C5 g1]at hcl
    have hnews:A3 E R (rows.take n).flatten (cs.take (n*z)):=by rw[←a3J g1];exact g3.take _
    have hnewl:(cs.take (n*z)).length=n*z:=by rw[List.length_take,hcl];exact Nat.min_eq_left (Nat.mul_le_mul_right _ hnr)
    have hle:i*z+n*z≤o.acs.length:=by rw[hal, ←Nat.add_mul];exact Nat.mul_le_mul_right _ (by omega)
    have htl:∀row∈rows.take n,row.length=z:=fun row hr=>g1 row (List.mem_of_mem_take hr)
    have htn:(rows.take n).length=n:=by rw[List.length_take];omega
    have hflat:(o.rows.take i++(rows.take n++o.rows.drop (i+n))).flatten=o8 o.rows.flatten (i*z) (rows.take n).flatten:=by
     rw[c4r (by rw[C5 htl,htn, ←Nat.add_mul,C5 h4];exact Nat.mul_le_mul_right _ (by omega)),C5 htl,htn, ←Nat.add_mul,a3J h4,a5k h4,List.flatten_append,List.flatten_append]
    have hrl:∀row∈o.rows.take i++(rows.take n++o.rows.drop (i+n)),row.length=z:=fun row hr=>by
     rcases List.mem_append.1 hr with hr|hr
     ·exact h4 row (List.mem_of_mem_take hr)
     ·rcases List.mem_append.1 hr with hr|hr
      ·exact htl row hr
      ·exact h4 row (List.mem_of_mem_drop hr)
    by_cases h0:n=0
    ·subst h0
     have e0:cs.take (0*z)=[]:=by rw[Nat.zero_mul,List.take_zero]
     rw[e0]
     refine⟨F,R,_, .int .i64 (0:Nat),Fz.le_refl R, ?_,by simp only[Rp],h o.acs⟩
     refine hC.put h1 h2 h3 hrl ?_
     show A3 E R (o.rows.take i++(rows.take 0++o.rows.drop (i+0))).flatten _
     rw[List.take_zero,List.nil_append,Nat.add_zero,List.take_append_drop]
     exact h5
    ·have hne:cs.take (n*z)≠[]:=fun e=>by
      rw[e]at hnewl
      simp only[List.length_nil]at hnewl
      have:=Nat.mul_pos (Nat.pos_of_ne_zero h0) hz0
      omega
     obtain⟨H',e1,e2,e3,e4,F'⟩:=F.stores h2 (n:=i*z) hne (by rw[hnewl];exact hle) (O9 g4 _)
     rw[e1]
     refine⟨F',R,_, .int .i64 (n:Nat),Fz.le_refl R, ?_,by simp only[Rp],h (E4 o.acs (i*z) (cs.take (n*z)))⟩
     have hS:S.set k ⟨z,o.rows.take i++(rows.take n++o.rows.drop (i+n)),E4 o.acs (i*z) (cs.take (n*z))⟩=(S.erase k).set k ⟨z,o.rows.take i++(rows.take n++o.rows.drop (i+n)),E4 o.acs (i*z) (cs.take (n*z))⟩:=by
      funext j;simp only[b7.set,b7.erase];split<;>rfl
     rw[hS]
     refine(hC.but e3 h1).put h1 (pre:=[]) e2 (a1k h3 (O9 g4 _)) hrl ?_
     show A3 E R (o.rows.take i++(rows.take n++o.rows.drop (i+n))).flatten _
     rw[hflat]
     exact a4f h5 hnews
   ·exact h.elim
  ·exact h.elim
 ·exact h.elim
theorem d2Q(F:L8 H)(hC:D5 E R S H){t e:TypeId}{sz bytes:Nat}{z:List D}(he:a7a P t=some e)(hsz:D7 P e=some sz)(hby:a9s P e=some bytes)(hz:zeroCells P e=some z)(hzl:z.length=sz){l c:D}{vl vc:AV}(hl:Rp E R l vl)(hc:Rp E R c vc){K:D→b7→Prop}(h:b3n S sz bytes z l c K):
  a4F (O6 P H t vl vc) (Q9 E R K):=by
 obtain⟨zv,hz1,hz2,hz3⟩:=b5I (E:=E) (R:=R) hz
 have hzl':zv.cells.length=sz:=by rw[hz2.length,hzl]
 unfold b3n at h
 split at h
 ·rename_i k1 nl k2 nc
  simp only[Rp]at hl hc
  subst hl hc
  split at h
  ·rename_i hb
   obtain⟨h0,h1,h2,h3⟩:=hb
   unfold O6
   simp only[he,hsz,hby,hz1,a0I,Option.bind_eq_bind,Option.bind_some]
   rw[if_pos ⟨m7 (by omega) (by omega),m7 (by omega) (by omega),h0,h1,h2,hzl'⟩]
   obtain⟨a,b,c',d⟩:=F.newCells (rep zv.cells nc.toNat)
   exact b5R F hC d (hC.stays b) a (fun row hr=>by rw[List.eq_of_mem_replicate hr,hzl]) (b4K hz2 _) (b0f hz3 _) (by rw[List.length_replicate];omega) (by omega) h
  ·exact h.elim
 ·exact h.elim
theorem d1r(F:L8 H)(hC:D5 E R S H){s t e:TypeId}(hs:P.underlying s=some .string)(ht:P.underlying t=some (.slice e))(he:P.underlying e=some (.int .u8)){x:D}{v:AV}(hx:Rp E R x v){K:D→b7→Prop}(h:b9x S x K):
  a4F (P3 P E H s t v) (Q9 E R K):=by
 cases x<;>simp only[b9x]at h<;>try (exact h.elim)
 rename_i u
 split at h
 ·rename_i hl
  have hx':=hx
  simp only[Rp]at hx'
  subst hx'
  have hr:rowsS S 1 (.str u)=some (u.map fun b=>[.int .u8 b.toNat]):=rfl
  obtain⟨g1,g2,cs,g3,g4,g5⟩:=b5b hC hx hr
  have hf:=g5 _ (Nat.le_refl _)
  have hcl:=g3.length
  rw[C5 g1]at hcl
  rw[List.take_of_length_le (by omega)]at hf
  simp only[a0L,List.length_map,List.take_length,Option.some.injEq]at hf
  simp only[P3,hs,ht,he]
  rw[if_pos hl,hf]
  obtain⟨a,b,c,d⟩:=F.newCells cs
  refine b5R F hC d (hC.stays b) a g1 g3 g4 ?_ (Nat.le_refl _) h
  rw[List.length_map];exact Nat.le_refl _
 ·exact h.elim
def d1n(F:FW):Prop:=∀f args H (Q Q':AV→AHeap→Prop),F f args H Q→(∀v H',Q v H'→Q' v H')→F f args H Q'
theorem c9v{F:FW}{G:DW}(hG:GoF E F G R S H){f:FuncId}{ds:List D}{avs:List AV}(hF:L8 H)(hC:D5 E R S H)(ha:A3 E R ds avs){K:D→b7→Prop}(h:G f ds S K):F f avs H (Q9 E R K):=hG _ _ _ _ ha h
theorem c1q{F:FW}{G:DW}(hG:GoF E F G R S H){f:FuncId}{ds:List D}{avs:List AV}(hF:L8 H)(hC:D5 E R S H)(ha:A3 E R ds avs){K:D→b7→Prop}(h:b1g P G S f ds K):b3T F (W9 P H f avs) (Q9 E R K):=by
 unfold b1g at h
 split at h
 ·rename_i hb
  unfold W9
  rw[if_pos hb]
  exact c9v hG hF hC ha h
 ·exact h.elim
theorem c0u{F:FW}{G:DW}(hG:GoF E F G R S H){f:D}{vf:AV}{ds:List D}{avs:List AV}(hF:L8 H)(hC:D5 E R S H)(hf:Rp E R f vf)(ha:A3 E R ds avs){K:D→b7→Prop}(h:a2f P G S f ds K):b3T F (b6Z P E H vf avs) (Q9 E R K):=by
 unfold a2f at h
 split at h
 ·rename_i g a b
  simp only[Rp]at hf
  obtain⟨a',b',rfl,h1,h2⟩:=hf
  exact c1q hG hF hC ((h1.append ha).append h2) h
 ·rename_i t path g pointer a b
  simp only[Rp]at hf
  obtain⟨a',b',rfl,h1,h2⟩:=hf
  have h12:=h1.append ha
  unfold b6Z
  split at h
  ·rename_i x rest u hp hx hu
   rw[hx]at h12
   simp only[A3]at h2 h12
   subst h2
   obtain⟨v,vs,e,k1,k2⟩:=h12
   simp only[hp,e,hu]
   split at h
   ·rename_i hpt
    simp only[hpt]
    exact c1q hG hF hC (A2 k1 k2) h
   ·exact h.elim
  ·exact h.elim
 ·exact h.elim
theorem d0k{F:FW}{G:DW}(hG:GoF E F G R S H){r:D}{vr:AV}{name:String}{ds:List D}{avs:List AV}(hF:L8 H)(hC:D5 E R S H)(hr:Rp E R r vr)(ha:A3 E R ds avs){K:D→b7→Prop}(h:c3W P G S r name ds K):b3T F (c8Z P E H vr name avs) (Q9 E R K):=by
 unfold c3W at h
 split at h
 ·rename_i t d
  simp only[Rp]at hr
  obtain⟨v,rfl,hv⟩:=hr
  split at h
  ·rename_i f hm
   have hmA:a1v P E H t v name=some (f,v):=by
    unfold c9t at hm
    unfold a1v
    cases hi:P.info? t with
    |none=>rw[hi]at hm;cases hm
    |some info=>
     rw[hi]at hm
     simp only at hm
     cases hf:info.methods.find? (·.name==name) with
     |none=>rw[hf]at hm;cases hm
     |some m=>
      simp only[hf]at hm
      simp only[Option.bind_eq_bind,Option.bind_some,hf]
      split at hm
      ·rename_i h1 h2 h3
       cases hm
       simp only[h1,a0h,Option.bind_some,h2,h3,a1a.get,Option.map_some]
      ·rename_i h1 h2 h3
       cases hm
       simp only[h1,a0h,Option.bind_some,h2,h3,a1a.get,Option.map_some]
      ·rename_i h1 h2 h3
       cases hm
       simp only[h1,a0h,Option.bind_some,h2,h3,a1a.get,Option.map_some]
      ·rename_i h1 h2 h3
       cases hm
       simp only[h1,a0h,Option.bind_some,h2,h3,a1a.get,Option.map_some]
      ·rename_i h1 h2 h3
       cases hm
       simp only[h1,a0h,Option.bind_some,h2,h3,a1a.get,Option.map_some]
      ·cases hm
   show b3T F ((a1v P E H t v name).bind fun(g,r)=>W9 P H g (r::avs)) _
   rw[hmA]
   exact c1q hG hF hC (A2 hv ha) h
  ·exact h.elim
 ·exact h.elim
theorem d2x{F:FW}{G:DW}(hG:GoF E F G R S H)(hF:L8 H)(hC:D5 E R S H){T:List D}{avs:List AV}(hT:A3 E R T avs){o:Oper}{K:D→b7→Prop}(h:d4y P G T S o K):opW P E F avs H o (Q9 E R K):=by
 obtain⟨dst,op,type,pos,after,guard⟩:=o
 cases op<;>simp only[d4y]at h<;>try (exact h.elim)
 case alloc e=>
  simp only[opW]
  split at h
  ·rename_i cs hcs
   obtain⟨z,hz1,hz2,hz3⟩:=b5I (E:=E) (R:=R) hcs
   rw[hz1]
   exact c5V hF hC hz2 hz3 h
  ·exact h.elim
 case box t x=>
  simp only[opW]
  unfold a9 at h
  split at h
  ·rename_i cs hcs
   obtain⟨g1,g2⟩:=b1T (A1 hT x) hcs
   exact c5V hF hC g1 g2 h
  ·exact h.elim
 case buildSlice t len parts=>
  simp only[opW]
  split at h
  ·rename_i e he
   split at h
   ·rename_i sz z hsz hz
    split at h
    ·rename_i hc
     obtain⟨zv,hz1,hz2,hz3⟩:=b5I (E:=E) (R:=R) hz
     have hzl':zv.cells.length=sz:=by rw[hz2.length,hc.1]
     unfold u6 a9 at h
     split at h
     ·rename_i rs hrs
      obtain⟨us,k1,k2,k3,k4,k5⟩:=c5A (b9Z hT parts.toList) (fun row hr=>by rw[List.eq_of_mem_replicate hr,hc.1]) (b4K hz2 len) (b0f hz3 len) hrs
      unfold O1
      simp only[he,hsz,Option.bind_eq_bind,Option.bind_some]
      rw[if_pos hc.2,hz1,Option.bind_some,if_pos hzl',k5,Option.bind_some]
      obtain⟨a,b,c',d⟩:=hF.newCells us
      rw[List.length_replicate]at k2
      exact b5R hF hC d (hC.stays b) a k1 k3 k4 (by omega) (Nat.le_refl _) h
     ·exact h.elim
    ·exact h.elim
   ·exact h.elim
  ·exact h.elim
 case store t a x=>
  simp only[opW]
  split at h
  ·rename_i n hn
   exact d1F hF hC (A1 hT a) (A1 hT x) hn h
  ·exact h.elim
 case convert s t x=>
  simp only[opW]
  split at h
  ·rename_i e hu1 hu2
   split at h
   ·rename_i hue
    exact d1r hF hC hu1 hu2 hue (A1 hT x) h
   ·exact h.elim
  ·rename_i e0 e hu1 hu2
   split at h
   ·rename_i hue
    split at h
    ·rename_i hst
     have hx:=A1 hT x
     unfold c3k at h
     split at h
     ·rename_i k i len cap ex sz hd
      rw[hd]at hx
      split at h
      ·rename_i ob hk
       split at h
       ·rename_i hl
        simp only[Rp]at hx
        obtain⟨g1,⟨pre,g2⟩,_⟩:=hC.own k ob hk
        rw[hx]
        unfold P3
        simp only[hu1,hu2,hue]
        rw[if_pos ⟨hst,hl,by simp only[cellsOf,g2];rfl⟩]
        rcases h with h|⟨⟨q1,q2,q3⟩,h⟩
        ·exact⟨hF,R,S,_,Fz.le_refl R,hC,by simp only[Rp],h⟩
        ·obtain⟨r1,r2⟩:=hC.freeze hk
         exact⟨hF,_,_,_,r2,r1,a5m (cap:=cap) (ex:=ex) hC hk (by simp only[Rp]) q1 q2 q3,h⟩
       ·exact h.elim
      ·exact h.elim
     ·exact h.elim
    ·exact h.elim
   ·exact h.elim
  ·exact h.elim
 case makeSlice t l c=>
  simp only[opW]
  split at h
  ·rename_i e he
   split at h
   ·rename_i sz bytes z hsz hby hz
    split at h
    ·rename_i hzl
     exact d2Q hF hC he hsz hby hz hzl (A1 hT l) (A1 hT c) h
    ·exact h.elim
   ·exact h.elim
  ·exact h.elim
 case call c=>
  simp only[opW]
  cases hc:c.callee with
  |value f=>
   simp only[hc]at h
   have ha:=a4m hT c.args.toList
   cases f with
   |func g=>
    simp only at h ⊢
    split at h
    ·rename_i hb
     rw[if_pos hb]
     exact c9v hG hF hC ha h
    ·exact h.elim
   |tmp t=>exact c0u hG hF hC (A1 hT _) ha h
   |const v=>exact c0u hG hF hC (A1 hT _) ha h
   |global g=>exact c0u hG hF hC (A1 hT _) ha h
  |invoke r m=>
   simp only[hc]at h ⊢
   exact d0k hG hF hC (A1 hT r) (a4m hT c.args.toList) h
  |builtin b=>
   simp only[hc]at h ⊢
   have ha:=a4m hT c.args.toList
   generalize c.args.toList.map (B0 T)=ds at h ha
   generalize c.args.toList.map (o0 avs)=vs at ha
   generalize c.argTypes.toList=ts at h
   cases b<;>(try simp only at h)<;>try (exact h.elim)
   case append=>
    rcases ds with _|⟨x,_|⟨y,_|⟨w,ds⟩⟩⟩<;>(try simp only at h)<;>try (exact h.elim)
    rcases ts with _|⟨t,_|⟨u,_|⟨u',ts⟩⟩⟩<;>(try simp only at h)<;>try (exact h.elim)
    simp only[A3]at ha
    obtain⟨v,_,rfl,h1,v2,_,rfl,h2,rfl⟩:=ha
    split at h
    ·rename_i e he
     split at h
     ·rename_i sz bytes z u' hsz hby hz hu
      split at h
      ·rename_i hzl;exact c3r hF hC he hsz hby hz hzl (.inl ⟨_,hu⟩) h1 h2 h
      ·exact h.elim
     ·rename_i sz bytes z hsz hby hz hu
      split at h
      ·rename_i hzl;exact c3r hF hC he hsz hby hz hzl (.inr hu) h1 h2 h
      ·exact h.elim
     ·rename_i sz bytes z ik hsz hby hz hu
      split at h
      ·rename_i hzl;exact c7q hF hC he hsz hby hz hzl hu h1 h2 h
      ·exact h.elim
     ·exact h.elim
    ·exact h.elim
   case copy=>
    rcases ds with _|⟨x,_|⟨y,_|⟨w,ds⟩⟩⟩<;>(try simp only at h)<;>try (exact h.elim)
    rcases ts with _|⟨t,ts⟩<;>(try simp only at h)<;>try (exact h.elim)
    simp only[A3]at ha
    obtain⟨v,_,rfl,h1,v2,_,rfl,h2,rfl⟩:=ha
    split at h
    ·rename_i e he
     split at h
     ·rename_i sz hsz
      exact d3f hF hC he hsz h1 h2 h
     ·exact h.elim
    ·exact h.elim
end
end
end Go.Am
end
