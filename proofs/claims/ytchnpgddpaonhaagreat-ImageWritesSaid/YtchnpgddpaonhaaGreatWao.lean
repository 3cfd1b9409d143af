/- A part of the proof of ImageWrites. -/
import Derived.Test.YtchnpgddpaonhaaGreatWan
import Derived.Test.YtchnpgddpaonhaaGreatWal
set_option linter.unusedVariables false
set_option linter.unusedSimpArgs false
set_option maxRecDepth 100000
section
namespace Go.Am
section
section
variable{P:Program}{E:j6}{R:Fz}{S:b9}{H:AHeap}
theorem d2S{cs vs:List D}{i:Nat}(h:i+vs.length≤cs.length):o0 cs i vs=cs.take i++(vs++cs.drop (i+vs.length)):=by
 refine List.ext_getElem? fun j=> ?_
 rw[a4u,List.getElem?_append,List.getElem?_append,List.length_take,Nat.min_eq_left (by omega)]
 by_cases h1:j<i
 ·rw[if_neg (by omega),if_pos h1,List.getElem?_take,if_pos h1]
 ·rw[if_neg h1]
  by_cases h2:j - i<vs.length
  ·rw[if_pos ⟨by omega,by omega,by omega⟩,if_pos h2]
  ·rw[if_neg (by omega),if_neg h2,List.getElem?_drop]
   congr 1;omega
theorem d2D{o:Id}{i n m:Nat}{cs:List AV}(h:M9 E H o i n=some cs)(hm:m≤n):M9 E H o i m=some (cs.take m):=by
 unfold M9 at h ⊢
 split at h
 ·cases h
  rw[if_pos (by omega),List.take_nil]
 ·by_cases h0:m=0
  ·rw[if_pos h0,h0,List.take_zero]
  ·rw[if_neg h0]
   unfold G9 at h ⊢
   split at h
   ·split at h
    ·cases h
     rw[if_pos (by omega),List.take_take,Nat.min_eq_left hm]
    ·cases h
   ·cases h
theorem c1i(hC:G4 E R S H){sz:Nat}{x:D}{v:AV}(hx:Rp E R x v){rows:List (List D)}(h:rowsS S sz x=some rows):
  (∀row∈rows,row.length=sz)∧a5b v=some rows.length∧∃cs,C8 E R rows.flatten cs∧cs.all w7=true∧∀n,n≤rows.length→a0Y E H sz n v=some (cs.take (n*sz)):=by
 have gen:∀ {rows},L2 S sz x=some rows→_:=fun h'=>d0S hC hx h'
 have low:∀ {rows:List (List D)},L2 S sz x=some rows→(∀row∈rows,row.length=sz)∧a5b v=some rows.length∧∃cs,C8 E R rows.flatten cs∧cs.all w7=true∧∀n,n≤rows.length→a0Y E H sz n v=some (cs.take (n*sz)):=by
  intro rows h'
  obtain⟨g1,g2,cs,g3,g4,g5⟩:=gen h'
  refine⟨g1,g2,cs,g3,g4,fun n hn=> ?_⟩
  obtain⟨k1,k2⟩:=g5 H (hC.agr _)
  have hcl:=g3.length
  rw[D6 g1]at hcl
  cases v<;>simp only[a5b,Option.some.injEq]at g2<;>try (cases g2;done)
  ·
   rename_i s
   simp only[a0Y,Option.some.injEq]at k1 ⊢
   have:cs.length=s.length:=by rw[←k1,List.length_map, ←g2,List.take_length]
   rw[←k1, ←List.map_take,List.take_take]
   have e:rows.length*sz=rows.length:=by rw[←hcl,this,g2]
   by_cases h0:rows.length=0
   ·have:n=0:=by omega
    subst this
    simp
   ·have:sz=1:=Nat.eq_of_mul_eq_mul_left (Nat.pos_of_ne_zero h0) (by rw[e,Nat.mul_one])
    subst this
    rw[Nat.mul_one,Nat.min_eq_left hn]
  ·
   simp only[a0Y,Option.some.injEq]at k1 ⊢
   rw[←k1,List.take_nil]
  ·rename_i o i len cap ex z
   have:=k2 _ _ _ _ _ _ rfl
   rw[g2]at this
   exact d2D this (Nat.mul_le_mul_right _ hn)
 cases x<;>simp only[rowsS]at h<;>try (exact low h)
 rename_i s
 split at h
 ·rename_i hsz
  cases h
  subst hsz
  simp only[Rp]at hx
  subst hx
  clear gen low
  have hfl:(s.map fun b=>[D.int .u8 b.toNat]).flatten=s.map fun b=>D.int .u8 b.toNat:=by
   clear hC
   induction s with
   |nil=>rfl
   |cons a l ih=>rw[List.map_cons,List.flatten_cons,ih];rfl
  refine⟨fun row hr=> ?_,by rw[List.length_map];rfl,s.map fun b=> .int .u8 b.toNat, ?_, ?_,fun n hn=> ?_⟩
  ·obtain⟨b,_,rfl⟩:=List.mem_map.1 hr;rfl
  ·rw[hfl]
   refine a7Y (by rw[List.length_map,List.length_map]) fun i d v h1 h2=> ?_
   rw[List.getElem?_map]at h1 h2
   cases hb:s[i]? with
   |none=>rw[hb]at h1;cases h1
   |some b=>rw[hb]at h1 h2;cases h1;cases h2;simp only[Rp]
  ·refine List.all_eq_true.2 fun v hv=> ?_
   obtain⟨b,_,rfl⟩:=List.mem_map.1 hv;rfl
  ·simp only[a0Y,Nat.mul_one,List.map_take]
 ·cases h
theorem d6E(F:P8 H)(hC:G4 E R S H){sz bytes:Nat}{s:D}{v:AV}(hs:Rp E R s v){news:List (List D)}{cs:List AV}(hl:∀row∈news,row.length=sz)(hr:C8 E R news.flatten cs)(hsc:cs.all w7=true){K:D→b9→Prop}(h:a7T S sz bytes s news K):
  a6Q (Z2 E H sz bytes v news.length cs) (a4t E R K):=by
 have hcl:=hr.length
 rw[D6 hl]at hcl
 unfold a7T at h
 split at h
 ·have hs':=hs
  simp only[Rp]at hs
  subst hs
  split at h
  ·rename_i e
   subst e
   unfold Z2
   rw[if_pos hcl]
   simp only
   rw[if_pos (by rfl)]
   exact⟨F,R,S,_,Fz.le_refl R,hC,hs',h⟩
  ·rename_i e
   obtain⟨hb,h⟩:=h
   have h0:news.length≠0:=fun e'=>e (List.length_eq_zero_iff.1 e')
   unfold Z2
   rw[if_pos hcl]
   simp only
   rw[if_neg h0,if_pos hb]
   obtain⟨a,b,c,d⟩:=F.newCells cs
   exact c2w F hC d (hC.stays b) a hl hr hsc (Nat.le_refl _) (Nat.le_refl _) h
 ·rename_i k i len cap ex z
  have hs':=hs
  simp only[Rp]at hs
  subst hs
  split at h
  ·rename_i e
   subst e
   unfold Z2
   rw[if_pos hcl]
   simp only
   rw[if_pos (by rfl)]
   exact⟨F,R,S,_,Fz.le_refl R,hC,hs',h⟩
  ·rename_i e
   have h0:news.length≠0:=fun e'=>e (List.length_eq_zero_iff.1 e')
   split at h
   ·rename_i o hk
    split at h
    ·rename_i hz
     obtain⟨rfl,hsz,hlen⟩:=hz
     obtain⟨hb,h⟩:=h
     obtain⟨h1,⟨pre,h2⟩,h3,h4,h5⟩:=hC.own k o hk
     rw[hsz]at h4
     have hal:=h5.length
     rw[D6 h4]at hal
     have hle:i*z+len*z≤o.acs.length:=by rw[hal, ←Nat.add_mul];exact Nat.mul_le_mul_right _ hlen
     obtain⟨H',q,e1,e2,e3,e4,F'⟩:=F.growN (E:=E) h2 (n:=len) (cap:=cap) (sz:=z) (ex:=ex) hle cs hcl h0 hsc hb
     rw[e1]
     have hd:∀row∈o.rows.drop i,row.length=z:=fun row hr=>h4 row (List.mem_of_mem_drop hr)
     refine c2w F (hC.less (b9.erase_le S k)) F' (hC.but e4 h1) e3 (fun row hr=> ?_) ?_ ?_ ?_ (Nat.le_refl _) h
     ·rcases List.mem_append.1 hr with hr|hr
      ·exact hd row (List.mem_of_mem_take hr)
      ·exact hl row hr
     ·rw[List.flatten_append, ←a5d hd, ←a7D h4]
      exact((h5.drop _).take _).append hr
     ·rw[List.all_append,V4 (W4 h3 _) _,hsc];rfl
     ·rw[List.length_append,List.length_take,List.length_drop];omega
    ·exact h.elim
   ·exact h.elim
 ·rename_i rows z
  have hs':=hs
  simp only[Rp]at hs
  split at h
  ·rename_i e
   subst e
   unfold Z2
   rw[if_pos hcl]
   rcases hs with ⟨rfl,rfl⟩|⟨o,j,cap,ex,z',rfl,_⟩<;>simp only<;>rw[if_pos (by rfl)]<;>exact⟨F,R,S,_,Fz.le_refl R,hC,hs',h⟩
  ·exact h.elim
 ·rename_i rows more z
  have hs':=hs
  simp only[Rp]at hs
  split at h
  ·rename_i e
   subst e
   unfold Z2
   rw[if_pos hcl]
   obtain⟨o,j,cap,ex,z',all,rfl,_⟩:=hs
   simp only
   rw[if_pos (by rfl)]
   exact⟨F,R,S,_,Fz.le_refl R,hC,hs',h⟩
  ·exact h.elim
 ·exact h.elim
theorem d0R(F:P8 H)(hC:G4 E R S H){sT xT e:TypeId}{sz bytes:Nat}{z:List D}(he:b0G P sT=some e)(hsz:E2 P e=some sz)(hby:b2M P e=some bytes)(hz:zeroCells P e=some z)(hzl:z.length=sz)
  (hxT:(∃u,P.underlying xT=some (.slice u))∨P.underlying xT=some .string) {s x:D} {v w:AV} (hs:Rp E R s v) (hx:Rp E R x w) {K:D→b9→Prop} (h:r6 S sz bytes s x K):a6Q (a1T P E H sT v xT w) (a4t E R K):=by
 obtain⟨zv,hz1,hz2,_⟩:=c2E (E:=E) (R:=R) hz
 have hzl':zv.cells.length=sz:=by rw[hz2.length,hzl]
 unfold r6 at h
 split at h
 ·rename_i news hn
  obtain⟨g1,g2,cs,g3,g4,g5⟩:=c1i hC hx hn
  have hcl:=g3.length
  rw[D6 g1]at hcl
  have hf:=g5 news.length (Nat.le_refl _)
  rw[List.take_of_length_le (by omega)]at hf
  have hg:=d6E (bytes:=bytes) F hC hs g1 g3 g4 h
  unfold a1T
  simp only[he,hsz,hby,hz1,Option.bind_eq_bind,Option.bind_some]
  rw[if_pos hzl']
  rcases hxT with ⟨u,hu⟩|hu
  ·simp only[hu,g2,hf,Option.bind_some];exact hg
  ·simp only[hu,g2,hf,Option.bind_some];exact hg
 ·exact h.elim
theorem b7l{R:Fz}{S:b9}{H:AHeap}(hC:G4 E R S H){k:Nat}{o:K8}(hk:S k=some o){i len cap:Nat}{ex:Bool}{sz:Nat}{v:AV}(hv:Rp E R (.raw k i len cap ex sz) v)(hsz:o.sz=sz)(hl:i+len≤o.rows.length)(hc:len≤cap):
  Rp E (fun j=>if j=k then some o.acs else R j) (.lst ((o.rows.drop i).take len) sz) v:=by
 obtain⟨h1,⟨pre,h2⟩,h3,h4,h5⟩:=hC.own k o hk
 obtain⟨_,hle⟩:=hC.freeze hk
 simp only[Rp]at hv
 subst hv
 rw[hsz]at h4
 have hlen:((o.rows.drop i).take len).length=len:=by rw[List.length_take,List.length_drop];omega
 have hd:∀row∈o.rows.drop i,row.length=sz:=fun row hr=>h4 row (List.mem_of_mem_drop hr)
 simp only[Rp]
 refine .inr ⟨.new k,i*sz,cap,ex,sz,by rw[hlen],rfl,by rw[hlen];exact hc,fun row hr=>hd row (List.mem_of_mem_take hr), .inr ⟨o.acs, ?_, ?_,V4 (W4 h3 _) _⟩⟩
 ·show(if k=k then some o.acs else R k)=some o.acs
  rw[if_pos rfl]
 ·rw[hlen,U9, ←a5d hd, ←a7D h4]
  exact C8.le hle _ _ ((h5.drop _).take _)
theorem d5U(F:P8 H)(hC:G4 E R S H){sT xT e:TypeId}{sz bytes:Nat}{z:List D}{ik:IntKind}(he:b0G P sT=some e)(hsz:E2 P e=some sz)(hby:b2M P e=some bytes)(hz:zeroCells P e=some z)(hzl:z.length=sz)
  (hxT:P.underlying xT=some (.int ik)) {s x:D} {v w:AV} (hs:Rp E R s v) (hx:Rp E R x w) {K:D→b9→Prop} (h:b5v S sz bytes z s x K):a6Q (a1T P E H sT v xT w) (a4t E R K):=by
 obtain⟨zv,hz1,hz2,hz3⟩:=c2E (E:=E) (R:=R) hz
 have hzl':zv.cells.length=sz:=by rw[hz2.length,hzl]
 unfold b5v at h
 split at h
 ·rename_i k l
  split at h
  ·rename_i hc
   simp only[Rp]at hx
   subst hx
   have hg:=d6E (bytes:=bytes) (news:=List.replicate l.toNat z) (cs:=rep zv.cells l.toNat) F hC hs (fun row hr=>by rw[List.eq_of_mem_replicate hr];exact hzl) (c0V hz2 _) (b3m hz3 _) h
   rw[List.length_replicate]at hg
   unfold a1T
   simp only[he,hsz,hby,hz1,Option.bind_eq_bind,Option.bind_some,hxT,a1f]
   rw[if_pos hzl',if_pos hc]
   exact hg
  ·exact h.elim
 ·exact h.elim
theorem d9L(F:P8 H)(hC:G4 E R S H){dT e:TypeId}{sz:Nat}(he:b0G P dT=some e)(hsz:E2 P e=some sz){d x:D}{v w:AV}(hd:Rp E R d v)(hx:Rp E R x w){K:D→b9→Prop}(h:d9f S sz d x K):a6Q (b6T P E H dT v w) (a4t E R K):=by
 unfold d9f at h
 unfold b6T
 simp only[he,hsz,Option.bind_eq_bind,Option.bind_some]
 split at h
 ·simp only[Rp]at hd
  subst hd
  split at h
  ·rename_i rows hr
   obtain⟨g1,g2,_⟩:=c1i hC hx hr
   simp only[g2,Option.bind_some]
   exact⟨F,R,S, .int .i64 0,Fz.le_refl R,hC,by simp only[Rp],h⟩
  ·exact h.elim
 ·rename_i k i len cap ex z
  simp only[Rp]at hd
  subst hd
  split at h
  ·rename_i rows o hr hk
   split at h
   ·rename_i hc
    obtain⟨rfl,hoz,hlen,hz0⟩:=hc
    obtain⟨g1,g2,cs,g3,g4,g5⟩:=c1i hC hx hr
    simp only[g2,Option.bind_some,g5 _ (Nat.min_le_left _ _)]
    obtain⟨h1,⟨pre,h2⟩,h3,h4,h5⟩:=hC.own k o hk
    rw[hoz]at h4
    have hal:=h5.length
    rw[D6 h4]at hal
    generalize hn:min rows.length len=n at*
    have hnl:n≤len:=by omega
    have hnr:n≤rows.length:=by omega
    have hcl:=g3.length
    rw[D6 g1]at hcl
    have hnews:C8 E R (rows.take n).flatten (cs.take (n*z)):=by rw[←a5d g1];exact g3.take _
    have hnewl:(cs.take (n*z)).length=n*z:=by rw[List.length_take,hcl];exact Nat.min_eq_left (Nat.mul_le_mul_right _ hnr)
    have hle:i*z+n*z≤o.acs.length:=by rw[hal, ←Nat.add_mul];exact Nat.mul_le_mul_right _ (by omega)
    have htl:∀row∈rows.take n,row.length=z:=fun row hr=>g1 row (List.mem_of_mem_take hr)
    have htn:(rows.take n).length=n:=by rw[List.length_take];omega
    have hflat:(o.rows.take i++(rows.take n++o.rows.drop (i+n))).flatten=o0 o.rows.flatten (i*z) (rows.take n).flatten:=by
     rw[d2S (by rw[D6 htl,htn, ←Nat.add_mul,D6 h4];exact Nat.mul_le_mul_right _ (by omega)),D6 htl,htn, ←Nat.add_mul,a5d h4,a7D h4,List.flatten_append,List.flatten_append]
    have hrl:∀row∈o.rows.take i++(rows.take n++o.rows.drop (i+n)),row.length=z:=fun row hr=>by
     rcases List.mem_append.1 hr with hr|hr
     ·exact h4 row (List.mem_of_mem_take hr)
     ·rcases List.mem_append.1 hr with hr|hr
      ·exact htl row hr
      ·exact h4 row (List.mem_of_mem_drop hr)
    by_cases h0:n=0
    ·subst h0
     have e0:cs.take (0*z)=[]:=by rw[Nat.zero_mul,List.take_zero]
     rw[e0]
     refine⟨F,R,_, .int .i64 (0:Nat),Fz.le_refl R, ?_,by simp only[Rp],h o.acs⟩
     refine hC.put h1 h2 h3 hrl ?_
     show C8 E R (o.rows.take i++(rows.take 0++o.rows.drop (i+0))).flatten _
     rw[List.take_zero,List.nil_append,Nat.add_zero,List.take_append_drop]
     exact h5
    ·have hne:cs.take (n*z)≠[]:=fun e=>by
      rw[e]at hnewl
      simp only[List.length_nil]at hnewl
      have:=Nat.mul_pos (Nat.pos_of_ne_zero h0) hz0
      omega
     obtain⟨H',e1,e2,e3,e4,F'⟩:=F.stores h2 (n:=i*z) hne (by rw[hnewl];exact hle) (V4 g4 _)
     rw[e1]
     refine⟨F',R,_, .int .i64 (n:Nat),Fz.le_refl R, ?_,by simp only[Rp],h (G3 o.acs (i*z) (cs.take (n*z)))⟩
     have hS:S.set k ⟨z,o.rows.take i++(rows.take n++o.rows.drop (i+n)),G3 o.acs (i*z) (cs.take (n*z))⟩=(S.erase k).set k ⟨z,o.rows.take i++(rows.take n++o.rows.drop (i+n)),G3 o.acs (i*z) (cs.take (n*z))⟩:=by
      funext j;simp only[b9.set,b9.erase];split<;>rfl
     rw[hS]
     refine(hC.but e3 h1).put h1 (pre:=[]) e2 (a1K h3 (V4 g4 _)) hrl ?_
     show C8 E R (o.rows.take i++(rows.take n++o.rows.drop (i+n))).flatten _
     rw[hflat]
     exact a5U h5 hnews
   ·exact h.elim
  ·exact h.elim
 ·exact h.elim
theorem d9T(F:P8 H)(hC:G4 E R S H){t e:TypeId}{sz bytes:Nat}{z:List D}(he:b0G P t=some e)(hsz:E2 P e=some sz)(hby:b2M P e=some bytes)(hz:zeroCells P e=some z)(hzl:z.length=sz){l c:D}{vl vc:AV}(hl:Rp E R l vl)(hc:Rp E R c vc){K:D→b9→Prop}(h:b8O S sz bytes z l c K):
  a6Q (U0 P H t vl vc) (a4t E R K):=by
 obtain⟨zv,hz1,hz2,hz3⟩:=c2E (E:=E) (R:=R) hz
 have hzl':zv.cells.length=sz:=by rw[hz2.length,hzl]
 unfold b8O at h
 split at h
 ·rename_i k1 nl k2 nc
  simp only[Rp]at hl hc
  subst hl hc
  split at h
  ·rename_i hb
   obtain⟨h0,h1,h2,h3⟩:=hb
   unfold U0
   simp only[he,hsz,hby,hz1,a1f,Option.bind_eq_bind,Option.bind_some]
   rw[if_pos ⟨j8 (by omega) (by omega),j8 (by omega) (by omega),h0,h1,h2,hzl'⟩]
   obtain⟨a,b,c',d⟩:=F.newCells (rep zv.cells nc.toNat)
   exact c2w F hC d (hC.stays b) a (fun row hr=>by rw[List.eq_of_mem_replicate hr,hzl]) (c0V hz2 _) (b3m hz3 _) (by rw[List.length_replicate];omega) (by omega) h
  ·exact h.elim
 ·exact h.elim
theorem d9c(F:P8 H)(hC:G4 E R S H){s t e:TypeId}(hs:P.underlying s=some .string)(ht:P.underlying t=some (.slice e))(he:P.underlying e=some (.int .u8)){x:D}{v:AV}(hx:Rp E R x v){K:D→b9→Prop}(h:c8Y S x K):
  a6Q (U7 P E H s t v) (a4t E R K):=by
 cases x<;>simp only[c8Y]at h<;>try (exact h.elim)
 rename_i u
 split at h
 ·rename_i hl
  have hx':=hx
  simp only[Rp]at hx'
  subst hx'
  have hr:rowsS S 1 (.str u)=some (u.map fun b=>[.int .u8 b.toNat]):=rfl
  obtain⟨g1,g2,cs,g3,g4,g5⟩:=c1i hC hx hr
  have hf:=g5 _ (Nat.le_refl _)
  have hcl:=g3.length
  rw[D6 g1]at hcl
  rw[List.take_of_length_le (by omega)]at hf
  simp only[a0Y,List.length_map,List.take_length,Option.some.injEq]at hf
  simp only[U7,hs,ht,he]
  rw[if_pos hl,hf]
  obtain⟨a,b,c,d⟩:=F.newCells cs
  refine c2w F hC d (hC.stays b) a g1 g3 g4 ?_ (Nat.le_refl _) h
  rw[List.length_map];exact Nat.le_refl _
 ·exact h.elim
def d0P(F:FW):Prop:=∀f args H (Q Q':AV→AHeap→Prop),F f args H Q→(∀v H',Q v H'→Q' v H')→F f args H Q'
theorem d7l{F:FW}{f:FuncId}{ds:List D}{avs:List AV}(hF:P8 H)(hC:G4 E R S H)(ha:C8 E R ds avs){K:D→b9→Prop}(h:DF E F f ds S K):F f avs H (a4t E R K):=h R H avs hF hC ha
theorem c9g{F:FW}{f:FuncId}{ds:List D}{avs:List AV}(hF:P8 H)(hC:G4 E R S H)(ha:C8 E R ds avs){K:D→b9→Prop}(h:b5S P (DF E F) S f ds K):b7D F (Y2 P H f avs) (a4t E R K):=by
 unfold b5S at h
 split at h
 ·rename_i hb
  unfold Y2
  rw[if_pos hb]
  exact d7l hF hC ha h
 ·exact h.elim
theorem c9o{F:FW}{f:D}{vf:AV}{ds:List D}{avs:List AV}(hF:P8 H)(hC:G4 E R S H)(hf:Rp E R f vf)(ha:C8 E R ds avs){K:D→b9→Prop}(h:a3b P (DF E F) S f ds K):b7D F (c2Q P E H vf avs) (a4t E R K):=by
 unfold a3b at h
 split at h
 ·rename_i g a b
  simp only[Rp]at hf
  obtain⟨a',b',rfl,h1,h2⟩:=hf
  exact c9g hF hC ((h1.append ha).append h2) h
 ·rename_i t path g pointer a b
  simp only[Rp]at hf
  obtain⟨a',b',rfl,h1,h2⟩:=hf
  have h12:=h1.append ha
  unfold c2Q
  split at h
  ·rename_i x rest u hp hx hu
   rw[hx]at h12
   simp only[C8]at h2 h12
   subst h2
   obtain⟨v,vs,e,k1,k2⟩:=h12
   simp only[hp,e,hu]
   split at h
   ·rename_i hpt
    simp only[hpt]
    exact c9g hF hC (D4 k1 k2) h
   ·exact h.elim
  ·exact h.elim
 ·exact h.elim
theorem d7R{F:FW}{r:D}{vr:AV}{name:String}{ds:List D}{avs:List AV}(hF:P8 H)(hC:G4 E R S H)(hr:Rp E R r vr)(ha:C8 E R ds avs){K:D→b9→Prop}(h:d2u P (DF E F) S r name ds K):b7D F (d6O P E H vr name avs) (a4t E R K):=by
 unfold d2u at h
 split at h
 ·rename_i t d
  simp only[Rp]at hr
  obtain⟨v,rfl,hv⟩:=hr
  split at h
  ·rename_i f hm
   have hmA:a1Y P E H t v name=some (f,v):=by
    unfold d6N at hm
    unfold a1Y
    cases hi:P.info? t with
    |none=>rw[hi]at hm;cases hm
    |some info=>
     rw[hi]at hm
     simp only at hm
     cases hf:info.methods.find? (·.name==name) with
     |none=>rw[hf]at hm;cases hm
     |some m=>
      simp only[hf]at hm
      simp only[Option.bind_eq_bind,Option.bind_some,hf]
      split at hm
      ·rename_i h1 h2 h3
       cases hm
       simp only[h1,a0y,Option.bind_some,h2,h3,a1N.get,Option.map_some]
      ·rename_i h1 h2 h3
       cases hm
       simp only[h1,a0y,Option.bind_some,h2,h3,a1N.get,Option.map_some]
      ·rename_i h1 h2 h3
       cases hm
       simp only[h1,a0y,Option.bind_some,h2,h3,a1N.get,Option.map_some]
      ·rename_i h1 h2 h3
       cases hm
       simp only[h1,a0y,Option.bind_some,h2,h3,a1N.get,Option.map_some]
      ·rename_i h1 h2 h3
       cases hm
       simp only[h1,a0y,Option.bind_some,h2,h3,a1N.get,Option.map_some]
      ·cases hm
   show b7D F ((a1Y P E H t v name).bind fun(g,r)=>Y2 P H g (r::avs)) _
   rw[hmA]
   exact c9g hF hC (D4 hv ha) h
  ·exact h.elim
 ·exact h.elim
theorem e0g{F:FW}(hF:P8 H)(hC:G4 E R S H){T:List D}{avs:List AV}(hT:C8 E R T avs){o:Oper}{K:D→b9→Prop}(h:e1D P (DF E F) T S o K):opW P E F avs H o (a4t E R K):=by
 obtain⟨dst,op,type,pos,after,guard⟩:=o
 cases op<;>simp only[e1D]at h<;>try (exact h.elim)
 case alloc e=>
  simp only[opW]
  split at h
  ·rename_i cs hcs
   obtain⟨z,hz1,hz2,hz3⟩:=c2E (E:=E) (R:=R) hcs
   rw[hz1]
   exact d4H hF hC hz2 hz3 h
  ·exact h.elim
 case box t x=>
  simp only[opW]
  unfold b7 at h
  split at h
  ·rename_i cs hcs
   obtain⟨g1,g2⟩:=b5M (A1 hT x) hcs
   exact d4H hF hC g1 g2 h
  ·exact h.elim
 case buildSlice t len parts=>
  simp only[opW]
  split at h
  ·rename_i e he
   split at h
   ·rename_i sz z hsz hz
    split at h
    ·rename_i hc
     obtain⟨zv,hz1,hz2,hz3⟩:=c2E (E:=E) (R:=R) hz
     have hzl':zv.cells.length=sz:=by rw[hz2.length,hc.1]
     unfold q7 b7 at h
     split at h
     ·rename_i rs hrs
      obtain⟨us,k1,k2,k3,k4,k5⟩:=d4m (c9v hT parts.toList) (fun row hr=>by rw[List.eq_of_mem_replicate hr,hc.1]) (c0V hz2 len) (b3m hz3 len) hrs
      unfold R9
      simp only[he,hsz,Option.bind_eq_bind,Option.bind_some]
      rw[if_pos hc.2,hz1,Option.bind_some,if_pos hzl',k5,Option.bind_some]
      obtain⟨a,b,c',d⟩:=hF.newCells us
      rw[List.length_replicate]at k2
      exact c2w hF hC d (hC.stays b) a k1 k3 k4 (by omega) (Nat.le_refl _) h
     ·exact h.elim
    ·exact h.elim
   ·exact h.elim
  ·exact h.elim
 case store t a x=>
  simp only[opW]
  split at h
  ·rename_i n hn
   exact d9g hF hC (A1 hT a) (A1 hT x) hn h
  ·exact h.elim
 case convert s t x=>
  simp only[opW]
  split at h
  ·rename_i e hu1 hu2
   split at h
   ·rename_i hue
    exact d9c hF hC hu1 hu2 hue (A1 hT x) h
   ·exact h.elim
  ·rename_i e0 e hu1 hu2
   split at h
   ·rename_i hue
    split at h
    ·rename_i hst
     have hx:=A1 hT x
     unfold d6A at h
     split at h
     ·rename_i k i len cap ex sz hd
      rw[hd]at hx
      split at h
      ·rename_i ob hk
       split at h
       ·rename_i hl
        simp only[Rp]at hx
        obtain⟨g1,⟨pre,g2⟩,_⟩:=hC.own k ob hk
        rw[hx]
        unfold U7
        simp only[hu1,hu2,hue]
        rw[if_pos ⟨hst,hl,by simp only[cellsOf,g2];rfl⟩]
        rcases h with h|⟨⟨q1,q2,q3⟩,h⟩
        ·exact⟨hF,R,S,_,Fz.le_refl R,hC,by simp only[Rp],h⟩
        ·obtain⟨r1,r2⟩:=hC.freeze hk
         exact⟨hF,_,_,_,r2,r1,b7l (cap:=cap) (ex:=ex) hC hk (by simp only[Rp]) q1 q2 q3,h⟩
       ·exact h.elim
      ·exact h.elim
     ·exact h.elim
    ·exact h.elim
   ·exact h.elim
  ·exact h.elim
 case makeSlice t l c=>
  simp only[opW]
  split at h
  ·rename_i e he
   split at h
   ·rename_i sz bytes z hsz hby hz
    split at h
    ·rename_i hzl
     exact d9T hF hC he hsz hby hz hzl (A1 hT l) (A1 hT c) h
    ·exact h.elim
   ·exact h.elim
  ·exact h.elim
 case call c=>
  simp only[opW]
  cases hc:c.callee with
  |value f=>
   simp only[hc]at h
   have ha:=a9m hT c.args.toList
   cases f with
   |func g=>
    simp only at h ⊢
    split at h
    ·rename_i hb
     rw[if_pos hb]
     exact d7l hF hC ha h
    ·exact h.elim
   |tmp t=>exact c9o hF hC (A1 hT _) ha h
   |const v=>exact c9o hF hC (A1 hT _) ha h
   |global g=>exact c9o hF hC (A1 hT _) ha h
  |invoke r m=>
   simp only[hc]at h ⊢
   exact d7R hF hC (A1 hT r) (a9m hT c.args.toList) h
  |builtin b=>
   simp only[hc]at h ⊢
   have ha:=a9m hT c.args.toList
   generalize c.args.toList.map (C7 T)=ds at h ha
   generalize c.args.toList.map (p8 avs)=vs at ha
   generalize c.argTypes.toList=ts at h
   cases b<;>(try simp only at h)<;>try (exact h.elim)
   case append=>
    rcases ds with _|⟨x,_|⟨y,_|⟨w,ds⟩⟩⟩<;>(try simp only at h)<;>try (exact h.elim)
    rcases ts with _|⟨t,_|⟨u,_|⟨u',ts⟩⟩⟩<;>(try simp only at h)<;>try (exact h.elim)
    simp only[C8]at ha
    obtain⟨v,_,rfl,h1,v2,_,rfl,h2,rfl⟩:=ha
    split at h
    ·rename_i e he
     split at h
     ·rename_i sz bytes z u' hsz hby hz hu
      split at h
      ·rename_i hzl;exact d0R hF hC he hsz hby hz hzl (.inl ⟨_,hu⟩) h1 h2 h
      ·exact h.elim
     ·rename_i sz bytes z hsz hby hz hu
      split at h
      ·rename_i hzl;exact d0R hF hC he hsz hby hz hzl (.inr hu) h1 h2 h
      ·exact h.elim
     ·rename_i sz bytes z ik hsz hby hz hu
      split at h
      ·rename_i hzl;exact d5U hF hC he hsz hby hz hzl hu h1 h2 h
      ·exact h.elim
     ·exact h.elim
    ·exact h.elim
   case copy=>
    rcases ds with _|⟨x,_|⟨y,_|⟨w,ds⟩⟩⟩<;>(try simp only at h)<;>try (exact h.elim)
    rcases ts with _|⟨t,ts⟩<;>(try simp only at h)<;>try (exact h.elim)
    simp only[C8]at ha
    obtain⟨v,_,rfl,h1,v2,_,rfl,h2,rfl⟩:=ha
    split at h
    ·rename_i e he
     split at h
     ·rename_i sz hsz
      exact d9L hF hC he hsz h1 h2 h
     ·exact h.elim
    ·exact h.elim
end
end
section
def b5k(T:List D)(dst:Option Tmp)(v:D):List D:=match dst with
 |some d=>T.set d v
 |none=>T
def b9b:List D→(List D→Prop)→Prop
 | [],k=>k []
 |a::l,k=>b9b l fun l'=>k (a::l')
def d6o:List D→Nat→(D→Prop)→Prop
 | [],_,k=>k d9
 |a::l,n,k=>match n with
  |0=>k a
  |n+1=>d6o l n k
def d2n(T:List D)(x:Operand)(k:D→Prop):Prop:=match x with
 | .tmp t=>d6o T t k
 |x=>k (C7 T x)
def i0(g:D)(want:Bool):Option Bool:=match g with
 | .bool b=>some (b==want)
 | .any=>none
 |_=>some false
def c6J(ops:Array Oper)(T:List D)(o:Oper):Option Bool:=
 match o.guard with
 |none=>some true
 |some (j,want)=>match (ops[j]?).bind (·.dst) with
  |none=>some false
  |some d=>match T[d]? with
   |some x=>i0 x want
   |none=>some false
def i4(g:Option Bool)(r:Option D):Option D:=match g with
 |some true=>r
 |some false=>some d9
 |none=>none
def F7(r:Option Bool)(s:(D→b9→Prop)→Prop)(S:b9)(Q:D→b9→Prop):Prop:=match r with
 |some true=>s Q
 |some false=>Q d9 S
 |none=>False
def c5I(P:Program)(ops:Array Oper)(T:List D)(S:b9)(o:Oper):Option D:=i4 (c6J ops T o) (e0W P T S o)
def d6F(P:Program)(G:DW)(ops:Array Oper)(T:List D)(S:b9)(o:Oper)(K:D→b9→Prop):Prop:=F7 (c6J ops T o) (e1D P G T S o) S K
def b1X(P:Program)(G:DW)(ops:Array Oper):List Oper→List D→b9→(List D→b9→Prop)→Prop
 | [],T,S,Q=>b9b T fun T=>Q T S
 |o::l,T,S,Q=>b9b T fun T=>match a1m o with
  |some x=>d2n T x fun e=>b1X P G ops l (b5k T o.dst e) S Q
  |none=>match r9 P o with
  |0|1=>b7 (c5I P ops T S o) fun v=>b1X P G ops l (b5k T o.dst v) S Q
  |_=>d6F P G ops T S o fun v S'=>b1X P G ops l (b5k T o.dst v) S' Q
structure a8g where
 d:r5
 T:List D
 S:b9
def p7(x:D)(S S':b9):Prop:=match c2D x with
 |some k=>S' k=S k
 |none=>True
def c8H(T:List D)(o:Oper)(S S':b9):Prop:=match o.op with
 | .load _ a=>p7 (C7 T a) S S'
 | .convert _ _ x=>p7 (C7 T x) S S'
 |_=>True
def j5(r:Option D):D:=match r with
 |some d=>d
 |none=> .any
def d7a(P:Program)(ops:Array Oper)(o:Oper)(S:b9):List (List D×b9)→Prop
 | []=>True
 |g::gs=>(c5I P ops g.1 g.2 o≠none∧c8H g.1 o g.2 S)∧d7a P ops o S gs
def c7w(S':b9)(anc:Nat):Nat→List a8g→Prop
 |_,[]=>True
 |j,d::ds=>if d.d.hi==1&& !anc.testBit j then c8H d.T d.d.o d.S S'∧c7w S' anc (j+1) ds else c7w S' anc (j+1) ds
def b3q(P:Program)(ops:Array Oper)(o:Oper):Nat→List (List D×b9)→List (List D×b9)
 |_,[]=>[]
 |0,g::gs=>(b5k g.1 o.dst .any,g.2)::b3q P ops o 0 gs
 |n+1,g::gs=>(b5k g.1 o.dst (j5 (c5I P ops g.1 g.2 o)),g.2)::b3q P ops o n gs
def b4r(P:Program)(G:DW)(ops:Array Oper):List Oper→List a8g→List D→b9→List (List D×b9)→(List D→b9→Prop)→Prop
 | [],_,T,S,_,Q=>b9b T fun T=>Q T S
 |o::l,ds,T,S,older,Q=>match a1A (ds.map (·.d)) o.after.toList 0 with
  |none=>False
  |some anc=>if b2h (fun j e=>anc.testBit j||o.apart ops e.o) 0 (ds.map (·.d)) then b9b T fun T=>
    match a1m o with
    |some x=>d2n T x fun v=>b4r P G ops l (ds++[⟨⟨o,anc,[],A8,older.length,0,false,[]⟩,T,S⟩]) (b5k T o.dst v) S (b3q P ops o older.length older) Q
    |none=>match r9 P o with
    |0=>b7 (c5I P ops T S o) fun v=>b4r P G ops l (ds++[⟨⟨o,anc,[],A8,older.length,0,false,[]⟩,T,S⟩]) (b5k T o.dst v) S (b3q P ops o older.length older) Q
    |1=>b7 (c5I P ops T S o) fun v=>d7a P ops o S (older.take (older.length - c5z anc 0 (ds.map (·.d)) 0))∧
      b4r P G ops l (ds++[⟨⟨o,anc,[],A8,older.length,1,false,[]⟩,T,S⟩]) (b5k T o.dst v) S (b3q P ops o (older.length - c5z anc 0 (ds.map (·.d)) 0) older) Q
    |_=>if b2h (fun j e=> !e.wr||anc.testBit j) 0 (ds.map (·.d)) then
      d6F P G ops T S o fun v S'=>c7w S' anc 0 ds∧
       b4r P G ops l (ds++[⟨⟨o,anc,[],A8,older.length,2,true,[]⟩,T,S⟩]) (b5k T o.dst v) S' ((b5k T o.dst .any,S)::b3q P ops o 0 older) Q
     else False
   else False
section
variable{P:Program}{E:j6}{w0:World}
theorem a5a:∀ {T:List D} {k:List D→Prop},b9b T k=k T
 | [],k=>rfl
 |a::l,k=>by simp only[b9b];rw[a5a]
theorem d4y:∀ {T:List D} {n:Nat} {k:D→Prop},d6o T n k=k (T.getD n d9)
 | [],n,k=>rfl
 |a::l,0,k=>rfl
 |a::l,n+1,k=>by simp only[d6o];rw[d4y];simp
theorem b9S{T:List D}{x:Operand}{k:D→Prop}:d2n T x k=k (C7 T x):=by
 cases x<;>first|rfl|exact d4y
theorem b6j(T:List D)(dst:Option Tmp)(v:D):(b5k T dst v).length=T.length:=by
 cases dst with
 |none=>rfl
 |some d=>exact List.length_set
theorem b7o{R:Fz}{T:List D}{avs:List AV}(h:C8 E R T avs)(dst:Option Tmp){d:D}{v:AV}(hd:Rp E R d v):C8 E R (b5k T dst d) (K1 avs dst v):=by
 cases dst with
 |none=>exact h
 |some t=>exact h.set t hd
theorem b2Y{R:Fz}{v:AV}:Rp E R .any v:=by simp only[Rp]
theorem d8v{F:FW}(hF:d0P F){T:List AV}{H:AHeap}{o:Oper}{K K':AV→AHeap→Prop}(hk:∀v H',K v H'→K' v H')(h:opW P E F T H o K):opW P E F T H o K':=by
 have o1:∀ {α:Type} {r:Option α} {f g:α→Prop},(∀x,f x→g x)→b7 r f→b7 r g:=by
  intro α r f g hfg h
  cases r with
  |none=>exact h
  |some x=>exact hfg x h
 have o2:∀ {r:Option (AV×AHeap)},a6Q r K→a6Q r K':=by
  intro r h
  cases r with
  |none=>exact h
  |some x=>exact hk _ _ h
 have rf:∀ {r:Option a1u},b7D F r K→b7D F r K':=by
  intro r h
  unfold b7D at*
  split
  ·exact hk _ _ h
  ·exact hF _ _ _ _ _ h hk
  ·exact h
 obtain⟨dst,op,type,pos,after,guard⟩:=o
 cases op<;>simp only[opW]at h ⊢ <;>try (first|exact o1 (fun v hv=>hk _ _ hv) h|exact o2 h)
 case box e x=>exact hk _ _ h
 case store t a x=>
  unfold d2Q at*
  split at h
  ·split at h
   ·rename_i hs
    rw[if_pos hs]
    exact o1 (fun v hv=>hk _ _ hv) h
   ·exact h.elim
  ·exact h.elim
 case makeMap t r=>
  cases r with
  |none=>exact hk _ _ h
  |some x=>exact h
 case call c=>
  cases hc:c.callee with
  |value f=>
   simp only[hc]at h ⊢
   cases f with
   |func g=>
    simp only at h ⊢
    split at h
    ·rename_i hb;rw[if_pos hb];exact hF _ _ _ _ _ h hk
    ·exact h.elim
   |tmp t=>exact rf h
   |const v=>exact rf h
   |global g=>exact rf h
  |invoke r m=>
   simp only[hc]at h ⊢
   exact rf h
  |builtin b=>
   simp only[hc]at h ⊢
   generalize c.args.toList.map (p8 T)=as at h ⊢
   generalize c.argTypes.toList=ts at h ⊢
   cases b<;>(try simp only at h ⊢)<;>try (exact o1 (fun v hv=>hk _ _ hv) h)
   case append=>
    rcases as with _|⟨s,_|⟨x,_|⟨y,as⟩⟩⟩<;>rcases ts with _|⟨sT,_|⟨xT,_|⟨u,ts⟩⟩⟩<;>first|exact o2 h|exact o1 (fun v hv=>hk _ _ hv) h
   case copy=>
    rcases as with _|⟨s,_|⟨x,_|⟨y,as⟩⟩⟩<;>rcases ts with _|⟨sT,ts⟩<;>first|exact o2 h|exact o1 (fun v hv=>hk _ _ hv) h
theorem b1K:d0P (J6 P E w0):=fun f args H Q Q' h hq=>h.mono hq
theorem c8q:d0P (FnW P E w0):=fun f args H Q Q' h hq=>h.mono hq
theorem b7w{R:Fz}{T:List D}{avs:List AV}(h:C8 E R T avs){ops:Array Oper}{o:Oper}{b:Bool}(hw:c6J ops T o=some b):a0w ops avs o=some b:=by
 unfold c6J at hw
 unfold a0w
 cases hg:o.guard with
 |none=>rw[hg]at hw;exact hw
 |some jw=>
  obtain⟨j,want⟩:=jw
  simp only[hg]at hw ⊢
  cases hd:(ops[j]?).bind (·.dst) with
  |none=>simp only[hd]at hw ⊢;exact hw
  |some d=>
   simp only[hd]at hw ⊢
   cases hx:T[d]? with
   |none=>
    have:avs[d]? =none:=List.getElem?_eq_none (by rw[h.length];exact List.getElem?_eq_none_iff.1 hx)
    simp only[hx]at hw
    simp only[this]
    exact hw
   |some x=>
    simp only[hx]at hw
    obtain⟨v,h1,h2⟩:=a7u h hx
    simp only[h1]
    cases x<;>simp only[i0]at hw<;>try (cases hw;done)
    all_goals
     simp only[Rp]at h2
     first
      |(subst h2;exact hw)
      |(rcases h2 with ⟨_,rfl⟩|⟨o,j,cap,ex,z,rfl,_⟩<;>exact hw)
      |(obtain⟨o,j,cap,ex,z,all,rfl,_⟩:=h2;exact hw)
      |(obtain⟨o,j,all,rfl,_⟩:=h2;exact hw)
      |(obtain⟨a',b',rfl,_⟩:=h2;exact hw)
      |(obtain⟨v',rfl,_⟩:=h2;exact hw)
theorem c4e{T:List D}{o:Oper}{S S':b9}(h:c8H T o S S'){k:Nat}(hk:c3B T o=some k):S' k=S k:=by
 unfold c3B at hk
 unfold c8H at h
 split at hk
 ·rename_i e;simp only[e,p7,hk]at h;exact h
 ·rename_i e;simp only[e,p7,hk]at h;exact h
 ·cases hk
theorem b0j{R:Fz}{S:b9}{H:AHeap}{T:List D}{avs:List AV}(hT:C8 E R T avs)(hC:G4 E R S H){ops:Array Oper}{o:Oper}{d:D}(h:c5I P ops T S o=some d):
  ∃v,Rp E R d v∧∀H,Agr R S (c3B T o) H→a6h P E ops avs H o=some v:=by
 unfold c5I i4 at h
 split at h
 ·rename_i hw
  obtain⟨v,h1,h2⟩:=e0a hT hC h
  exact⟨v,h1,fun H hA=>by unfold a6h;rw[b7w hT hw];exact h2 H hA⟩
 ·rename_i hw
  cases h
  exact⟨A8,a8W,fun H hA=>by unfold a6h;rw[b7w hT hw];rfl⟩
 ·cases h
theorem c7Q{F:FW}{R:Fz}{S:b9}{H:AHeap}(hF:P8 H)(hC:G4 E R S H){T:List D}{avs:List AV}(hT:C8 E R T avs){ops:Array Oper}{o:Oper}{K:D→b9→Prop}(h:d6F P (DF E F) ops T S o K):b1O P E F ops avs H o (a4t E R K):=by
 unfold d6F F7 at h
 unfold b1O
 split at h
 ·rename_i hw
  rw[b7w hT hw]
  exact e0g hF hC hT h
 ·rename_i hw
  rw[b7w hT hw]
  exact⟨hF,R,S,d9,Fz.le_refl R,hC,a8W,h⟩
 ·exact h.elim
theorem a5w{F:FW}(hF:d0P F){ops:Array Oper}{T:List AV}{H:AHeap}{o:Oper}{K K':AV→AHeap→Prop}(h:b1O P E F ops T H o K)(hk:∀v H',K v H'→K' v H'):b1O P E F ops T H o K':=by
 unfold b1O a3c at*
 split<;>rename_i e<;>rw[e]at h
 ·exact d8v hF hk h
 ·exact hk _ _ h
 ·exact h
def a4O(E:j6)(R:Fz)(n:Nat)(Q:List D→b9→Prop)(avs':List AV)(H':AHeap):Prop:=P8 H'∧∃R' S' T',R.le R'∧G4 E R' S' H'∧C8 E R' T' avs'∧T'.length=n∧Q T' S'
theorem a4O.le{R R1:Fz}(h:R.le R1){n:Nat}{Q:List D→b9→Prop}{avs':List AV}{H':AHeap}(hp:a4O E R1 n Q avs' H'):a4O E R n Q avs' H':=by
 obtain⟨F,R',S',T',a,b⟩:=hp
 exact⟨F,R',S',T',Fz.le_trans h a,b⟩
theorem b2t{ops:Array Oper}:∀ {l:List Oper} {T:List AV} {H:AHeap} {Q Q':List AV→AHeap→Prop},(∀T H,Q T H→Q' T H)→b2g P E w0 ops l T H Q→b2g P E w0 ops l T H Q'
 | [],T,H,Q,Q',hq,h=>by simp only[b2g,D0]at*;exact hq _ _ h
 |o::l,T,H,Q,Q',hq,h=>by
  simp only[b2g,D0,Z5]at*
  have ov:∀ {r:Option AV} {f g:AV→Prop},(∀x,f x→g x)→b7 r f→b7 r g:=by
   intro r f g hfg h
   cases r with
   |none=>exact h
   |some x=>exact hfg x h
  split at h
  ·exact b2t hq h
  ·split at h
   ·exact ov (fun v hv=>b2t hq hv) h
   ·exact ov (fun v hv=>b2t hq hv) h
   ·exact a5w b1K h fun v H' h'=>b2t hq h'
theorem b2r{ops:Array Oper}:∀ {l:List Oper} {T:List AV} {H:AHeap} {Q Q':List AV→AHeap→Prop},(∀T H,Q T H→Q' T H)→a8S P E w0 ops l T H Q→a8S P E w0 ops l T H Q'
 | [],T,H,Q,Q',hq,h=>by simp only[a8S,D0]at*;exact hq _ _ h
 |o::l,T,H,Q,Q',hq,h=>by
  simp only[a8S,D0,Z5]at*
  have ov:∀ {r:Option AV} {f g:AV→Prop},(∀x,f x→g x)→b7 r f→b7 r g:=by
   intro r f g hfg h
   cases r with
   |none=>exact h
   |some x=>exact hfg x h
  split at h
  ·exact b2r hq h
  ·split at h
   ·exact ov (fun v hv=>b2r hq hv) h
   ·exact ov (fun v hv=>b2r hq hv) h
   ·exact a5w c8q h fun v H' h'=>b2r hq h'
theorem d5T{ops:Array Oper}:∀ {l:List Oper} {T:List D} {avs:List AV} {S:b9} {H:AHeap} {R:Fz} {Q:List D→b9→Prop},P8 H→G4 E R S H→C8 E R T avs→b1X P (DF E (J6 P E w0)) ops l T S Q→b2g P E w0 ops l avs H (a4O E R T.length Q)
 | [],T,avs,S,H,R,Q,F,hC,hT,h=>by
  simp only[b1X,a5a]at h
  simp only[b2g,D0]
  exact⟨F,R,S,T,Fz.le_refl R,hC,hT,rfl,h⟩
 |o::l,T,avs,S,H,R,Q,F,hC,hT,h=>by
  simp only[b1X,a5a,b9S]at h
  simp only[b2g,D0,Z5]
  have next:∀ {d:D} {v:AV} {R':Fz} {S':b9} {H':AHeap},R.le R'→P8 H'→G4 E R' S' H'→Rp E R' d v→b1X P (DF E (J6 P E w0)) ops l (b5k T o.dst d) S' Q→b2g P E w0 ops l (K1 avs o.dst v) H' (a4O E R T.length Q):=by
   intro d v R' S' H' hle F' hC' hd h'
   have:=d5T F' hC' (b7o (C8.le hle _ _ hT) o.dst hd) h'
   rw[b6j]at this
   exact b2t (fun _ _=>a4O.le hle) this
  have val:(b7 (c5I P ops T S o) fun v=>b1X P (DF E (J6 P E w0)) ops l (b5k T o.dst v) S Q)→b7 (a6h P E ops avs H o) fun v=>b2g P E w0 ops l (K1 avs o.dst v) H (a4O E R T.length Q):=by
   intro h
   unfold b7 at h
   split at h
   ·rename_i d hd
    obtain⟨v,h1,h2⟩:=b0j hT hC hd
    rw[h2 H (hC.agr _)]
    exact next (Fz.le_refl R) F hC h1 h
   ·exact h.elim
  cases ha:a1m o with
  |some x=>simp only[ha]at h ⊢;exact next (Fz.le_refl R) F hC (A1 hT _) h
  |none=>
   simp only[ha]at h ⊢
   rcases hk:r9 P o with _|_|k
   ·simp only[hk]at h ⊢;exact val h
   ·simp only[hk]at h ⊢;exact val h
   ·simp only[hk]at h ⊢
    refine a5w b1K (c7Q F hC hT h) ?_
    rintro v H' ⟨F',R',S',d,hle,hC',hd,h'⟩
    exact next hle F' hC' hd h'
theorem d3f{ops:Array Oper}:∀ {l:List Oper} {T:List D} {avs:List AV} {S:b9} {H:AHeap} {R:Fz} {Q:List D→b9→Prop},P8 H→G4 E R S H→C8 E R T avs→b1X P (DF E (FnW P E w0)) ops l T S Q→a8S P E w0 ops l avs H (a4O E R T.length Q)
 | [],T,avs,S,H,R,Q,F,hC,hT,h=>by
  simp only[b1X,a5a]at h
  simp only[a8S,D0]
  exact⟨F,R,S,T,Fz.le_refl R,hC,hT,rfl,h⟩
 |o::l,T,avs,S,H,R,Q,F,hC,hT,h=>by
  simp only[b1X,a5a,b9S]at h
  simp only[a8S,D0,Z5]
  have next:∀ {d:D} {v:AV} {R':Fz} {S':b9} {H':AHeap},R.le R'→P8 H'→G4 E R' S' H'→Rp E R' d v→b1X P (DF E (FnW P E w0)) ops l (b5k T o.dst d) S' Q→a8S P E w0 ops l (K1 avs o.dst v) H' (a4O E R T.length Q):=by
   intro d v R' S' H' hle F' hC' hd h'
   have:=d3f F' hC' (b7o (C8.le hle _ _ hT) o.dst hd) h'
   rw[b6j]at this
   exact b2r (fun _ _=>a4O.le hle) this
  have val:(b7 (c5I P ops T S o) fun v=>b1X P (DF E (FnW P E w0)) ops l (b5k T o.dst v) S Q)→b7 (a6h P E ops avs H o) fun v=>a8S P E w0 ops l (K1 avs o.dst v) H (a4O E R T.length Q):=by
   intro h
   unfold b7 at h
   split at h
   ·rename_i d hd
    obtain⟨v,h1,h2⟩:=b0j hT hC hd
    rw[h2 H (hC.agr _)]
    exact next (Fz.le_refl R) F hC h1 h
   ·exact h.elim
  cases ha:a1m o with
  |some x=>simp only[ha]at h ⊢;exact next (Fz.le_refl R) F hC (A1 hT _) h
  |none=>
   simp only[ha]at h ⊢
   rcases hk:r9 P o with _|_|k
   ·simp only[hk]at h ⊢;exact val h
   ·simp only[hk]at h ⊢;exact val h
   ·simp only[hk]at h ⊢
    refine a5w c8q (c7Q F hC hT h) ?_
    rintro v H' ⟨F',R',S',d,hle,hC',hd,h'⟩
    exact next hle F' hC' hd h'
end
end
section
section
variable{P:Program}{E:j6}{w0:World}
def b9O(E:j6)(R:Fz)(avs:List AV):List (List D×b9)→List AHeap→Prop
 | [],[]=>True
 |g::gs,G::Gs=>(∃RG,RG.le R∧G4 E RG g.2 G∧C8 E RG g.1 avs)∧b9O E R avs gs Gs
 |_,_=>False
def d7L(P:Program)(E:j6)(ops:Array Oper)(R:Fz)(x:a8g)(y:r5):Prop:=
 x.d.o=y.o∧x.d.anc=y.anc∧x.d.lo=y.lo∧x.d.hi=y.hi∧x.d.wr=y.wr∧
  (y.hi=1→r9 P y.o≤1∧∃Rd:Fz,Rd.le R∧∀H',Agr Rd x.S (c3B x.T x.d.o) H'→a6h P E ops y.T H' y.o=some y.v)
def DsR(P:Program)(E:j6)(ops:Array Oper)(R:Fz):List a8g→List r5→Prop
 | [],[]=>True
 |x::xs,y::ys=>d7L P E ops R x y∧DsR P E ops R xs ys
 |_,_=>False
theorem b9O.length{R:Fz}{avs:List AV}:∀ {gs:List (List D×b9)} {Gs:List AHeap},b9O E R avs gs Gs→gs.length=Gs.length
 | [],[],_=>rfl
 |g::gs,G::Gs,h=>by rw[List.length_cons,List.length_cons,b9O.length h.2]
 | [],_::_,h=>h.elim
 |_::_,[],h=>h.elim
theorem d7L.le{ops:Array Oper}{R R':Fz}(hle:R.le R'){x:a8g}{y:r5}(h:d7L P E ops R x y):d7L P E ops R' x y:=by
 obtain⟨a,b,c,d,e,f⟩:=h
 exact⟨a,b,c,d,e,fun hy=>by obtain⟨k,Rd,g1,g2⟩:=f hy;exact⟨k,Rd,Fz.le_trans g1 hle,g2⟩⟩
theorem DsR.le{ops:Array Oper}{R R':Fz}(hle:R.le R'):∀ {xs:List a8g} {ys:List r5},DsR P E ops R xs ys→DsR P E ops R' xs ys
 | [],[],h=>h
 |x::xs,y::ys,h=>⟨h.1.le hle,DsR.le hle h.2⟩
 | [],_::_,h=>h.elim
 |_::_,[],h=>h.elim
theorem DsR.snoc{ops:Array Oper}{R:Fz}{x:a8g}{y:r5}(h1:d7L P E ops R x y):∀ {xs:List a8g} {ys:List r5},DsR P E ops R xs ys→DsR P E ops R (xs++[x]) (ys++[y])
 | [],[],h=>⟨h1,trivial⟩
 |x::xs,y::ys,h=>⟨h.1,DsR.snoc h1 h.2⟩
 | [],_::_,h=>h.elim
 |_::_,[],h=>h.elim
theorem DsR.get{ops:Array Oper}{R:Fz}:∀ {xs:List a8g} {ys:List r5},DsR P E ops R xs ys→∀i:Nat,(∃x y,(xs.map (·.d))[i]? =some x∧ys[i]? =some y∧x.anc=y.anc)∨((xs.map (·.d))[i]? =none∧ys[i]? =none)
 | [],[],_,i=> .inr ⟨rfl,rfl⟩
 |x::xs,y::ys,h,0=> .inl ⟨x.d,y,rfl,rfl,h.1.2.1⟩
 |x::xs,y::ys,h,i+1=>DsR.get h.2 i
 | [],_::_,h,_=>h.elim
 |_::_,[],h,_=>h.elim
theorem DsR.anc{ops:Array Oper}{R:Fz}{xs:List a8g}{ys:List r5}(h:DsR P E ops R xs ys):∀(es:List Edge) (m:Nat),a1A (xs.map (·.d)) es m=a1A ys es m
 | [],m=>rfl
 |e::es,m=>by
  simp only[a1A]
  split
  ·rcases h.get e.on with ⟨x,y,h1,h2,h3⟩|⟨h1,h2⟩
   ·simp only[h1,h2,h3];exact DsR.anc h es _
   ·simp only[h1,h2]
  ·exact DsR.anc h es m
theorem DsR.all{ops:Array Oper}{R:Fz}{p:Nat→r5→Bool}(hp:∀j x y,x.o=y.o→x.wr=y.wr→p j x=p j y):∀ {xs:List a8g} {ys:List r5} (j:Nat),DsR P E ops R xs ys→b2h p j (xs.map (·.d))=b2h p j ys
 | [],[],j,_=>rfl
 |x::xs,y::ys,j,h=>by
  simp only[List.map_cons,b2h]
  rw[hp j _ _ h.1.1 h.1.2.2.2.2.1,DsR.all hp (j+1) h.2]
 | [],_::_,_,h=>h.elim
 |_::_,[],_,h=>h.elim
theorem DsR.lo{ops:Array Oper}{R:Fz}{anc:Nat}:∀ {xs:List a8g} {ys:List r5} (j m:Nat),DsR P E ops R xs ys→c5z anc j (xs.map (·.d)) m=c5z anc j ys m
 | [],[],j,m,_=>rfl
 |x::xs,y::ys,j,m,h=>by
  simp only[List.map_cons,c5z]
  rw[h.1.2.2.1,h.1.2.2.2.2.1,DsR.lo (j+1) _ h.2]
 | [],_::_,_,_,h=>h.elim
 |_::_,[],_,_,h=>h.elim
theorem d7t{ops:Array Oper}{avs:List AV}{o:Oper}(hk:r9 P o=0){G H:AHeap}{v:AV}(h:a6h P E ops avs G o=some v):a6h P E ops avs H o=some v:=by
 rw[←a5L (by omega)]at h ⊢
 unfold b1m d3o at*
 split at h
 ·unfold c7Z at h ⊢
  split at h
  ·rename_i v1 H1 h1
   cases h
   rw[(c8S hk h1).2 H]
  ·cases h
 ·exact h
 ·cases h
theorem b9O.any{R R':Fz}(hle:R.le R'){avs:List AV}{ops:Array Oper}{o:Oper}{v:AV}:∀ {gs:List (List D×b9)} {Gs:List AHeap},b9O E R avs gs Gs→b9O E R' (K1 avs o.dst v) (b3q P ops o 0 gs) Gs
 | [],[],_=>trivial
 |g::gs,G::Gs,⟨⟨RG,a,b,c⟩,h⟩=>⟨⟨RG,Fz.le_trans a hle,b,b7o c o.dst b2Y⟩,b9O.any hle h⟩
 | [],_::_,h=>h.elim
 |_::_,[],h=>h.elim
theorem b9O.put{R:Fz}{avs:List AV}{ops:Array Oper}{o:Oper}{v:AV}:∀ {n:Nat} {gs:List (List D×b9)} {Gs:List AHeap},b9O E R avs gs Gs→
  (∀(RG:Fz) (T:List D) (S:b9) (G:AHeap),(T,S)∈gs.take n→RG.le R→G4 E RG S G→C8 E RG T avs→∀d,c5I P ops T S o=some d→Rp E RG d v)→b9O E R (K1 avs o.dst v) (b3q P ops o n gs) Gs
 |0,gs,Gs,h,_=>h.any (Fz.le_refl R)
 |n+1,[],[],h,_=>trivial
 |n+1,g::gs,G::Gs,⟨⟨RG,a,b,c⟩,h⟩,hv=>by
  refine⟨⟨RG,a,b,b7o c o.dst ?_⟩,b9O.put h fun RG T S G hm=>hv RG T S G (List.mem_cons_of_mem _ hm)⟩
  unfold j5
  split
  ·rename_i d hd
   exact hv RG g.1 g.2 G List.mem_cons_self a b c d hd
  ·exact b2Y
 |_+1,[],_::_,h,_=>h.elim
 |_+1,_::_,[],h,_=>h.elim
theorem d6C{R:Fz}{avs:List AV}{ops:Array Oper}{o:Oper}{v:AV}{S:b9}{H:AHeap}(hC:G4 E R S H)(hv:a6h P E ops avs H o=some v):∀ {n:Nat} {gs:List (List D×b9)} {Gs:List AHeap},b9O E R avs gs Gs→d7a P ops o S (gs.take n)→d3Q P E ops avs o v (Gs.take n)
 |0,gs,Gs,h,_=>by rw[List.take_zero];trivial
 |n+1,[],[],h,_=>trivial
 |n+1,g::gs,G::Gs,⟨⟨RG,a,b,c⟩,h⟩,hs=>by
  obtain⟨⟨h1,h2⟩,h3⟩:=hs
  refine⟨?_,d6C hC hv h h3⟩
  cases hd:c5I P ops g.1 g.2 o with
  |none=>exact(h1 hd).elim
  |some d=>
   obtain⟨v',_,hall⟩:=b0j c b hd
   have e:=hall H ⟨fun j cs e=>let ⟨pre,g⟩:=hC.frozen j cs (a _ _ e);⟨_,pre,g⟩,fun j o' hj hjS=>by
    rw[←c4e h2 hj]at hjS
    obtain⟨_,⟨pre,g⟩,_⟩:=hC.own j o' hjS
    exact⟨_,pre,g⟩⟩
   rw[hv]at e
   cases e
   exact hall G (b.agr _)
 |_+1,[],_::_,h,_=>h.elim
 |_+1,_::_,[],h,_=>h.elim
theorem e0i{R:Fz}{avs:List AV}{ops:Array Oper}{o:Oper}{v:AV}{S:b9}{H:AHeap}(hC:G4 E R S H)(hv:a6h P E ops avs H o=some v){gs:List (List D×b9)}(hs:d7a P ops o S gs){RG:Fz}{T:List D}{S':b9}{G:AHeap}(hm:(T,S')∈gs)(hle:RG.le R)(hG:G4 E RG S' G)(hT:C8 E RG T avs){d:D}(hd:c5I P ops T S' o=some d):Rp E RG d v:=by
 have hf:c8H T o S' S:=by
  clear hG hT hd
  induction gs with
  |nil=>cases hm
  |cons g gs ih=>
   rcases List.mem_cons.1 hm with e|hm
   ·subst e;exact hs.1.2
   ·exact ih hs.2 hm
 obtain⟨v',h1,hall⟩:=b0j hT hG hd
 have e:=hall H ⟨fun j cs e=>let ⟨pre,g⟩:=hC.frozen j cs (hle _ _ e);⟨_,pre,g⟩,fun j o' hj hjS=>by
  rw[←c4e hf hj]at hjS
  obtain⟨_,⟨pre,g⟩,_⟩:=hC.own j o' hjS
  exact⟨_,pre,g⟩⟩
 rw[hv]at e
 cases e
 exact h1
theorem c9w{ops:Array Oper}{R R':Fz}(hle:R.le R'){S':b9}{H':AHeap}(hC:G4 E R' S' H'){anc:Nat}:∀ {xs:List a8g} {ys:List r5} {j:Nat},DsR P E ops R xs ys→c7w S' anc j xs→b6S P E ops H' anc j ys
 | [],[],j,_,_=>trivial
 |x::xs,y::ys,j,⟨⟨e1,e2,e3,e4,e5,e6⟩,h⟩,ha=>by
  simp only[c7w]at ha
  simp only[b6S]
  rw[←e4]
  split at ha
  ·rename_i hc
   rw[if_pos hc]
   refine⟨?_,c9w hle hC h ha.2⟩
   simp only[Bool.and_eq_true,beq_iff_eq]at hc
   obtain⟨_,Rd,g1,g2⟩:=e6 (e4▸hc.1)
   exact g2 H' ⟨fun j cs e=>let ⟨pre,g⟩:=hC.frozen j cs (hle _ _ (g1 _ _ e));⟨_,pre,g⟩,fun j o' hj hjS=>by
    rw[←c4e ha.1 hj]at hjS
    obtain⟨_,⟨pre,g⟩,_⟩:=hC.own j o' hjS
    exact⟨_,pre,g⟩⟩
  ·rename_i hc
   rw[if_neg hc]
   exact c9w hle hC h ha
 | [],_::_,_,h,_=>h.elim
 |_::_,[],_,h,_=>h.elim
theorem a7K{ops:Array Oper}:∀ {l:List Oper} {ds:List r5} {T:List AV} {H:AHeap} {older:List AHeap} {Q Q':List AV→AHeap→Prop},(∀T H,Q T H→Q' T H)→a6V P E w0 ops l ds T H older Q→a6V P E w0 ops l ds T H older Q'
 | [],ds,T,H,older,Q,Q',hq,h=>by simp only[a6V,D0]at*;exact hq _ _ h
 |o::l,ds,T,H,older,Q,Q',hq,h=>by
  simp only[a6V,D0,Z5]at*
  have ov:∀ {r:Option AV} {f g:AV→Prop},(∀x,f x→g x)→b7 r f→b7 r g:=by
   intro r f g hfg h
   cases r with
   |none=>exact h
   |some x=>exact hfg x h
  cases hanc:a1A ds o.after.toList 0 with
  |none=>rw[hanc]at h;exact h
  |some anc=>
   simp only[hanc]at h ⊢
   split at h
   ·rename_i hap
    rw[if_pos hap]
    cases ha:a1m o with
    |some x=>simp only[ha]at h ⊢;exact a7K hq h
    |none=>
     simp only[ha]at h ⊢
     rcases hk:r9 P o with _|_|k
     ·simp only[hk]at h ⊢;exact ov (fun v hv=>a7K hq hv) h
     ·simp only[hk]at h ⊢;exact ov (fun v hv=>⟨hv.1,a7K hq hv.2⟩) h
     ·simp only[hk]at h ⊢
      split at h
      ·rename_i hw
       rw[if_pos hw]
       exact a5w b1K h fun v H' h'=>⟨h'.1,a7K hq h'.2⟩
      ·exact h.elim
   ·exact h.elim
theorem c7J{ops:Array Oper}:∀ {l:List Oper} {ds:List a8g} {ys:List r5} {T:List D} {avs:List AV} {S:b9} {H:AHeap} {older:List (List D×b9)} {Gs:List AHeap} {R:Fz} {Q:List D→b9→Prop},P8 H→G4 E R S H→C8 E R T avs→b9O E R avs older Gs→DsR P E ops R ds ys→
  b4r P (DF E (J6 P E w0)) ops l ds T S older Q→a6V P E w0 ops l ys avs H Gs (a4O E R T.length Q)
 | [],ds,ys,T,avs,S,H,older,Gs,R,Q,F,hC,hT,hO,hD,h=>by
  simp only[b4r,a5a]at h
  simp only[a6V,D0]
  exact⟨F,R,S,T,Fz.le_refl R,hC,hT,rfl,h⟩
 |o::l,ds,ys,T,avs,S,H,older,Gs,R,Q,F,hC,hT,hO,hD,h=>by
  simp only[b4r,a5a,b9S]at h
  simp only[a6V,D0,Z5]
  rw[hD.anc]at h
  have hlen:=hO.length
  cases hanc:a1A ys o.after.toList 0 with
  |none=>rw[hanc]at h;exact h
  |some anc=>
   simp only[hanc]at h ⊢
   rw[hD.all (fun j x y e1 e2=>by rw[e1]) 0]at h
   split at h
   ·rename_i hap
    rw[if_pos hap]
    have next:∀ {d:D} {v:AV} {R':Fz} {S':b9} {H':AHeap} {ds':List a8g} {ys':List r5} {older':List (List D×b9)} {Gs':List AHeap},R.le R'→P8 H'→G4 E R' S' H'→Rp E R' d v→b9O E R' (K1 avs o.dst v) older' Gs'→DsR P E ops R' ds' ys'→
      b4r P (DF E (J6 P E w0)) ops l ds' (b5k T o.dst d) S' older' Q→a6V P E w0 ops l ys' (K1 avs o.dst v) H' Gs' (a4O E R T.length Q):=by
     intro d v R' S' H' ds' ys' older' Gs' hle F' hC' hd hO' hD' h'
     have:=c7J F' hC' (b7o (C8.le hle _ _ hT) o.dst hd) hO' hD' h'
     rw[b6j]at this
     exact a7K (fun _ _=>a4O.le hle) this
    have ent0:∀ {v:AV} {T':List D} {S':b9},d7L P E ops R ⟨⟨o,anc,[],A8,older.length,0,false,[]⟩,T',S'⟩ ⟨o,anc,avs,v,Gs.length,0,false,[]⟩:=fun{v T' S'}=>⟨rfl,rfl,hlen,rfl,rfl,fun e=>by cases e⟩
    cases hx:a1m o with
    |some x=>
     simp only[hx]at h ⊢
     obtain⟨hk,hv⟩:=a4V (P:=P) (E:=E) hx
     refine next (Fz.le_refl R) F hC (A1 hT x) (hO.put fun RG T' S' G hm hle hG hT' d hd=> ?_) (hD.snoc ent0) h
     obtain⟨v',h1,h2⟩:=b0j hT' hG hd
     have:=h2 G (hG.agr _)
     rw[hv]at this
     cases this
     exact h1
    |none=>
     simp only[hx]at h ⊢
     rcases hk:r9 P o with _|_|k
     ·simp only[hk]at h ⊢
      unfold b7 at h
      split at h
      ·rename_i d hd
       obtain⟨v,h1,h2⟩:=b0j hT hC hd
       have hv:=h2 H (hC.agr _)
       rw[hv]
       refine next (Fz.le_refl R) F hC h1 (hO.put fun RG T' S' G hm hle hG hT' d' hd'=> ?_) (hD.snoc ent0) h
       obtain⟨v',g1,g2⟩:=b0j hT' hG hd'
       have:=d7t hk (g2 G (hG.agr _)) (H:=H)
       rw[hv]at this
       cases this
       exact g1
      ·exact h.elim
     ·simp only[hk]at h ⊢
      unfold b7 at h
      split at h
      ·rename_i d hd
       obtain⟨v,h1,h2⟩:=b0j hT hC hd
       have hv:=h2 H (hC.agr _)
       rw[hv]
       obtain⟨hs,h⟩:=h
       rw[hD.lo,hlen]at hs h
       refine⟨d6C hC hv hO hs, ?_⟩
       refine next (Fz.le_refl R) F hC h1 (hO.put fun RG T' S' G hm hle hG hT' d' hd'=> ?_) (hD.snoc ?_) h
       ·exact e0i hC hv hs hm hle hG hT' hd'
       ·exact⟨rfl,rfl,rfl,rfl,rfl,fun _=>⟨by simp only;omega,R,Fz.le_refl R,fun H' hA=>h2 H' hA⟩⟩
      ·exact h.elim
     ·simp only[hk]at h ⊢
      rw[hD.all (fun j x y e1 e2=>by rw[e2]) 0]at h
      split at h
      ·rename_i hw
       rw[if_pos hw]
       refine a5w b1K (c7Q F hC hT h) ?_
       rintro v H' ⟨F',R',S',d,hle,hC',hd,ha,h'⟩
       refine⟨c9w hle hC' hD ha, ?_⟩
       refine next (older':=(b5k T o.dst .any,S)::b3q P ops o 0 older) hle F' hC' hd ⟨⟨R,hle,hC,b7o hT o.dst b2Y⟩,hO.any hle⟩ ((hD.le hle).snoc ?_) h'
       exact⟨rfl,rfl,hlen,rfl,rfl,fun e=>by cases e⟩
      ·exact h.elim
   ·exact h.elim
end
end
section
def b7C(ops:Array Oper):List (Nat×Nat):=(List.range ops.size).flatMap fun i=>((ops.getD i default).after.toList.filter fun e=>Region.binds .any e).map fun e=>(e.on,i)
def d3u(P:Program)(ops:Array Oper):List Nat:=(List.range ops.size).filter fun i=>decide (2≤r9 P (ops.getD i default))&&(a1m (ops.getD i default)).isNone
def d2o(es:List (Nat×Nat))(j:Nat):Nat→List Nat→Bool
 |0,L=>L.contains j
 |n+1,L=>L.contains j||d2o es j n ((es.filter fun xy=>L.contains xy.1&& !L.contains xy.2).map (·.2)++L)
def d6t:List Nat→List (Nat×Nat)
 | []=>[]
 |i::l=>l.map (fun j=>(i,j))++d6t l
def c8z(n:Nat)(es:List (Nat×Nat))(ws:List Nat):Option (Nat×Nat):=
 (d6t ws).find? fun ij=>(decide (ij.1<n)&&decide (ij.2<n)&&ij.1 != ij.2)&&(!d2o es ij.2 n [ij.1]&& !d2o es ij.1 n [ij.2])
def d4S(n:Nat)(es:List (Nat×Nat)):Nat→List Nat→List Nat
 |0,done=>done
 |f+1,done=>match (List.range n).find? fun i=> !done.contains i&&es.all fun xy=>xy.2 != i||done.contains xy.1 with
  |some i=>d4S n es f (done++[i])
  |none=>done
def b3S(n:Nat)(es:List (Nat×Nat))(ws:List Nat):Nat→List (Nat×Nat)→List (List Nat×List (Nat×Nat))
 |0,ex=>[(d4S n (es++ex) n [],ex)]
 |f+1,ex=>match c8z n (es++ex) ws with
  |none=>[(d4S n (es++ex) n [],ex)]
  |some (i,j)=>b3S n es ws f (ex++[(i,j)])++b3S n es ws f (ex++[(j,i)])
def d6k(ops:Array Oper)(l:List (List Nat×List (Nat×Nat))):Bool:=b1I ops&&c7m ops&&l.all fun oe=>a4s ops.size oe.1 oe.2
def d5a(P:Program)(G:DW)(ops:Array Oper)(T:List D)(S:b9)(Q:List D→b9→Prop):List (List Nat×List (Nat×Nat))→Prop
 | []=>True
 |oe::l=>b4r P G (A0 ops oe.1 oe.2) (A0 ops oe.1 oe.2).toList [] T S [] Q∧d5a P G ops T S Q l
def e1f(P:Program)(G:DW)(ops:Array Oper)(T:List D)(S:b9)(Q:List D→b9→Prop)(l:List (List Nat×List (Nat×Nat))):Prop:=
 if d6k ops l then d5a P G ops T S Q l else False
def e1h(P:Program)(G:DW)(x:Bool)(ops:Array Oper)(T:List D)(S:b9)(Q:List D→b9→Prop):Prop:=match c8z ops.size (b7C ops) (d3u P ops) with
 |none=>b4r P G ops ops.toList [] T S [] Q
 |some _=>x=false∧e1f P G ops T S Q (b3S ops.size (b7C ops) (d3u P ops) (ops.size*ops.size) [])
section
variable{P:Program}{E:j6}{w0:World}
theorem b4d{n:Nat}{es:List (Nat×Nat)}{ws:List Nat}{p:Nat→Nat}(hinj:∀i j,i<n→j<n→p i=p j→i=j):∀(f:Nat) (ex:List (Nat×Nat)),(∀xy∈ex,p xy.1<p xy.2)→∃oe∈b3S n es ws f ex,∀xy∈oe.2,p xy.1<p xy.2
 |0,ex,h=>⟨_,List.mem_singleton.2 rfl,h⟩
 |f+1,ex,h=>by
  simp only[b3S]
  split
  ·exact⟨_,List.mem_singleton.2 rfl,h⟩
  ·rename_i i j e
   unfold c8z at e
   have e:=List.find?_some e
   simp only[Bool.and_eq_true,decide_eq_true_eq,bne_iff_ne,ne_eq]at e
   obtain⟨⟨⟨hi,hj⟩,hn⟩,_⟩:=e
   have:¬p i=p j:=fun e=>hn (hinj i j hi hj e)
   rcases Nat.lt_or_ge (p i) (p j) with hl|hl
   ·obtain⟨oe,h1,h2⟩:=b4d hinj f (ex++[(i,j)]) (by
     intro xy hxy
     rcases List.mem_append.1 hxy with hxy|hxy
     ·exact h xy hxy
     ·rw[List.mem_singleton.1 hxy];exact hl)
    exact⟨oe,List.mem_append_left _ h1,h2⟩
   ·obtain⟨oe,h1,h2⟩:=b4d hinj f (ex++[(j,i)]) (by
     intro xy hxy
     rcases List.mem_append.1 hxy with hxy|hxy
     ·exact h xy hxy
     ·rw[List.mem_singleton.1 hxy];show p j<p i;omega)
    exact⟨oe,List.mem_append_right _ h1,h2⟩
theorem c7F{G:DW}{ops:Array Oper}{T:List D}{S:b9}{Q:List D→b9→Prop}:∀ {l:List (List Nat×List (Nat×Nat))},d5a P G ops T S Q l→∀oe∈l,b4r P G (A0 ops oe.1 oe.2) (A0 ops oe.1 oe.2).toList [] T S [] Q
 | [],_,_,h=>by cases h
 |_::l,h,oe,hm=>by
  rcases List.mem_cons.1 hm with e|hm
  ·subst e;exact h.1
  ·exact c7F h.2 oe hm
theorem e0b(hm:P.follows .mixedOrders=true){id:Nat}{ops:Array Oper}{T:List D}{avs:List AV}{S:b9}{H:AHeap}{R:Fz}{Q:o6→List D→b9→Prop}(F:P8 H)(hC:G4 E R S H)(hT:C8 E R T avs)
  (h:e1f P (DF E (J6 P E w0)) ops T S (Q .normal) (b3S ops.size (b7C ops) (d3u P ops) (ops.size*ops.size) [])):H9 P E w0 (.region id ops true) avs H (fun ex avs' H'=>a4O E R T.length (Q ex) avs' H'):=by
 unfold e1f at h
 split at h
 ·rename_i hok
  unfold d6k at hok
  simp only[Bool.and_eq_true]at hok
  refine d7W hm _ hok.1.1 hok.1.2 hok.2 (fun p _ hinj=>b4d hinj _ _ (fun xy hx=>by cases hx)) fun oe hoe=> ?_
  exact c7J (ds:=[]) (ys:=[]) (older:=[]) (Gs:=[]) F hC hT trivial trivial (c7F h oe hoe)
 ·exact h.elim
end
end
end Go.Am
end
