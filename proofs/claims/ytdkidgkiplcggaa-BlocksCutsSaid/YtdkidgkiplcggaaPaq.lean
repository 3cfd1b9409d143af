/-
  BlocksCutsSaid: part Paq of its proof.
-/
import Derived.Test.YtdkidgkiplcggaaPap
set_option linter.unusedVariables false
set_option linter.unusedSimpArgs false
set_option maxRecDepth 100000
section
namespace Go.Am
section
variable{P:Program}{E:g8}{R:Fz}{S:b5}{H:AHeap}
theorem b1t{cs vs:List D}{i:Nat}(h:i+vs.length≤cs.length):j4 cs i vs=cs.take i++(vs++cs.drop (i+vs.length)):=by
 refine List.ext_getElem? fun j=> ?_
 rw[a1n,List.getElem?_append,List.getElem?_append,List.length_take,Nat.min_eq_left (by omega)]
 by_cases h1:j<i
 ·rw[if_neg (by omega),if_pos h1,List.getElem?_take,if_pos h1]
 ·rw[if_neg h1]
  by_cases h2:j - i<vs.length
  ·rw[if_pos ⟨by omega,by omega,by omega⟩,if_pos h2]
  ·rw[if_neg (by omega),if_neg h2,List.getElem?_drop]
   congr 1;omega
theorem b9H{o:Id}{i n m:Nat}{cs:List AV}(h:F4 E H o i n=some cs)(hm:m≤n):F4 E H o i m=some (cs.take m):=by
 unfold F4 at h ⊢
 split at h
 ·cases h
  rw[if_pos (by omega),List.take_nil]
 ·by_cases h0:m=0
  ·rw[if_pos h0,h0,List.take_zero]
  ·rw[if_neg h0]
   unfold B5 at h ⊢
   split at h
   ·split at h
    ·cases h
     rw[if_pos (by omega),List.take_take,Nat.min_eq_left hm]
    ·cases h
   ·cases h
theorem b1B(hC:s0 E R S H){sz:Nat}{x:D}{v:AV}(hx:Rp E R x v){rows:List (List D)}(h:rowsS S sz x=some rows):
  (∀row∈rows,row.length=sz)∧a1J v=some rows.length∧∃cs,s7 E R rows.flatten cs∧cs.all m9=true∧∀n,n≤rows.length→U5 E H sz n v=some (cs.take (n*sz)):=by
 have gen:∀ {rows},C1 S sz x=some rows→_:=fun h'=>b8D hC hx h'
 have low:∀ {rows:List (List D)},C1 S sz x=some rows→(∀row∈rows,row.length=sz)∧a1J v=some rows.length∧∃cs,s7 E R rows.flatten cs∧cs.all m9=true∧∀n,n≤rows.length→U5 E H sz n v=some (cs.take (n*sz)):=by
  intro rows h'
  obtain⟨g1,g2,cs,g3,g4,g5⟩:=gen h'
  refine⟨g1,g2,cs,g3,g4,fun n hn=> ?_⟩
  obtain⟨k1,k2⟩:=g5 H (hC.agr _)
  have hcl:=g3.length
  rw[r6 g1]at hcl
  cases v<;>simp only[a1J,Option.some.injEq]at g2<;>try (cases g2;done)
  ·
   rename_i s
   simp only[U5,Option.some.injEq]at k1 ⊢
   have:cs.length=s.length:=by rw[←k1,List.length_map, ←g2,List.take_length]
   rw[←k1, ←List.map_take,List.take_take]
   have e:rows.length*sz=rows.length:=by rw[←hcl,this,g2]
   by_cases h0:rows.length=0
   ·have:n=0:=by omega
    subst this
    simp
   ·have:sz=1:=Nat.eq_of_mul_eq_mul_left (Nat.pos_of_ne_zero h0) (by rw[e,Nat.mul_one])
    subst this
    rw[Nat.mul_one,Nat.min_eq_left hn]
  ·
   simp only[U5,Option.some.injEq]at k1 ⊢
   rw[←k1,List.take_nil]
  ·rename_i o i len cap ex z
   have:=k2 _ _ _ _ _ _ rfl
   rw[g2]at this
   exact b9H this (Nat.mul_le_mul_right _ hn)
 cases x<;>simp only[rowsS]at h<;>try (exact low h)
 rename_i s
 split at h
 ·rename_i hsz
  cases h
  subst hsz
  simp only[Rp]at hx
  subst hx
  clear gen low
  have hfl:(s.map fun b=>[D.int .u8 b.toNat]).flatten=s.map fun b=>D.int .u8 b.toNat:=by
   clear hC
   induction s with
   |nil=>rfl
   |cons a l ih=>rw[List.map_cons,List.flatten_cons,ih];rfl
  refine⟨fun row hr=> ?_,by rw[List.length_map];rfl,s.map fun b=> .int .u8 b.toNat, ?_, ?_,fun n hn=> ?_⟩
  ·obtain⟨b,_,rfl⟩:=List.mem_map.1 hr;rfl
  ·rw[hfl]
   refine a3f (by rw[List.length_map,List.length_map]) fun i d v h1 h2=> ?_
   rw[List.getElem?_map]at h1 h2
   cases hb:s[i]? with
   |none=>rw[hb]at h1;cases h1
   |some b=>rw[hb]at h1 h2;cases h1;cases h2;simp only[Rp]
  ·refine List.all_eq_true.2 fun v hv=> ?_
   obtain⟨b,_,rfl⟩:=List.mem_map.1 hv;rfl
  ·simp only[U5,Nat.mul_one,List.map_take]
 ·cases h
theorem c5h(F:B1 H)(hC:s0 E R S H){sz bytes:Nat}(hmz:sz<H3){s:D}{v:AV}(hs:Rp E R s v){news:List (List D)}{cs:List AV}(hl:∀row∈news,row.length=sz)(hr:s7 E R news.flatten cs)(hsc:cs.all m9=true){K:D→b5→Prop}(h:a0h S sz bytes s news K):
  a2g (J6 E H sz bytes v news.length cs) (M6 E R K):=by
 have hcl:=hr.length
 rw[r6 hl]at hcl
 unfold a0h at h
 split at h
 ·have hs':=hs
  simp only[Rp]at hs
  subst hs
  split at h
  ·rename_i e
   subst e
   unfold J6
   rw[if_pos hcl]
   simp only
   rw[if_pos (by rfl)]
   exact⟨F,R,S,_,Fz.le_refl R,hC,hs',h⟩
  ·rename_i e
   obtain⟨hb,h⟩:=h
   have h0:news.length≠0:=fun e'=>e (List.length_eq_zero_iff.1 e')
   unfold J6
   rw[if_pos hcl]
   simp only
   rw[if_neg h0,if_pos hb]
   obtain⟨a,b,c,d⟩:=F.newCells cs
   exact b2a F hC d (hC.stays d b) a (fun p hp=>by cases hp) hl hr hsc hmz (Nat.le_refl _) (Nat.le_refl _) h
 ·rename_i k i len cap ex z
  have hs':=hs
  simp only[Rp]at hs
  obtain⟨hzm,rfl⟩:=hs
  split at h
  ·rename_i e
   subst e
   unfold J6
   rw[if_pos hcl]
   simp only
   rw[if_pos (by rfl)]
   exact⟨F,R,S,_,Fz.le_refl R,hC,hs',h⟩
  ·rename_i e
   have h0:news.length≠0:=fun e'=>e (List.length_eq_zero_iff.1 e')
   split at h
   ·rename_i o hk
    split at h
    ·rename_i hz
     obtain⟨rfl,hsz,hlen⟩:=hz
     obtain⟨hb,h⟩:=h
     obtain⟨h1,⟨pre,h2⟩,h3,h4,h5⟩:=hC.cells hk (.inl (by rw[hsz];exact hzm))
     rw[hsz]at h4
     have hal:=h5.length
     rw[r6 h4]at hal
     have hle:i*z+len*z≤o.acs.length:=by rw[hal, ←Nat.add_mul];exact Nat.mul_le_mul_right _ hlen
     obtain⟨H',q,e1,e2,e3,e4,F',e6,_⟩:=F.growN (E:=E) h2 (n:=len) (cap:=cap) (sz:=z) (ex:=ex) hle cs hcl h0 hsc hb
     rw[e1]
     have hd:∀row∈o.rows.drop i,row.length=z:=fun row hr=>h4 row (List.mem_of_mem_drop hr)
     refine b2a F (hC.less (b5.erase_le S k)) F' (hC.but F' e4 hk (fun cs e=>by rw[h1]at e;cases e)) e3 (fun p hp=>(e6 p hp).elim (fun e=>by rw[e];exact h1) (fun e=>hC.safe k o hk p (by rw[L5 h2];exact e))) (fun row hr=> ?_) ?_ ?_ hmz ?_ (Nat.le_refl _) h
     ·rcases List.mem_append.1 hr with hr|hr
      ·exact hd row (List.mem_of_mem_take hr)
      ·exact hl row hr
     ·rw[List.flatten_append, ←Z1 hd, ←a0T h4]
      exact((h5.drop _).take _).append hr
     ·rw[List.all_append,G8 (W5 h3 _) _,hsc];rfl
     ·rw[List.length_append,List.length_take,List.length_drop];omega
    ·exact h.elim
   ·exact h.elim
 ·rename_i rows z
  have hs':=hs
  simp only[Rp]at hs
  split at h
  ·rename_i e
   subst e
   unfold J6
   rw[if_pos hcl]
   rcases hs with ⟨rfl,rfl⟩|⟨o,j,cap,ex,z',rfl,_⟩<;>simp only<;>rw[if_pos (by rfl)]<;>exact⟨F,R,S,_,Fz.le_refl R,hC,hs',h⟩
  ·exact h.elim
 ·rename_i rows more z
  have hs':=hs
  simp only[Rp]at hs
  split at h
  ·rename_i e
   subst e
   unfold J6
   rw[if_pos hcl]
   obtain⟨o,j,cap,ex,z',all,rfl,_⟩:=hs
   simp only
   rw[if_pos (by rfl)]
   exact⟨F,R,S,_,Fz.le_refl R,hC,hs',h⟩
  ·exact h.elim
 ·rename_i k rows z
  have hs':=hs
  simp only[Rp]at hs
  obtain⟨hzm,j,cap,ex,all,rfl,q1,q2,q3,q4,q5,q6⟩:=hs
  split at h
  ·rename_i e
   subst e
   unfold J6
   rw[if_pos hcl]
   simp only
   rw[if_pos (by rfl)]
   exact⟨F,R,S,_,Fz.le_refl R,hC,hs',h⟩
  ·rename_i e
   have h0:news.length≠0:=fun e'=>e (List.length_eq_zero_iff.1 e')
   split at h
   ·rename_i o hk
    split at h
    ·rename_i hz
     obtain⟨rfl,htb⟩:=hz
     obtain⟨hsz,hrs⟩:=c8p htb
     obtain⟨hb,h⟩:=h
     obtain⟨all',pre,h1,h2⟩:=hC.tip hk hsz hrs
     rw[q3]at h1
     cases h1
     obtain⟨H',q,e1,e2,e3,e4,F',e6,e7⟩:=F.growN (E:=E) h2 (i:=j) (n:=rows.length) (cap:=cap) (sz:=z) (ex:=ex) (by omega) cs hcl h0 hsc hb
     obtain⟨w7,p7,e7⟩:=e7 q6
     rw[e1]
     have hC':=hC.but F' e4 hk (fun cs' e=>by rw[q3]at e;cases e;exact⟨w7,p7,e7⟩)
     have hnew:s7 E R (rows++news).flatten ((all.drop j).take (rows.length*z)++cs):=by
      rw[List.flatten_append]
      exact(E5.1 q4).append hr
     have hsc':((all.drop j).take (rows.length*z)++cs).all m9=true:=by rw[List.all_append,q5,hsc];rfl
     have hrl:∀row∈rows++news,row.length=z:=fun row hr=>by
      rcases List.mem_append.1 hr with hr|hr
      ·exact q2 row hr
      ·exact hl row hr
     have hfr:=hC.fresh
     have hf1:(S.erase k) H.next=none:=by
      cases e:(S.erase k) H.next with
      |none=>rfl
      |some x=>have:=b5.erase_le S k _ _ e;rw[hfr.2]at this;cases this
     have hle:R.le fun i=>if i=H.next then some ((all.drop j).take (rows.length*z)++cs) else R i:=fun i cs' e=>by
      show(if i=H.next then _ else R i)=some cs'
      rw[if_neg]
      ·exact e
      ·rintro rfl;rw[hfr.1]at e;cases e
     refine⟨F',_,S.erase k, .lst (rows++news) z,hle,⟨F',fun i cs' e=> ?_,fun i x e=> ?_,fun i x e p hp=> ?_,fun i x e hz m sr rws hr'=>(hC'.walks i x e hz m sr rws hr').le hle⟩, ?_,h⟩
     ·replace e:(if i=H.next then some ((all.drop j).take (rows.length*z)++cs) else R i)=some cs':=e
      split at e
      ·rename_i hi;subst hi;cases e;exact⟨true,q,e3⟩
      ·exact hC'.frozen i cs' e
     ·have hne:i≠H.next:=fun e'=>by rw[e',hf1]at e;cases e
      rcases hC'.own i x e with ⟨g1,g2⟩|⟨a,b,cs',p,c,d⟩|⟨a,g1,b⟩
      ·exact .inl ⟨by show(if i=H.next then _ else R i)=none;rw[if_neg hne];exact g1,g2.imp (a8u.le hle) (b7q.le hle)⟩
      ·exact .inr (.inl ⟨a,b,cs',p,hle _ _ c,d⟩)
      ·exact .inr (.inr ⟨a,by show(if i=H.next then _ else R i)=none;rw[if_neg hne];exact g1,b⟩)
     ·show(if p=H.next then _ else R p)=none
      rw[if_neg]
      ·exact hC'.safe i x e p hp
      ·rintro rfl
       obtain⟨y,y1,_⟩:=hC'.alive e
       have hp':H.next∈s9 y:=by unfold a8a at hp;rw[y1]at hp;exact hp
       have:=F'.kin i H.next y _ y1 hp' e3
       cases this
     ·simp only[Rp]
      refine .inr ⟨.new H.next,0,rows.length+news.length,false,z,by rw[List.length_append],rfl,by rw[List.length_append];exact Nat.le_refl _,hrl, .inr ⟨_,if_pos rfl, ?_⟩⟩
      have hlen:=hnew.length
      rw[r6 hrl]at hlen
      have ht:(((all.drop j).take (rows.length*z)++cs).drop 0).take ((rows++news).length*z)=(all.drop j).take (rows.length*z)++cs:=by rw[List.drop_zero,List.take_of_length_le (Nat.le_of_eq hlen)]
      rw[ht]
      exact⟨a0b.le hle _ _ (E5.2 hnew),hsc'⟩
    ·exact h.elim
   ·exact h.elim
 ·exact h.elim
theorem b9m(F:B1 H)(hC:s0 E R S H){sT xT e:TypeId}{sz bytes:Nat}{z:List D}(he:a4j P sT=some e)(hsz:A4 P e=some sz)(hby:a5X P e=some bytes)(hz:zeroCells P e=some z)(hzl:z.length=sz)(hmz:sz<H3)
  (hxT:(∃u,P.underlying xT=some (.slice u))∨P.underlying xT=some .string) {s x:D} {v w:AV} (hs:Rp E R s v) (hx:Rp E R x w) {K:D→b5→Prop} (h:u4 S sz bytes s x K):a2g (Y8 P E H sT v xT w) (M6 E R K):=by
 obtain⟨zv,hz1,hz2,_⟩:=b1X (E:=E) (R:=R) hz
 have hzl':zv.cells.length=sz:=by rw[hz2.length,hzl]
 unfold u4 at h
 split at h
 ·rename_i news hn
  obtain⟨g1,g2,cs,g3,g4,g5⟩:=b1B hC hx hn
  have hcl:=g3.length
  rw[r6 g1]at hcl
  have hf:=g5 news.length (Nat.le_refl _)
  rw[List.take_of_length_le (by omega)]at hf
  have hg:=c5h (bytes:=bytes) F hC hmz hs g1 g3 g4 h
  unfold Y8
  simp only[he,hsz,hby,hz1,Option.bind_eq_bind,Option.bind_some]
  rw[if_pos hzl']
  rcases hxT with ⟨u,hu⟩|hu
  ·simp only[hu,g2,hf,Option.bind_some];exact hg
  ·simp only[hu,g2,hf,Option.bind_some];exact hg
 ·exact h.elim
theorem a5z{R:Fz}{S:b5}{H:AHeap}(hC:s0 E R S H){k:Nat}{o:A2}(hk:S k=some o){i len cap:Nat}{ex:Bool}{sz:Nat}{v:AV}(hv:Rp E R (.raw k i len cap ex sz) v)(hsz:o.sz=sz)(hl:i+len≤o.rows.length)(hc:len≤cap):
  Rp E (fun j=>if j=k then some o.acs else R j) (.lst ((o.rows.drop i).take len) sz) v:=by
 simp only[Rp]at hv
 obtain⟨hzm,rfl⟩:=hv
 have hom:o.sz<H3:=by rw[hsz];exact hzm
 obtain⟨h1,⟨pre,h2⟩,h3,h4,h5⟩:=hC.cells hk (.inl hom)
 obtain⟨_,hle⟩:=hC.freeze hk (.inl hom)
 rw[hsz]at h4
 have hlen:((o.rows.drop i).take len).length=len:=by rw[List.length_take,List.length_drop];omega
 have hd:∀row∈o.rows.drop i,row.length=sz:=fun row hr=>h4 row (List.mem_of_mem_drop hr)
 simp only[Rp]
 refine .inr ⟨.new k,i*sz,cap,ex,sz,by rw[hlen],rfl,by rw[hlen];exact hc,fun row hr=>hd row (List.mem_of_mem_take hr), .inr ⟨o.acs, ?_, ?_,G8 (W5 h3 _) _⟩⟩
 ·show(if k=k then some o.acs else R k)=some o.acs
  rw[if_pos rfl]
 ·rw[hlen,E5, ←Z1 hd, ←a0T h4]
  exact s7.le hle _ _ ((h5.drop _).take _)
theorem c3I(F:B1 H)(hC:s0 E R S H){sT xT e:TypeId}{sz bytes:Nat}{z:List D}{ik:IntKind}(he:a4j P sT=some e)(hsz:A4 P e=some sz)(hby:a5X P e=some bytes)(hz:zeroCells P e=some z)(hzl:z.length=sz)(hmz:sz<H3)
  (hxT:P.underlying xT=some (.int ik)) {s x:D} {v w:AV} (hs:Rp E R s v) (hx:Rp E R x w) {K:D→b5→Prop} (h:b6P S sz bytes z s x K):a2g (Y8 P E H sT v xT w) (M6 E R K):=by
 obtain⟨zv,hz1,hz2,hz3⟩:=b1X (E:=E) (R:=R) hz
 have hzl':zv.cells.length=sz:=by rw[hz2.length,hzl]
 unfold b6P at h
 split at h
 ·rename_i k l
  split at h
  ·rename_i hc
   simp only[Rp]at hx
   subst hx
   have hg:=c5h (bytes:=bytes) (news:=List.replicate l.toNat z) (cs:=rep zv.cells l.toNat) F hC hmz hs (fun row hr=>by rw[List.eq_of_mem_replicate hr];exact hzl) (b1G hz2 _) (a6v hz3 _) h
   rw[List.length_replicate]at hg
   unfold Y8
   simp only[he,hsz,hby,hz1,Option.bind_eq_bind,Option.bind_some,hxT,R7]
   rw[if_pos hzl',if_pos hc]
   exact hg
  ·exact h.elim
 ·exact h.elim
theorem c8j(F:B1 H)(hC:s0 E R S H){dT e:TypeId}{sz:Nat}(he:a4j P dT=some e)(hsz:A4 P e=some sz){d x:D}{v w:AV}(hd:Rp E R d v)(hx:Rp E R x w){K:D→b5→Prop}(h:c7i S sz d x K):a2g (a8h P E H dT v w) (M6 E R K):=by
 unfold c7i at h
 unfold a8h
 simp only[he,hsz,Option.bind_eq_bind,Option.bind_some]
 split at h
 ·simp only[Rp]at hd
  subst hd
  split at h
  ·rename_i rows hr
   obtain⟨g1,g2,_⟩:=b1B hC hx hr
   simp only[g2,Option.bind_some]
   exact⟨F,R,S, .int .i64 0,Fz.le_refl R,hC,by simp only[Rp],h⟩
  ·exact h.elim
 ·rename_i k i len cap ex z
  simp only[Rp]at hd
  obtain⟨hzm,rfl⟩:=hd
  split at h
  ·rename_i rows o hr hk
   split at h
   ·rename_i hc
    obtain⟨rfl,hoz,hlen,hz0⟩:=hc
    obtain⟨g1,g2,cs,g3,g4,g5⟩:=b1B hC hx hr
    simp only[g2,Option.bind_some,g5 _ (Nat.min_le_left _ _)]
    obtain⟨h1,⟨pre,h2⟩,h3,h4,h5⟩:=hC.cells hk (.inl (by rw[hoz];exact hzm))
    rw[hoz]at h4
    have hal:=h5.length
    rw[r6 h4]at hal
    generalize hn:min rows.length len=n at*
    have hnl:n≤len:=by omega
    have hnr:n≤rows.length:=by omega
    have hcl:=g3.length
    rw[r6 g1]at hcl
    have hnews:s7 E R (rows.take n).flatten (cs.take (n*z)):=by rw[←Z1 g1];exact g3.take _
    have hnewl:(cs.take (n*z)).length=n*z:=by rw[List.length_take,hcl];exact Nat.min_eq_left (Nat.mul_le_mul_right _ hnr)
    have hle:i*z+n*z≤o.acs.length:=by rw[hal, ←Nat.add_mul];exact Nat.mul_le_mul_right _ (by omega)
    have htl:∀row∈rows.take n,row.length=z:=fun row hr=>g1 row (List.mem_of_mem_take hr)
    have htn:(rows.take n).length=n:=by rw[List.length_take];omega
    have hflat:(o.rows.take i++(rows.take n++o.rows.drop (i+n))).flatten=j4 o.rows.flatten (i*z) (rows.take n).flatten:=by
     rw[b1t (by rw[r6 htl,htn, ←Nat.add_mul,r6 h4];exact Nat.mul_le_mul_right _ (by omega)),r6 htl,htn, ←Nat.add_mul,Z1 h4,a0T h4,List.flatten_append,List.flatten_append]
    have hrl:∀row∈o.rows.take i++(rows.take n++o.rows.drop (i+n)),row.length=z:=fun row hr=>by
     rcases List.mem_append.1 hr with hr|hr
     ·exact h4 row (List.mem_of_mem_take hr)
     ·rcases List.mem_append.1 hr with hr|hr
      ·exact htl row hr
      ·exact h4 row (List.mem_of_mem_drop hr)
    by_cases h0:n=0
    ·subst h0
     have e0:cs.take (0*z)=[]:=by rw[Nat.zero_mul,List.take_zero]
     rw[e0]
     refine⟨F,R,_, .int .i64 (0:Nat),Fz.le_refl R, ?_,by simp only[Rp],h o.acs⟩
     refine hC.put h1 h2 (fun p hp=>hC.safe k o hk p (by rw[L5 h2];exact hp)) h3 hrl ?_
     show s7 E R (o.rows.take i++(rows.take 0++o.rows.drop (i+0))).flatten _
     rw[List.take_zero,List.nil_append,Nat.add_zero,List.take_append_drop]
     exact h5
    ·have hne:cs.take (n*z)≠[]:=fun e=>by
      rw[e]at hnewl
      simp only[List.length_nil]at hnewl
      have:=Nat.mul_pos (Nat.pos_of_ne_zero h0) hz0
      omega
     obtain⟨H',e1,e2,e3,e4,F'⟩:=F.stores h2 (n:=i*z) hne (by rw[hnewl];exact hle) (G8 g4 _)
     rw[e1]
     refine⟨F',R,_, .int .i64 (n:Nat),Fz.le_refl R, ?_,by simp only[Rp],h (z7 o.acs (i*z) (cs.take (n*z)))⟩
     have hS:S.set k ⟨z,o.rows.take i++(rows.take n++o.rows.drop (i+n)),z7 o.acs (i*z) (cs.take (n*z))⟩=(S.erase k).set k ⟨z,o.rows.take i++(rows.take n++o.rows.drop (i+n)),z7 o.acs (i*z) (cs.take (n*z))⟩:=by
      funext j;simp only[b5.set,b5.erase];split<;>rfl
     rw[hS]
     refine(hC.but F' e3 hk (fun cs e=>by rw[h1]at e;cases e)).put h1 (pre:=[]) e2 (fun p hp=>by cases hp) (O0 h3 (G8 g4 _)) hrl ?_
     show s7 E R (o.rows.take i++(rows.take n++o.rows.drop (i+n))).flatten _
     rw[hflat]
     exact a0V h5 hnews
   ·exact h.elim
  ·exact h.elim
 ·exact h.elim
theorem c8g(F:B1 H)(hC:s0 E R S H){t e:TypeId}{sz bytes:Nat}{z:List D}(he:a4j P t=some e)(hsz:A4 P e=some sz)(hby:a5X P e=some bytes)(hz:zeroCells P e=some z)(hzl:z.length=sz)(hmz:sz<H3){l c:D}{vl vc:AV}(hl:Rp E R l vl)(hc:Rp E R c vc){K:D→b5→Prop}(h:c6r S sz bytes z l c K):
  a2g (I6 P H t vl vc) (M6 E R K):=by
 obtain⟨zv,hz1,hz2,hz3⟩:=b1X (E:=E) (R:=R) hz
 have hzl':zv.cells.length=sz:=by rw[hz2.length,hzl]
 unfold c6r at h
 split at h
 ·rename_i k1 nl k2 nc
  simp only[Rp]at hl hc
  subst hl hc
  split at h
  ·rename_i hb
   obtain⟨h0,h1,h2,h3⟩:=hb
   unfold I6
   simp only[he,hsz,hby,hz1,R7,Option.bind_eq_bind,Option.bind_some]
   rw[if_pos ⟨i6 (by omega) (by omega),i6 (by omega) (by omega),h0,h1,h2,hzl'⟩]
   obtain⟨a,b,c',d⟩:=F.newCells (rep zv.cells nc.toNat)
   exact b2a F hC d (hC.stays d b) a (fun p hp=>by cases hp) (fun row hr=>by rw[List.eq_of_mem_replicate hr,hzl]) (b1G hz2 _) (a6v hz3 _) hmz (by rw[List.length_replicate];omega) (by omega) h
  ·exact h.elim
 ·exact h.elim
theorem c7A(F:B1 H)(hC:s0 E R S H){s t e:TypeId}(hs:P.underlying s=some .string)(ht:P.underlying t=some (.slice e))(he:P.underlying e=some (.int .u8)){x:D}{v:AV}(hx:Rp E R x v){K:D→b5→Prop}(h:c3E S x K):
  a2g (J3 P E H s t v) (M6 E R K):=by
 cases x<;>simp only[c3E]at h<;>try (exact h.elim)
 rename_i u
 split at h
 ·rename_i hl
  have hx':=hx
  simp only[Rp]at hx'
  subst hx'
  have hr:rowsS S 1 (.str u)=some (u.map fun b=>[.int .u8 b.toNat]):=rfl
  obtain⟨g1,g2,cs,g3,g4,g5⟩:=b1B hC hx hr
  have hf:=g5 _ (Nat.le_refl _)
  have hcl:=g3.length
  rw[r6 g1]at hcl
  rw[List.take_of_length_le (by omega)]at hf
  simp only[U5,List.length_map,List.take_length,Option.some.injEq]at hf
  simp only[J3,hs,ht,he]
  rw[if_pos hl,hf]
  obtain⟨a,b,c,d⟩:=F.newCells cs
  refine b2a F hC d (hC.stays d b) a (fun p hp=>by cases hp) g1 g3 g4 (by decide) ?_ (Nat.le_refl _) h
  rw[List.length_map];exact Nat.le_refl _
 ·exact h.elim
theorem B1.mapSet{H:AHeap}(F:B1 H){k:Nat}{es:List (AV×AV×Nat)}{cl:Nat}(h:H.get k=some (.map es cl))(es':List (AV×AV×Nat))(cl':Nat):
  (H.set k (.map es' cl')).get k=some (.map es' cl')∧But k H (H.set k (.map es' cl'))∧B1 (H.set k (.map es' cl')):=by
 have hg:∀j,(H.set k (.map es' cl')).get j=if k=j then some (.map es' cl') else H.get j:=fun j=>G9 ..
 have key:∀j o,(H.set k (.map es' cl')).get j=some o→(k=j∧o= .map es' cl')∨(k≠j∧H.get j=some o):=by
  intro j o hj
  rw[hg]at hj
  split at hj
  ·rename_i e;cases hj;exact .inl ⟨e,rfl⟩
  ·rename_i e;exact .inr ⟨e,hj⟩
 have hlt:=F.lt h
 refine⟨by rw[hg,if_pos rfl],fun j o _ hne hj=>by rw[hg,if_neg (Ne.symm hne)];exact hj,fun j hj=> ?_,fun j p o op hj hp ho=> ?_,fun j o p hj hp=> ?_,fun j o p hj hp=> ?_⟩
 ·rw[next_set]at hj
  rw[hg,if_neg (by omega)]
  exact F.above j hj
 ·rcases key j o hj with ⟨_,rfl⟩|⟨_,hj⟩
  ·cases hp
  ·rcases key p op ho with ⟨rfl,rfl⟩|⟨_,ho⟩
   ·have:=F.kin j k o _ hj hp h
    cases this
   ·exact F.kin j p o op hj hp ho
 ·rcases key j o hj with ⟨_,rfl⟩|⟨_,hj⟩
  ·cases hp
  ·exact F.self j o p hj hp
 ·rw[next_set]
  rcases key j o hj with ⟨_,rfl⟩|⟨_,hj⟩
  ·cases hp
  ·exact F.below j o p hj hp
theorem B1.mapNew{H:AHeap}(F:B1 H):(H.new (.map [] 0)).get H.next=some (.map [] 0)∧b8y H (H.new (.map [] 0))∧B1 (H.new (.map [] 0)):=by
 have hg:∀j,(H.new (.map [] 0)).get j=if H.next=j then some (.map [] 0) else H.get j:=fun j=>get_new ..
 have key:∀j o,(H.new (.map [] 0)).get j=some o→(H.next=j∧o= .map [] 0)∨(H.next≠j∧H.get j=some o):=by
  intro j o hj
  rw[hg]at hj
  split at hj
  ·rename_i e;cases hj;exact .inl ⟨e,rfl⟩
  ·rename_i e;exact .inr ⟨e,hj⟩
 refine⟨by rw[hg,if_pos rfl],fun j o hj=>by rw[hg,if_neg (by have:=F.lt hj;omega)];exact hj,fun j hj=> ?_,fun j p o op hj hp ho=> ?_,fun j o p hj hp=> ?_,fun j o p hj hp=> ?_⟩
 ·rw[next_new]at hj
  rw[hg,if_neg (by omega)]
  exact F.above j (by omega)
 ·rcases key j o hj with ⟨_,rfl⟩|⟨_,hj⟩
  ·cases hp
  ·rcases key p op ho with ⟨rfl,rfl⟩|⟨_,ho⟩
   ·have:=F.below j o _ hj hp
    omega
   ·exact F.kin j p o op hj hp ho
 ·rcases key j o hj with ⟨_,rfl⟩|⟨_,hj⟩
  ·cases hp
  ·exact F.self j o p hj hp
 ·rw[next_new]
  rcases key j o hj with ⟨_,rfl⟩|⟨_,hj⟩
  ·cases hp
  ·have:=F.below j o p hj hp
   omega
theorem RpE.set:∀ {rows:List (List D)} {es:List (AV×AV×Nat)} {i:Nat} {kd vd:D} {ek ev:AV} {n:Nat},RpE E R rows es→Rp E R kd ek→Rp E R vd ev→RpE E R (rows.set i [kd,vd, .int .i64 n]) (es.set i (ek,ev,n))
 | [],es,i,kd,vd,ek,ev,n,h,_,_=>by simp only[RpE]at h;subst h;simp[RpE]
 |row::rows,es,0,kd,vd,ek,ev,n,h,h1,h2=>by
  obtain⟨kd',vd',e,es',rfl,rfl,_,_,h3⟩:=h
  exact⟨kd,vd,(ek,ev,n),es',rfl,rfl,h1,h2,h3⟩
 |row::rows,es,i+1,kd,vd,ek,ev,n,h,h1,h2=>by
  obtain⟨kd',vd',e,es',rfl,rfl,g1,g2,h3⟩:=h
  exact⟨kd',vd',e,es'.set i (ek,ev,n),rfl,rfl,g1,g2,RpE.set h3 h1 h2⟩
theorem RpE.snoc:∀ {rows:List (List D)} {es:List (AV×AV×Nat)} {kd vd:D} {ek ev:AV} {n:Nat},RpE E R rows es→Rp E R kd ek→Rp E R vd ev→RpE E R (rows++[[kd,vd, .int .i64 n]]) (es++[(ek,ev,n)])
 | [],es,kd,vd,ek,ev,n,h,h1,h2=>by simp only[RpE]at h;subst h;exact⟨kd,vd,(ek,ev,n),[],rfl,rfl,h1,h2,by simp only[RpE]⟩
 |row::rows,es,kd,vd,ek,ev,n,h,h1,h2=>by
  obtain⟨kd',vd',e,es',rfl,rfl,g1,g2,h3⟩:=h
  exact⟨kd',vd',e,es'++[(ek,ev,n)],rfl,rfl,g1,g2,RpE.snoc h3 h1 h2⟩
theorem RpE.get:∀ {rows:List (List D)} {es:List (AV×AV×Nat)},RpE E R rows es→∀ {i:Nat} {row:List D},rows[i]? =some row→∃kd vd e,row=[kd,vd, .int .i64 (e:AV×AV×Nat).2.2]∧es[i]? =some e∧Rp E R kd e.1∧Rp E R vd e.2.1
 | [],es,h,i,row,hi=>by cases hi
 |row::rows,es,h,i,row',hi=>by
  obtain⟨kd',vd',e,es',rfl,rfl,g1,g2,h3⟩:=h
  cases i with
  |zero=>cases hi;exact⟨kd',vd',e,rfl,rfl,g1,g2⟩
  |succ i=>exact h3.get hi
theorem RpE.mem:∀ {rows:List (List D)} {es:List (AV×AV×Nat)},RpE E R rows es→∀ {row:List D},row∈rows→∃e∈es,row[2]? =some (.int .i64 (e.2.2:Int))
 |rows,es,h,row,hr=>by
  obtain⟨i,hi⟩:=List.mem_iff_getElem?.1 hr
  obtain⟨kd,vd,e,rfl,he,_⟩:=h.get hi
  exact⟨e,List.mem_of_getElem? he,rfl⟩
theorem b0w{es:List (AV×AV×Nat)}{i:Nat}{e:AV×AV×Nat}(h:es[i]? =some e)(k v:AV):(es.set i (k,v,e.2.2)).map (·.2.2)=es.map (·.2.2):=by
 rw[List.map_set]
 refine List.ext_getElem? fun j=> ?_
 rw[List.getElem?_set]
 split
 ·rename_i hj
  subst hj
  split
  ·rw[List.getElem?_map,h];rfl
  ·rename_i hl
   rw[List.getElem?_eq_none (by omega)]
 ·rfl
theorem a7k{es:List (AV×AV×Nat)}{cl:Nat}(F:B1 H)(hC:s0 E R S H){k:Nat}{o:A2}{rows:List (List D)}(hk:S k=some o)(hm:a6S o=some rows)(hg:H.get k=some (.map es cl)){es':List (AV×AV×Nat)}{cl':Nat}{rows':List (List D)}
  (hr:RpE E R rows' es') (hn:(es'.map (·.2.2)).Nodup) (hb:∀e∈es',e.2.2<cl') {d:D} {v:AV} (hd:Rp E R d v) {K:D→b5→Prop} (h:∀acs,K d (S.set k (b5a rows' acs))):M6 E R K v (H.set k (.map es' cl')):=by
 obtain⟨g1,g2,g3⟩:=F.mapSet hg es' cl'
 obtain⟨hRk,_⟩:=hC.mapAt hk hm
 refine⟨g3,R,_,d,Fz.le_refl R, ?_,hd,h (es'.map b7T)⟩
 have hS:S.set k (b5a rows' (es'.map b7T))=(S.erase k).set k (b5a rows' (es'.map b7T)):=by
  funext j;simp only[b5.set,b5.erase];split<;>rfl
 rw[hS]
 exact(hC.but g3 g2 hk (fun cs e=>by rw[hRk]at e;cases e)).putM hRk (hC.unwalked hk) ⟨es',cl',rows',rfl,rfl,rfl,g1,hr,hn,hb⟩
theorem b5y{es:List (AV×AV×Nat)}{cl:Nat}(hn:(es.map (·.2.2)).Nodup)(hb:∀e∈es,e.2.2<cl)(k v:AV):((es++[(k,v,cl)]).map (·.2.2)).Nodup∧∀e∈es++[(k,v,cl)],e.2.2<cl+1:=by
 refine⟨?_,fun e he=> ?_⟩
 ·rw[List.map_append,List.map_singleton,List.nodup_append]
  refine⟨hn,by simp,fun a ha b hbb=> ?_⟩
  simp only[List.mem_singleton]at hbb
  obtain⟨e,he,rfl⟩:=List.mem_map.1 ha
  have:=hb e he
  omega
 ·rcases List.mem_append.1 he with he|he
  ·have:=hb e he;omega
  ·rw[List.mem_singleton.1 he];exact Nat.lt_succ_self _
theorem b2v{es:List (AV×AV×Nat)}{cl i:Nat}{e:AV×AV×Nat}(h:es[i]? =some e)(hb:∀e∈es,e.2.2<cl)(k v:AV):∀x∈es.set i (k,v,e.2.2),x.2.2<cl:=fun x hx=>by
 rcases List.mem_or_eq_of_mem_set hx with hx|rfl
 ·exact hb x hx
 ·exact hb e (List.mem_of_getElem? h)
theorem c2x{rows:List (List D)}{es:List (AV×AV×Nat)}{cl:Nat}(h:RpE E R rows es)(hb:∀e∈es,e.2.2<cl):c7t rows cl:=fun row hr e=>by
 obtain⟨x,hx,e2⟩:=h.mem hr
 rw[e2]at e
 simp only[Option.some.injEq,D.int.injEq,true_and,Int.natCast_inj]at e
 have:=hb x hx
 omega
theorem c1m(F:B1 H)(hC:s0 E R S H){K:D→b5→Prop}(h:b7l S K):M6 E R K (.map H.next) (H.new (.map [] 0)):=by
 obtain⟨g1,g2,g3⟩:=F.mapNew
 obtain⟨h1,h2⟩:=hC.fresh
 exact⟨g3,R,_,_,Fz.le_refl R,(hC.stays g3 g2).putM h1 hC.unwalkedNew ⟨[],0,[],rfl,rfl,rfl,g1,by simp only[RpE],by simp,by simp⟩,by simp only[Rp],h H.next [] h2⟩
theorem b6b{t:TypeId}{kk:Nat}(h:b9e P t=some kk):∃kt e,P.underlying t=some (.map kt e)∧b1A P kt=some kk:=by
 unfold b9e at h
 split at h
 ·rename_i kt e hu;exact⟨kt,e,hu,h⟩
 ·cases h
theorem c6I(F:B1 H)(hC:s0 E R S H){t:TypeId}{kk:Nat}(hkk:b9e P t=some kk){m key x:D}{vm vk vx:AV}(hm:Rp E R m vm)(hk:Rp E R key vk)(hx:Rp E R x vx){K:D→b5→Prop}(h:b4t S kk m key x K):
  b4 (P5 P H t vm vk vx) fun H'=>M6 E R K s8 H':=by
 obtain⟨kt,e,hu,hkt⟩:=b6b hkk
 unfold b4t at h
 split at h
 ·rename_i k
  simp only[Rp]at hm
  subst hm
  split at h
  ·rename_i hki
   have hf:=b5z hkt hk hki
   split at h
   ·rename_i o hok
    split at h
    ·rename_i rows hrows
     obtain⟨_,es,cl,_,hg,hr,hn,hb⟩:=hC.mapAt hok hrows
     unfold P5
     simp only[hu,hf,if_true,hg]
     split at h
     ·rename_i i v n hfd
      obtain⟨en,kd,_,g1,g2,rfl,g3,g4,g5⟩:=a8B hk hr hfd
      rw[Nat.sub_zero]at g1 g2
      simp only[g5,a8v]
      exact a7k F hC hok hrows hg (hr.set hk hx) (by rw[b0w g1];exact hn) (b2v g1 hb _ _) W8 h
     ·rename_i hfd
      have g:=a8B hk hr hfd
      simp only[g,a8v]
      obtain⟨q1,q2⟩:=b5y hn hb vk vx
      exact a7k F hC hok hrows hg (hr.snoc hk hx) q1 q2 W8 fun acs=>h cl acs (c2x hr hb)
     ·exact h.elim
    ·exact h.elim
   ·exact h.elim
  ·exact h.elim
 ·exact h.elim
theorem c3L(F:B1 H)(hC:s0 E R S H){t:TypeId}{kk:Nat}{z:D}(hkk:b9e P t=some kk)(hz:c9N P t=some z){m key:D}{vm vk:AV}(hm:Rp E R m vm)(hk:Rp E R key vk){K:D→b5→Prop}(h:c8U S kk z m key K):
  a2g (a2v P H t vm vk) (M6 E R K):=by
 obtain⟨kt,e,hu,hkt⟩:=b6b hkk
 unfold c9N at hz
 rw[hu]at hz
 simp only[Option.map_eq_some_iff]at hz
 obtain⟨zv,hz1,rfl⟩:=hz
 unfold c8U at h
 split at h
 ·rename_i k
  simp only[Rp]at hm
  subst hm
  split at h
  ·rename_i hki
   have hf:=b5z hkt hk hki
   split at h
   ·rename_i o hok
    split at h
    ·rename_i rows hrows
     obtain⟨_,es,cl,_,hg,hr,hn,hb⟩:=hC.mapAt hok hrows
     have tupR:∀ {d:D} {w:AV} {n:Nat},Rp E R d w→Rp E R (.tup [d, .int .i64 n]) (.tup [w, .int .i64 n]):=by
      intro d w n hd
      simp only[Rp]
      exact⟨_,rfl,q9 hd (q9 (by simp only[Rp]) A7)⟩
     unfold a2v
     simp only[hu,hf,if_true,hg]
     split at h
     ·rename_i i v n hfd
      obtain⟨en,kd,_,g1,g2,rfl,g3,g4,g5⟩:=a8B hk hr hfd
      rw[Nat.sub_zero]at g1 g2
      simp only[g5]
      exact a7k F hC hok hrows hg (hr.set hk g4) (by rw[b0w g1];exact hn) (b2v g1 hb _ _) (tupR g4) h
     ·rename_i hfd
      have g:=a8B hk hr hfd
      simp only[g,hz1]
      obtain⟨q1,q2⟩:=b5y hn hb vk zv
      exact a7k F hC hok hrows hg (hr.snoc hk a8I) q1 q2 (tupR a8I) fun acs=>h cl acs (c2x hr hb)
     ·exact h.elim
    ·exact h.elim
   ·exact h.elim
  ·exact h.elim
 ·exact h.elim
theorem b7M{es:List (AV×AV×Nat)}(hn:(es.map (·.2.2)).Nodup){i:Nat}{e:AV×AV×Nat}(h:es[i]? =some e):es.findIdx? (fun x=>(x.2.2:Int)==(e.2.2:Int))=some i:=by
 rw[List.findIdx?_eq_some_iff_getElem]
 have hi:=(List.getElem?_eq_some_iff.1 h).1
 have he:=(List.getElem?_eq_some_iff.1 h).2
 refine⟨hi,by rw[he];simp,fun j hj=> ?_⟩
 intro hc
 simp only[beq_iff_eq,Int.natCast_inj]at hc
 have hp:=List.pairwise_iff_getElem.1 hn j i (by rw[List.length_map];omega) (by rw[List.length_map];omega) hj
 rw[List.getElem_map,List.getElem_map,he]at hp
 exact hp hc
theorem c9w(F:B1 H)(hC:s0 E R S H){m s x:D}{vm vs vx:AV}(hm:Rp E R m vm)(hs:Rp E R s vs)(hx:Rp E R x vx){K:D→b5→Prop}(h:c9M S m s x K):
  b4 (D1 H vm vs vx) fun H'=>M6 E R K s8 H':=by
 unfold c9M at h
 split at h
 ·rename_i k
  simp only[Rp]at hm
  subst hm
  split at h
  ·rename_i o hok
   split at h
   ·rename_i rows hrows
    obtain⟨_,es,cl,_,hg,hr,hn,hb⟩:=hC.mapAt hok hrows
    obtain⟨i,key,v,hi,h⟩:=h
    obtain⟨kd,vd,e,e1,e2,e3,e4⟩:=hr.get hi
    simp only[List.cons.injEq,and_true]at e1
    obtain⟨rfl,rfl,rfl⟩:=e1
    simp only[Rp]at hs
    subst hs
    unfold D1
    simp only[hg,b7M hn e2,e2,a8v]
    exact a7k F hC hok hrows hg (hr.set e3 hx) (by rw[b0w e2];exact hn) (b2v e2 hb _ _) W8 h
   ·exact h.elim
  ·exact h.elim
 ·exact h.elim
def c6v(F:FW):Prop:=∀f args H (Q Q':AV→AHeap→Prop),F f args H Q→(∀v H',Q v H'→Q' v H')→F f args H Q'
theorem c5f{F:FW}{G:DW}(hG:GoF E F G R S H){f:FuncId}{ds:List D}{avs:List AV}(hF:B1 H)(hC:s0 E R S H)(ha:s7 E R ds avs){K:D→b5→Prop}(h:G f ds S K):F f avs H (M6 E R K):=hG _ _ _ _ ha h
theorem b6r{F:FW}{G:DW}(hG:GoF E F G R S H){f:FuncId}{ds:List D}{avs:List AV}(hF:B1 H)(hC:s0 E R S H)(ha:s7 E R ds avs){K:D→b5→Prop}(h:a9O P G S f ds K):b0q F (J7 P H f avs) (M6 E R K):=by
 unfold a9O at h
 split at h
 ·rename_i hb
  unfold J7
  rw[if_pos hb]
  exact c5f hG hF hC ha h
 ·exact h.elim
theorem b5V{F:FW}{G:DW}(hG:GoF E F G R S H){f:D}{vf:AV}{ds:List D}{avs:List AV}(hF:B1 H)(hC:s0 E R S H)(hf:Rp E R f vf)(ha:s7 E R ds avs){K:D→b5→Prop}(h:a7h P G S f ds K):b0q F (b3e P E H vf avs) (M6 E R K):=by
 unfold a7h at h
 split at h
 ·rename_i g a b
  simp only[Rp]at hf
  obtain⟨a',b',rfl,h1,h2⟩:=hf
  exact b6r hG hF hC ((h1.append ha).append h2) h
 ·rename_i t path g pointer a b
  simp only[Rp]at hf
  obtain⟨a',b',rfl,h1,h2⟩:=hf
  have h12:=h1.append ha
  unfold b3e
  split at h
  ·rename_i x rest u hp hx hu
   rw[hx]at h12
   simp only[s7]at h2 h12
   subst h2
   obtain⟨v,vs,e,k1,k2⟩:=h12
   simp only[hp,e,hu]
   split at h
   ·rename_i hpt
    simp only[hpt]
    exact b6r hG hF hC (q9 k1 k2) h
   ·exact h.elim
  ·exact h.elim
 ·exact h.elim
theorem c5V{F:FW}{G:DW}(hG:GoF E F G R S H){r:D}{vr:AV}{name:String}{ds:List D}{avs:List AV}(hF:B1 H)(hC:s0 E R S H)(hr:Rp E R r vr)(ha:s7 E R ds avs){K:D→b5→Prop}(h:c0p P G S r name ds K):b0q F (c5k P E H vr name avs) (M6 E R K):=by
 unfold c0p at h
 split at h
 ·rename_i t d
  simp only[Rp]at hr
  obtain⟨v,rfl,hv⟩:=hr
  split at h
  ·rename_i f hm
   have hmA:Z3 P E H t v name=some (f,v):=by
    unfold c5c at hm
    unfold Z3
    cases hi:P.info? t with
    |none=>rw[hi]at hm;cases hm
    |some info=>
     rw[hi]at hm
     simp only at hm
     cases hf:info.methods.find? (·.name==name) with
     |none=>rw[hf]at hm;cases hm
     |some m=>
      simp only[hf]at hm
      simp only[Option.bind_eq_bind,Option.bind_some,hf]
      split at hm
      ·rename_i h1 h2 h3
       cases hm
       simp only[h1,P3,Option.bind_some,h2,h3,X4.get,Option.map_some]
      ·rename_i h1 h2 h3
       cases hm
       simp only[h1,P3,Option.bind_some,h2,h3,X4.get,Option.map_some]
      ·rename_i h1 h2 h3
       cases hm
       simp only[h1,P3,Option.bind_some,h2,h3,X4.get,Option.map_some]
      ·rename_i h1 h2 h3
       cases hm
       simp only[h1,P3,Option.bind_some,h2,h3,X4.get,Option.map_some]
      ·rename_i h1 h2 h3
       cases hm
       simp only[h1,P3,Option.bind_some,h2,h3,X4.get,Option.map_some]
      ·cases hm
   show b0q F ((Z3 P E H t v name).bind fun(g,r)=>J7 P H g (r::avs)) _
   rw[hmA]
   exact b6r hG hF hC (q9 hv ha) h
  ·exact h.elim
 ·exact h.elim
theorem c8v{F:FW}{G:DW}(hG:GoF E F G R S H)(hF:B1 H)(hC:s0 E R S H){T:List D}{avs:List AV}(hT:s7 E R T avs){o:Oper}{K:D→b5→Prop}(h:c9p P G T S o K):opW P E F avs H o (M6 E R K):=by
 obtain⟨dst,op,type,pos,after,guard⟩:=o
 cases op<;>simp only[c9p]at h<;>try (exact h.elim)
 case alloc e=>
  simp only[opW]
  split at h
  ·rename_i cs hcs
   obtain⟨z,hz1,hz2,hz3⟩:=b1X (E:=E) (R:=R) hcs
   rw[hz1]
   exact c2N hF hC hz2 hz3 h
  ·exact h.elim
 case box t x=>
  simp only[opW]
  unfold b4 at h
  split at h
  ·rename_i cs hcs
   obtain⟨g1,g2⟩:=a7o (j8 hT x) hcs
   exact c2N hF hC g1 g2 h
  ·exact h.elim
 case buildSlice t len parts=>
  simp only[opW]
  split at h
  ·rename_i e he
   split at h
   ·rename_i sz z hsz hz
    split at h
    ·rename_i hc
     obtain⟨zv,hz1,hz2,hz3⟩:=b1X (E:=E) (R:=R) hz
     have hzl':zv.cells.length=sz:=by rw[hz2.length,hc.1.1]
     unfold C7 b4 at h
     split at h
     ·rename_i rs hrs
      obtain⟨us,k1,k2,k3,k4,k5⟩:=c2s (b6F hT parts.toList) (fun row hr=>by rw[List.eq_of_mem_replicate hr,hc.1.1]) (b1G hz2 len) (a6v hz3 len) hrs
      unfold I2
      simp only[he,hsz,Option.bind_eq_bind,Option.bind_some]
      rw[if_pos hc.2,hz1,Option.bind_some,if_pos hzl',k5,Option.bind_some]
      obtain⟨a,b,c',d⟩:=hF.newCells us
      rw[List.length_replicate]at k2
      exact b2a hF hC d (hC.stays d b) a (fun p hp=>by cases hp) k1 k3 k4 hc.1.2 (by omega) (Nat.le_refl _) h
     ·exact h.elim
    ·exact h.elim
   ·exact h.elim
  ·exact h.elim
 case store t a x=>
  simp only[opW]
  split at h
  ·rename_i n hn
   exact c6X hF hC (j8 hT a) (j8 hT x) hn h
  ·exact h.elim
 case convert s t x=>
  simp only[opW]
  split at h
  ·rename_i e hu1 hu2
   split at h
   ·rename_i hue
    exact c7A hF hC hu1 hu2 hue (j8 hT x) h
   ·exact h.elim
  ·rename_i e0 e hu1 hu2
   split at h
   ·rename_i hue
    split at h
    ·rename_i hst
     have hx:=j8 hT x
     unfold c8J at h
     split at h
     ·rename_i k i len cap ex sz hd
      rw[hd]at hx
      split at h
      ·rename_i ob hk
       split at h
       ·rename_i hl
        have hx':=hx
        simp only[Rp]at hx
        obtain⟨hzm,hx⟩:=hx
        have hom:ob.sz<H3:=by rw[hl.2];exact hzm
        obtain⟨g1,⟨pre,g2⟩,_⟩:=hC.cells hk (.inl hom)
        rw[hx]at hx' ⊢
        unfold J3
        simp only[hu1,hu2,hue]
        rw[if_pos ⟨hst,hl.1,by simp only[cellsOf,g2];rfl⟩]
        rcases h with h|⟨⟨q1,q2,q3⟩,h⟩
        ·exact⟨hF,R,S,_,Fz.le_refl R,hC,hx',h⟩
        ·obtain⟨r1,r2⟩:=hC.freeze hk (.inl hom)
         exact⟨hF,_,_,_,r2,r1,a5z (cap:=cap) (ex:=ex) hC hk hx' q1 q2 q3,h⟩
       ·exact h.elim
      ·exact h.elim
     ·exact h.elim
    ·exact h.elim
   ·exact h.elim
  ·exact h.elim
 case makeSlice t l c=>
  simp only[opW]
  split at h
  ·rename_i e he
   split at h
   ·rename_i sz bytes z hsz hby hz
    split at h
    ·rename_i hzl
     exact c8g hF hC he hsz hby hz hzl.1 hzl.2 (j8 hT l) (j8 hT c) h
    ·exact h.elim
   ·exact h.elim
  ·exact h.elim
 case range t x=>
  simp only[opW]
  split at h
  ·rename_i k e ht;exact c6y hF hC ht (j8 hT x) h
  ·exact h.elim
 case next it s=>
  simp only[opW]
  cases s with
  |true=>exact h.elim
  |false=>exact c7V hF hC (j8 hT it) h
 case entry it=>exact c7q hF hC (j8 hT it) h
 case makeMap t r=>
  simp only[opW]
  cases r with
  |none=>exact c1m hF hC h
  |some _=>exact h.elim
 case mapUpdate t m k x=>
  simp only[opW]
  split at h
  ·rename_i kk hkk
   exact c6I hF hC hkk (j8 hT m) (j8 hT k) (j8 hT x) h
  ·exact h.elim
 case insert t m k x=>
  simp only[opW]
  split at h
  ·rename_i kk hkk
   exact c6I hF hC hkk (j8 hT m) (j8 hT k) (j8 hT x) h
  ·exact h.elim
 case mapEntry t m k=>
  simp only[opW]
  split at h
  ·rename_i kk z hkk hz
   exact c3L hF hC hkk hz (j8 hT m) (j8 hT k) h
  ·exact h.elim
 case entryStore t m s x=>
  simp only[opW]
  exact c9w hF hC (j8 hT m) (j8 hT s) (j8 hT x) h
 case call c=>
  simp only[opW]
  cases hc:c.callee with
  |value f=>
   simp only[hc]at h
   have ha:=a3y hT c.args.toList
   cases f with
   |func g=>
    simp only at h ⊢
    split at h
    ·rename_i hb
     rw[if_pos hb]
     exact c5f hG hF hC ha h
    ·exact h.elim
   |tmp t=>exact b5V hG hF hC (j8 hT _) ha h
   |const v=>exact b5V hG hF hC (j8 hT _) ha h
   |global g=>exact b5V hG hF hC (j8 hT _) ha h
  |invoke r m=>
   simp only[hc]at h ⊢
   exact c5V hG hF hC (j8 hT r) (a3y hT c.args.toList) h
  |builtin b=>
   simp only[hc]at h ⊢
   have ha:=a3y hT c.args.toList
   generalize c.args.toList.map (q7 T)=ds at h ha
   generalize c.args.toList.map (i4 avs)=vs at ha
   generalize c.argTypes.toList=ts at h
   cases b<;>(try simp only at h)<;>try (exact h.elim)
   case append=>
    rcases ds with _|⟨x,_|⟨y,_|⟨w,ds⟩⟩⟩<;>(try simp only at h)<;>try (exact h.elim)
    rcases ts with _|⟨t,_|⟨u,_|⟨u',ts⟩⟩⟩<;>(try simp only at h)<;>try (exact h.elim)
    simp only[s7]at ha
    obtain⟨v,_,rfl,h1,v2,_,rfl,h2,rfl⟩:=ha
    split at h
    ·rename_i e he
     split at h
     ·rename_i sz bytes z u' hsz hby hz hu
      split at h
      ·rename_i hzl;exact b9m hF hC he hsz hby hz hzl.1 hzl.2 (.inl ⟨_,hu⟩) h1 h2 h
      ·exact h.elim
     ·rename_i sz bytes z hsz hby hz hu
      split at h
      ·rename_i hzl;exact b9m hF hC he hsz hby hz hzl.1 hzl.2 (.inr hu) h1 h2 h
      ·exact h.elim
     ·rename_i sz bytes z ik hsz hby hz hu
      split at h
      ·rename_i hzl;exact c3I hF hC he hsz hby hz hzl.1 hzl.2 hu h1 h2 h
      ·exact h.elim
     ·exact h.elim
    ·exact h.elim
   case copy=>
    rcases ds with _|⟨x,_|⟨y,_|⟨w,ds⟩⟩⟩<;>(try simp only at h)<;>try (exact h.elim)
    rcases ts with _|⟨t,ts⟩<;>(try simp only at h)<;>try (exact h.elim)
    simp only[s7]at ha
    obtain⟨v,_,rfl,h1,v2,_,rfl,h2,rfl⟩:=ha
    split at h
    ·rename_i e he
     split at h
     ·rename_i sz hsz
      exact c8j hF hC he hsz h1 h2 h
     ·exact h.elim
    ·exact h.elim
end
end Go.Am
end
