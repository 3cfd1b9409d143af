/- A part of the proof of ImageWrites. -/
import Derived.Test.YtchnpgddpaonhaaGreatWab
set_option linter.unusedVariables false
set_option linter.unusedSimpArgs false
set_option maxRecDepth 100000
section
namespace Go.Am
section
section
variable{E:j6}{w0:World}{H:AHeap}{w:World}{ρ:B7}{P:Program}
theorem d0J{x:AV}{vx:Value}{n:Nat}(h:a5b x=some n)(hx:rel ρ x vx)(w:World):(Builtin.lenOf vx).run P w= .ok n w:=by
 unfold a5b at h
 split at h
 ·cases h;simp only[rel]at hx;subst hx;rfl
 ·cases h;simp only[rel]at hx;obtain⟨a,c,rfl,_⟩:=hx;rfl
 ·cases h;simp only[rel]at hx;subst hx
  simp only[Builtin.lenOf,Sem.run_pure]
  simp[ByteArray.size]
 ·cases h
theorem b5F(R:K9 E w0 H w ρ){x:AV}{vx:Value}{size n k:Nat}{news:List AV}(hl:a5b x=some k)(hn:n≤k)(h:a0Y E H size n x=some news)(hx:rel ρ x vx):
  ∃vs,(∀w',w'.heap=w.heap→(Builtin.firstCells size n vx).run P w'= .ok ⟨vs⟩ w')∧w5 ρ news vs:=by
 unfold a0Y at h
 split at h
 ·cases h;simp only[rel]at hx;subst hx
  exact⟨[],fun _ _=>rfl,u9.2 rfl⟩
 ·rename_i o i len cap ex sz
  simp only[a5b]at hl;cases hl
  simp only[rel]at hx
  obtain⟨ad,c,rfl,g1,g2,g3,g4,g5⟩:=hx
  exact R.rangeAt (P:=P) h (by
   rcases g4 with e|e
   ·left;rw[show n=0 by omega,Nat.zero_mul]
   ·exact .inr e)
 ·rename_i s
  cases h
  simp only[rel]at hx;subst hx
  refine⟨(s.take n).map fun b=>Value.int .u8 b.toNat,fun w' _=> ?_,c6W _⟩
  simp only[Builtin.firstCells,Sem.run_pure]
  congr 1
  apply Array.ext'
  rw[Array.toList_map,ByteArray.data_extract,Array.toList_extract,List.extract_eq_take_drop]
  simp
 ·cases h
theorem d1k(newLen:Nat):∀(r c:Nat),Builtin.growBy newLen r c≤max c (newLen+(newLen+768) / 4)
 |0,c=>by simp only[Builtin.growBy];omega
 |r+1,c=>by
  simp only[Builtin.growBy]
  split
  ·omega
  ·have:=d1k newLen r (c+(c+768) / 4)
   omega
theorem c5Y{need c:Nat}(h:c<need):Builtin.nextslicecap need c≤2*need+768:=by
 unfold Builtin.nextslicecap
 split
 ·omega
 ·split
  ·omega
  ·have:=d1k need 4 c
   omega
theorem K9.growCopy(R:K9 E w0 H w ρ){cs:List AV}{vs:List Value}{arr:Array Value}{el:TypeId}{pre:List Nat}{w':World}(hn:ρ H.next=none)(hr:w5 ρ cs vs)
  (harr:arr.toList.take cs.length=vs) (hl:cs.length≤arr.size) (hw:w'.heap=w.heap.push (.cells arr el))
  (hp:∀p∈pre,(ρ p).isSome∧∀op,H.get p=some op→c3C op=false) (hs:w'.os=w.os∧w'.output=w.output:=by exact⟨rfl,rfl⟩):
  K9 E w0 (H.new (.cells cs true pre)) w' (upd ρ H.next ⟨w.heap.size,0,arr.size⟩):=
 (R.new hn (el:=el) (lo:=0) (hi:=0) hl (by rw[harr];exact hr) (fun _=> .inl rfl) hp).heap_eq hw hs
theorem c3E(z:Array Value)(n:Nat):(Builtin.zeroCells z n).size=n*z.size:=by
 simp[Builtin.zeroCells]
theorem c8B{z:AV}{v:Value}(h:rel ρ z v)(n:Nat):w5 ρ (rep z.cells n) (Builtin.zeroCells v.cells n).toList:=by
 have hc:=a3E h
 have:=c7I hc n
 unfold Builtin.zeroCells
 rw[b1S]
 rw[Array.length_toList]at this ⊢
 exact this
theorem d9p(R:K9 E w0 H w ρ){size bytes n len c:Nat}{s a:AV}{news:List AV}{vs:List Value}{H':AHeap}{base:Option Addr}
  (h:Z2 E H size bytes s n news=some (a,H')) (hs:rel ρ s (.slice base len c)) (hle:len+n≤c) (hv:w5 ρ news vs) (hf:a4P ρ H H') (P:Program):
  ∃w' ρ',(base=none→w'=w)∧(∀ad,base=some ad→(storeCells (ad.add (len*size)) vs).run P w= .ok () w')∧
   Ext ρ ρ'∧(∀k,¬(H.next≤k∧k<H'.next)→ρ' k=ρ k)∧rel ρ' a (.slice base (len+n) c)∧K9 E w0 H' w' ρ'∧H.next≤H'.next:=by
 unfold Z2 at h
 split at h
 ·rename_i hnl
  have hvl:=B2 hv
  have n0:n=0→vs=[]:=by
   rintro rfl
   apply List.eq_nil_of_length_eq_zero
   omega
  split at h
  ·simp only[rel]at hs
   cases hs
   have hn:n=0:=by omega
   subst hn
   simp only[if_true]at h
   cases h
   exact⟨w,ρ,fun _=>rfl,fun ad e=>(by cases e),Ext.refl _,fun _ _=>rfl,by simp only[rel],R,Nat.le_refl _⟩
  ·rename_i o i len' cap ex sz
   have hs':=hs
   simp only[rel]at hs
   obtain⟨ad,c',he,g1,g2,g3,g4,g5⟩:=hs
   simp only[Value.slice.injEq]at he
   obtain⟨rfl,rfl,rfl⟩:=he
   split at h
   ·rename_i hn
    subst hn
    cases h
    have:=n0 rfl;subst this
    exact⟨w,ρ,fun _=>rfl,fun ad' e=>rfl,Ext.refl _,fun _ _=>rfl,by simpa using hs',R,Nat.le_refl _⟩
   ·rename_i hn
    split at h
    ·rename_i hb
     split at h
     ·rename_i hex
      simp only[Bool.and_eq_true,decide_eq_true_eq]at hex
      have:=g3 hex.1
      omega
     ·obtain⟨b,d,hbd,rfl⟩:=g4.resolve_left (by omega)
      split at h
      ·cases h
      ·rename_i k
       split at h
       ·rename_i cs pre hk
        split at h
        ·rename_i hc
         obtain⟨rfl,hcut,hall⟩:=hc
         obtain⟨l,hl,hroom⟩:=g5
         obtain⟨l',hl',hbase,arr,el,lo,hi,e0,e1,e2,e3,e4⟩:=R.objs k _ hk
         rw[hl]at hl';cases hl'
         simp only[Q3,hl,Option.map_some,Option.some.injEq,Prod.mk.injEq]at hbd
         obtain⟨rfl,rfl⟩:=hbd
         have hmul:(len+n)*sz≤c*sz:=Nat.mul_le_mul_right _ hle
         rw[Nat.add_mul]at hmul
         have hroom2:l.d+(i+len*sz)+news.length≤l.n:=by omega
         have hst:=a1J (P:=P) l.blk (l.d+i+len*sz) el lo hi vs 0 w arr e0 (by omega) (by rw[e1];exact e4 rfl)
          (c9y (P:=fun a=>w7 a=true) (fun a v h1 h2=>b6k h1 h2) hv (by simpa using hall))
         rw[Nat.add_zero,Nat.add_assoc]at hst
         have hnx:ρ H.next=none:=hf _ (Nat.le_refl _) (by
          split at h
          ·cases h;simp
          ·cases h;simp)
         have hfin:∀ {K pre':List Nat} {Hs:AHeap},Hs.next=H.next→(∀j,Hs.get j=if j=k then some (.cells (cs.take (i+len*sz)) false pre') else if j∈K then none else H.get j)→
           ((K=pre∧pre'=[])∨(K=[]∧pre'=pre∧i+len*sz=cs.length))→a= .slc (.new H.next) 0 (len+n) (len+n) false sz→
           H'=Hs.new (.cells ((cs.take (i+len*sz)).drop i++news) true (k::pre'))→
           ∃w' ρ',(some (⟨l.blk,l.d+i,none⟩:Addr)=none→w'=w)∧(∀ad,some (⟨l.blk,l.d+i,none⟩:Addr)=some ad→(storeCells (ad.add (len*sz)) vs).run P w= .ok () w')∧
            Ext ρ ρ'∧(∀k,¬(H.next≤k∧k<H'.next)→ρ' k=ρ k)∧rel ρ' a (.slice (some ⟨l.blk,l.d+i,none⟩) (len+n) c)∧K9 E w0 H' w' ρ'∧H.next≤H'.next:=by
          intro K pre' Hs h1 h2 h3 ha hH
          subst ha hH
          refine⟨_,_,(fun e=>by cases e),fun ad e=> ?_,b0n _ hnx, ?_, ?_,R.growIn hk hl hnx e0 (Nat.le_add_right _ _) hcut hv hroom2 h1 h2 h3,by simp[h1]⟩
          ·cases e
           rw[Addr.add_plain,Nat.add_assoc]
           exact hst
          ·intro j hj
           rw[J4]
           rintro rfl
           exact hj ⟨Nat.le_refl _,by simp[h1]⟩
          ·simp only[rel,Q3,U5,c3X]
           exact⟨_,_,rfl,hle,hle,(fun e=>by cases e), .inr ⟨l.blk,l.d+i,rfl,rfl⟩,_,rfl,by simp only;omega⟩
         split at h
         ·rename_i hlt
          cases h
          refine hfin (K:=pre) (pre':=[]) (Hs:=(H.killAll pre).set k (.cells (cs.take (i+len*sz)) false [])) (by simp) (fun j=> ?_) (.inl ⟨rfl,rfl⟩) rfl rfl
          rw[AHeap.get_set,AHeap.get_killAll]
          by_cases hj:j=k
          ·rw[if_pos hj.symm,if_pos hj]
          ·rw[if_neg (fun e=>hj e.symm),if_neg hj]
         ·rename_i hlt
          cases h
          have heq:i+len*sz=cs.length:=by omega
          refine hfin (K:=[]) (pre':=pre) (Hs:=H.set k (.cells cs false pre)) (by simp) (fun j=> ?_) (.inr ⟨rfl,rfl,heq⟩) rfl ?_
          ·rw[AHeap.get_set]
           by_cases hj:j=k
           ·rw[if_pos hj.symm,if_pos hj,heq,List.take_length]
           ·rw[if_neg (fun e=>hj e.symm),if_neg hj,if_neg (by simp)]
          ·rw[heq,List.take_length]
        ·cases h
       ·cases h
    ·cases h
  ·cases h
 ·cases h
theorem d8e(R:K9 E w0 H w ρ){size bytes n len c:Nat}{s a:AV}{news:List AV}{vs:List Value}{H':AHeap}{base:Option Addr}
  (h:Z2 E H size bytes s n news=some (a,H')) (hs:rel ρ s (.slice base len c)) (hlt:c<len+n) (hv:w5 ρ news vs) (hf:a4P ρ H H') (P:Program):
  0<bytes∧(2*(len+n)+768)*bytes≤2^47∧∃olds:List Value,(∀w',w'.heap=w.heap→(Builtin.firstCells size len (.slice base len c)).run P w'= .ok ⟨olds⟩ w')∧
   ∀(w':World) (el:TypeId) (rest:Array Value) (nc:Nat),len+n≤nc→rest.size=(nc - (len+n))*size→w'.heap=w.heap.push (.cells (⟨olds⟩++⟨vs⟩++rest) el)→(w'.os=w.os∧w'.output=w.output)→
    ∃ρ',Ext ρ ρ'∧(∀k,¬(H.next≤k∧k<H'.next)→ρ' k=ρ k)∧rel ρ' a (.slice (some ⟨w.heap.size,0,none⟩) (len+n) nc)∧K9 E w0 H' w' ρ'∧H.next≤H'.next:=by
 unfold Z2 at h
 split at h
 ·rename_i hnl
  have hvl:=B2 hv
  split at h
  ·simp only[rel]at hs
   cases hs
   split at h
   ·omega
   ·split at h
    ·rename_i hn hb
     cases h
     refine⟨hb.1,by simpa using hb.2,[],fun w' _=>rfl, ?_⟩
     intro w' el rest nc hnc hrest hw hsd
     have hnx:=hf H.next (Nat.le_refl _) (by simp[newCells])
     have hsz:((⟨[]⟩:Array Value)++⟨vs⟩++rest).size=nc*size:=by
      simp only[Array.size_append]
      have e1:(⟨vs⟩:Array Value).size=n*size:=by simp;omega
      have e2:(⟨[]⟩:Array Value).size=0:=rfl
      rw[e1,e2,hrest,Nat.zero_add, ←Nat.add_mul];congr 1;omega
     refine⟨_,b0n _ hnx, ?_, ?_,R.growCopy hnx (cs:=news) (vs:=vs) (pre:=[]) hv ?_ ?_ hw (by simp) hsd,by simp[newCells]⟩
     ·intro k hk
      rw[J4]
      rintro rfl
      exact hk ⟨Nat.le_refl _,by simp[newCells]⟩
     ·rw[hsz]
      have:=a7Q ρ H.next w.heap.size (nc*size) n n nc size false (by omega) (by omega) (fun e=>by cases e) (Nat.le_refl _)
      simpa using this
     ·simp[hvl]
     ·simp[hvl]
    ·cases h
  ·rename_i o i len' cap ex sz
   have hs':=hs
   simp only[rel]at hs
   obtain⟨ad,c',he,g1,g2,g3,g4,g5⟩:=hs
   simp only[Value.slice.injEq]at he
   obtain⟨rfl,rfl,rfl⟩:=he
   split at h
   ·omega
   ·rename_i hn
    split at h
    ·rename_i hb
     refine⟨hb.1,hb.2, ?_⟩
     have hdo:∀ {n:Nat},len*n=0∨∃b d,Q3 ρ o=some (b,d)∧ad=⟨b,d+i,none⟩:=by
      intro n
      rcases g4 with e|e
      ·left;rw[show len=0 by omega,Nat.zero_mul]
      ·exact .inr e
     have hnx:ρ H.next=none:=hf _ (Nat.le_refl _) (by
      split at h
      ·split at h
       ·cases h;simp[newCells]
       ·cases h
      ·split at h
       ·cases h
       ·split at h
        ·split at h
         ·split at h
          ·cases h;simp
          ·cases h;simp
         ·cases h
        ·cases h)
     have hfin:∀(olds:List AV) (ov:List Value) (Hs:AHeap) (pre:List Nat),w5 ρ olds ov→olds.length=len*size→K9 E w0 Hs w ρ→Hs.next=H.next→
       (∀p∈pre,(ρ p).isSome∧∀op,Hs.get p=some op→c3C op=false)→
       a= .slc (.new H.next) 0 (len+n) (len+n) false size→H'=Hs.new (.cells (olds++news) true pre)→
       ∀(w':World) (el:TypeId) (rest:Array Value) (nc:Nat),len+n≤nc→rest.size=(nc - (len+n))*size→w'.heap=w.heap.push (.cells (⟨ov⟩++⟨vs⟩++rest) el)→(w'.os=w.os∧w'.output=w.output)→
        ∃ρ',Ext ρ ρ'∧(∀k,¬(H.next≤k∧k<H'.next)→ρ' k=ρ k)∧rel ρ' a (.slice (some ⟨w.heap.size,0,none⟩) (len+n) nc)∧K9 E w0 H' w' ρ'∧H.next≤H'.next:=by
      intro olds ov Hs pre ho hol RS hnext hp ha hH w' el rest nc hnc hrest hw hsd
      subst ha hH
      have hovl:=B2 ho
      have hsz:((⟨ov⟩:Array Value)++⟨vs⟩++rest).size=nc*size:=by
       simp only[Array.size_append]
       have e1:(⟨vs⟩:Array Value).size=n*size:=by simp;omega
       have e2:(⟨ov⟩:Array Value).size=len*size:=by simp;omega
       rw[e1,e2,hrest, ←Nat.add_mul, ←Nat.add_mul];congr 1;omega
      have hnx':ρ Hs.next=none:=by rw[hnext];exact hnx
      have hrep:=RS.growCopy hnx' (cs:=olds++news) (vs:=ov++vs) (pre:=pre) (arr:=⟨ov⟩++⟨vs⟩++rest) (el:=el) (w':=w') (W9 ho hv)
       (by rw[Array.toList_append,Array.toList_append,List.take_append_of_le_length (by simp[hvl,hovl]),List.take_of_length_le (by simp[hvl,hovl])]) (by simp only[List.length_append,Array.size_append,List.size_toArray];omega) hw hp hsd
      refine⟨_,b0n _ hnx', ?_, ?_,hrep,by simp[hnext]⟩
      ·intro k hk
       rw[J4]
       rintro rfl
       exact hk ⟨by omega,by simp[hnext]⟩
      ·rw[hsz,hnext]
       exact a7Q ρ H.next w.heap.size (nc*size) (len+n) (len+n) nc size false hnc hnc (fun e=>by cases e) (Nat.le_refl _)
     split at h
     ·rename_i hex
      split at h
      ·rename_i olds hol
       cases h
       obtain⟨ov,r1,r2⟩:=R.loadsAt (P:=P) hol hdo
       refine⟨ov,fun w' hw=> ?_,hfin olds ov H [] r2 ?_ R rfl (by simp) rfl rfl⟩
       ·exact r1 w' hw
       ·unfold G9 at hol
        split at hol
        ·split at hol
         ·cases hol;simp;omega
         ·cases hol
        ·cases hol
      ·cases h
     ·split at h
      ·cases h
      ·rename_i k
       split at h
       ·rename_i cs pre hk
        split at h
        ·rename_i hc
         obtain⟨rfl,hcut,hall⟩:=hc
         have hol:G9 E H (.new k) i (len*sz)=some ((cs.drop i).take (len*sz)):=by
          simp only[G9,cellsOf,hk]
          rw[if_pos hcut]
         obtain⟨ov,r1,r2⟩:=R.loadsAt (P:=P) hol hdo
         have hoo:(cs.take (i+len*sz)).drop i=(cs.drop i).take (len*sz):=by
          rw[List.drop_take];congr 1;omega
         obtain⟨lk,hlk,_⟩:=R.objs k _ hk
         split at h
         ·rename_i hlt'
          cases h
          have RS:K9 E w0 ((H.killAll pre).set k (.cells (cs.take (i+len*sz)) false [])) w ρ:=R.less (by
           intro j o e
           rw[AHeap.get_set,AHeap.get_killAll]at e
           split at e
           ·rename_i hj;subst hj;cases e
            refine⟨_,hk, .inr ⟨cs,true,pre,_,[],rfl,rfl, .inr ⟨rfl,fun p hp=> ?_⟩⟩⟩
            rw[AHeap.get_set,AHeap.get_killAll,if_neg (fun e=>(R.pres k _ hk p hp).1 e.symm),if_pos hp]
           ·split at e
            ·cases e
            ·exact⟨o,e, .inl rfl⟩)
          refine⟨ov,fun w' hw=>r1 w' hw,hfin _ ov _ [k] r2 (by simp;omega) RS (by simp) ?_ rfl (by rw[hoo])⟩
          intro p hp
          simp only[List.mem_singleton]at hp;subst hp
          refine⟨by rw[hlk];rfl,fun op hop=> ?_⟩
          rw[AHeap.get_set,if_pos rfl]at hop
          cases hop;rfl
         ·rename_i hlt'
          cases h
          have heq:i+len*sz=cs.length:=by omega
          have RS:K9 E w0 (H.set k (.cells cs false pre)) w ρ:=R.less (by
           intro j o e
           rw[AHeap.get_set]at e
           split at e
           ·rename_i hj;subst hj;cases e
            exact⟨_,hk, .inr ⟨cs,true,pre,cs.length,pre,rfl,by rw[List.take_length], .inl ⟨rfl,Nat.le_refl _⟩⟩⟩
           ·exact⟨o,e, .inl rfl⟩)
          have hdr:cs.drop i=(cs.drop i).take (len*sz):=by
           rw[List.take_of_length_le];simp;omega
          refine⟨ov,fun w' hw=>r1 w' hw,hfin _ ov _ (k::pre) r2 (by simp;omega) RS (by simp) ?_ rfl (by rw[←hdr])⟩
          intro p hp
          have hps:(ρ p).isSome:=by
           rcases List.mem_cons.1 hp with rfl|hp
           ·rw[hlk];rfl
           ·exact(R.pres k _ hk p hp).2
          refine⟨hps,fun op hop=> ?_⟩
          rw[AHeap.get_set]at hop
          split at hop
          ·cases hop;rfl
          ·rename_i hpk
           rcases List.mem_cons.1 hp with rfl|hp
           ·exact absurd rfl hpk
           ·obtain⟨lp,hlp⟩:=Option.isSome_iff_exists.1 hps
            exact(R.kin k p _ op lk lp hk hp hop hlk hlp).1
        ·cases h
       ·cases h
    ·cases h
  ·cases h
 ·cases h
theorem d2i{sT xT e:TypeId}{d:TypeDesc}{size n len c:Nat}{base:Option Addr}{vx:Value}{vs:List Value}{w':World}(hu:P.underlying sT=some (.slice e))(hx:P.underlying xT=some d)
  (hs:E2 P e=some size) (hle:len+n≤c) (hb:base=none→w'=w) (hst:∀ad,base=some ad→(storeCells (ad.add (len*size)) vs).run P w= .ok () w')
  (hsrc:((∀k,d≠ .int k)∧(Builtin.lenOf vx).run P w= .ok n w∧(Builtin.firstCells size n vx).run P w= .ok ⟨vs⟩ w)∨
   ∃k l i zv,d= .int k∧vx= .int i l∧IntKind.i64.wrap l=l∧0≤l∧n=l.toNat∧(∃ti,P.info? e=some ti∧l*ti.bytes≤2^47)∧(∀w,(zeroValue e).run P w= .ok zv w)∧
    vs=(if n*size=0 then[]else(Builtin.zeroCells zv.cells n).toList)) (ty:TypeId):
  (Builtin.append_ #[sT,xT] ty #[.slice base len c,vx]).run P w= .ok (.slice base (len+n) c) w':=by
 have a0:(#[sT,xT]:Array TypeId)[0]? =some sT:=rfl
 have a1:(#[sT,xT]:Array TypeId)[1]? =some xT:=rfl
 have b0:(#[Value.slice base len c,vx]:Array Value)[0]? =some (.slice base len c):=rfl
 have b1:(#[Value.slice base len c,vx]:Array Value)[1]? =some vx:=rfl
 have fin:(match base with
   |some a=>(do storeCells (a.add (len*size)) (⟨vs⟩:Array Value).toList;pure (.slice base (len+n) c):Sem Value)
   |_=>pure (.slice base (len+n) c)).run P w= .ok (.slice base (len+n) c) w':=by
  cases base with
  |none=>rw[hb rfl];rfl
  |some ad=>simp only[Sem.run_bind,hst ad rfl,Result.andThen_ok,Sem.run_pure]
 rcases hsrc with ⟨hd,hl,hf⟩|⟨k,l,i,zv,rfl,rfl,h1,h2,rfl,⟨ti,h3,h4⟩,h5,rfl⟩
 ·have hfalse:(match d with| .int k=>true|x=>false)=false:=by cases d<;>first|rfl|exact absurd rfl (hd _)
  simp only[Builtin.append_,a0,a1,b0,b1,Sem.run_bind,i7 hu,i7 hx,Result.andThen_ok,E4 hs,Sem.run_pure]
  rw[if_neg Bool.false_ne_true]
  simp only[Sem.run_bind,hl,Result.andThen_ok]
  rw[if_pos hle]
  simp only[Bool.not_false,if_true,Sem.run_bind,hf,Result.andThen_ok]
  exact fin
 ·have t1:¬IntKind.i64.wrap l<0:=by rw[h1];omega
  have t2:¬IntKind.i64.wrap l* ↑ti.bytes>2^48:=by rw[h1];omega
  simp only[Builtin.append_,a0,a1,b0,b1,Sem.run_bind,i7 hu,i7 hx,Result.andThen_ok,E4 hs,Sem.run_pure]
  rw[if_pos trivial]
  simp only[Sem.run_bind,asInt,asIntOf,Sem.run_pure,Result.andThen_ok]
  rw[if_neg t1]
  simp only[Sem.run_bind,C0 h3,Result.andThen_ok]
  rw[if_neg t2]
  simp only[Sem.run_bind,Sem.run_pure,Result.andThen_ok,h1]
  rw[if_pos hle]
  simp only[Bool.not_true,Bool.false_eq_true,if_false,Sem.run_bind]
  by_cases h0:l.toNat*size=0
  ·rw[if_pos h0]at fin ⊢
   exact fin
  ·rw[if_neg h0]at fin ⊢
   simp only[Sem.run_bind,h5,Result.andThen_ok,Sem.run_pure]
   exact fin
theorem d0f{sT xT e:TypeId}{d:TypeDesc}{size n len c:Nat}{base:Option Addr}{vx:Value}{vs olds:List Value}{ti:TypeInfo}{zv:Value}(hu:P.underlying sT=some (.slice e))(hx:P.underlying xT=some d)
  (hs:E2 P e=some size) (hlt:c<len+n) (hti:P.info? e=some ti) (hb0:0<ti.bytes) (hb:(2*(len+n)+768)*ti.bytes≤2^47) (hz:∀w,(zeroValue e).run P w= .ok zv w)
  (hold:∀w',w'.heap=w.heap→(Builtin.firstCells size len (.slice base len c)).run P w'= .ok ⟨olds⟩ w')
  (hsrc:((∀k,d≠ .int k)∧(Builtin.lenOf vx).run P w= .ok n w∧(∀w',w'.heap=w.heap→(Builtin.firstCells size n vx).run P w'= .ok ⟨vs⟩ w'))∨
   ∃k l i,d= .int k∧vx= .int i l∧IntKind.i64.wrap l=l∧0≤l∧n=l.toNat∧l*ti.bytes≤2^47∧
    vs=(if n*size=0 then[]else(Builtin.zeroCells zv.cells n).toList)) (ty:TypeId):
  ∃nc,len+n≤nc∧(Builtin.append_ #[sT,xT] ty #[.slice base len c,vx]).run P w=
   .ok (.slice (some ⟨w.heap.size,0,none⟩) (len+n) nc) { w with drawn:=w.drawn+1,heap:=w.heap.push (.cells (⟨olds⟩++⟨vs⟩++Builtin.zeroCells zv.cells (nc - (len+n))) e) }:=by
 have a0:(#[sT,xT]:Array TypeId)[0]? =some sT:=rfl
 have a1:(#[sT,xT]:Array TypeId)[1]? =some xT:=rfl
 have b0:(#[Value.slice base len c,vx]:Array Value)[0]? =some (.slice base len c):=rfl
 have b1:(#[Value.slice base len c,vx]:Array Value)[1]? =some vx:=rfl
 have hcap:=c5Y hlt
 have q1:¬(Builtin.nextslicecap (len+n) c*ti.bytes>2^48):=by
  have:=Nat.mul_le_mul_right ti.bytes hcap
  omega
 have hneed:len+n≤2^47:=by
  have:len+n≤(2*(len+n)+768)*ti.bytes:=by
   calc len+n≤(2*(len+n)+768)*1:=by omega
    _≤(2*(len+n)+768)*ti.bytes:=Nat.mul_le_mul_left _ hb0
  omega
 have hmax:∀(p:Prop),¬(((len+n:Nat):Int)>IntKind.i64.max∧p):=by
  intro p h
  have:IntKind.i64.max=9223372036854775807:=by decide
  rw[this]at h
  omega
 refine⟨len+n+w.tape w.drawn (.appendCap (len+n) c e) % (2^63 - (len+n)),Nat.le_add_right _ _, ?_⟩
 rcases hsrc with ⟨hd,hl,hf⟩|⟨k,l,i,rfl,rfl,h1,h2,rfl,h4,rfl⟩
 ·have hfalse:(match d with| .int k=>true|x=>false)=false:=by cases d<;>first|rfl|exact absurd rfl (hd _)
  simp only[Builtin.append_,a0,a1,b0,b1,Sem.run_bind,i7 hu,i7 hx,Result.andThen_ok,E4 hs,Sem.run_pure]
  rw[if_neg Bool.false_ne_true]
  simp only[Sem.run_bind,hl,Result.andThen_ok]
  rw[if_neg (by omega)]
  simp only[Sem.run_bind,C0 hti,Result.andThen_ok]
  rw[if_neg (hmax _)]
  simp only[Sem.run_bind,C0 hti,Result.andThen_ok]
  rw[if_neg q1]
  simp only[Sem.run_bind,run_choose,Question.forced,Bool.false_eq_true,if_false,Result.andThen_ok,C0 hti,run_askRoom,Question.cut]
  rw[hold { w with drawn:=w.drawn+1 } rfl]
  simp only[Result.andThen_ok,Bool.not_false,if_true]
  rw[hf { w with drawn:=w.drawn+1 } rfl]
  simp only[Result.andThen_ok,hz,newRow,Sem.run_bind,run_newObj,Sem.run_pure]
 ·have t1:¬IntKind.i64.wrap l<0:=by rw[h1];omega
  have t2:¬IntKind.i64.wrap l* ↑ti.bytes>2^48:=by rw[h1];omega
  simp only[Builtin.append_,a0,a1,b0,b1,Sem.run_bind,i7 hu,i7 hx,Result.andThen_ok,E4 hs,Sem.run_pure]
  rw[if_pos trivial]
  simp only[Sem.run_bind,asInt,asIntOf,Sem.run_pure,Result.andThen_ok]
  rw[if_neg t1]
  simp only[Sem.run_bind,C0 hti,Result.andThen_ok]
  rw[if_neg t2]
  simp only[Sem.run_bind,Sem.run_pure,Result.andThen_ok,h1]
  rw[if_neg (by omega)]
  simp only[Sem.run_bind,C0 hti,Result.andThen_ok]
  rw[if_neg (hmax _)]
  simp only[Sem.run_bind,C0 hti,Result.andThen_ok]
  rw[if_neg q1]
  simp only[Sem.run_bind,run_choose,Question.forced,Bool.false_eq_true,if_false,Result.andThen_ok,C0 hti,run_askRoom,Question.cut]
  rw[hold { w with drawn:=w.drawn+1 } rfl]
  simp only[Result.andThen_ok,Bool.not_true,Bool.false_eq_true,if_false]
  by_cases h0:l.toNat*size=0
  ·rw[if_pos h0,if_pos h0]
   simp only[Sem.run_bind,Sem.run_pure,Result.andThen_ok,hz,newRow,run_newObj]
  ·rw[if_neg h0,if_neg h0]
   simp only[Sem.run_bind,Sem.run_pure,Result.andThen_ok,hz,newRow,run_newObj]
theorem d0r(R:K9 E w0 H w ρ){sT xT ty:TypeId}{s x a:AV}{vs vx:Value}{H':AHeap}(h:a1T P E H sT s xT x=some (a,H'))(hs:rel ρ s vs)(hx:rel ρ x vx)(hf:a4P ρ H H'):
  W8 E w0 H ρ a H' ((Builtin.append_ #[sT,xT] ty #[vs,vx]).run P w):=by
 unfold a1T at h
 simp only[Option.bind_eq_bind,Option.bind_eq_some_iff]at h
 obtain⟨e,he,size,hsz,bytes,hby,z,hz,h⟩:=h
 obtain⟨ti,hti,rfl⟩:=c9j hby
 obtain⟨zv,_,hzr⟩:=a5o (P:=P) (ρ:=ρ) hz w
 have hzv:∃zv,(∀w,(zeroValue e).run P w= .ok zv w)∧rel ρ z zv:=by
  unfold U3 at hz
  rw[hti]at hz
  cases hzz:ti.zero with
  |none=>simp only[hzz]at hz;cases hz
  |some u=>
   simp only[hzz,Option.map_some,Option.some.injEq]at hz
   subst hz
   exact⟨u,fun w=>by simp[zeroValue,C0 hti,hzz],c3V u⟩
 obtain⟨zv,hzv,hzr⟩:=hzv
 split at h
 ·rename_i hzs
  have hzc:zv.cells.size=size:=by
   have:=B2 (a3E hzr)
   simp at this;omega
  have main:∀ {n:Nat} {news:List AV} {nv:List Value} {d:TypeDesc},P.underlying xT=some d→Z2 E H size ti.bytes s n news=some (a,H')→w5 ρ news nv→
    (∀w',w'.heap=w.heap→(((∀k,d≠ .int k)∧(Builtin.lenOf vx).run P w'= .ok n w'∧(Builtin.firstCells size n vx).run P w'= .ok ⟨nv⟩ w')∨
     ∃k l i,d= .int k∧vx= .int i l∧IntKind.i64.wrap l=l∧0≤l∧n=l.toNat∧l*ti.bytes≤2^47∧nv=(if n*size=0 then[]else(Builtin.zeroCells zv.cells n).toList)))→
    W8 E w0 H ρ a H' ((Builtin.append_ #[sT,xT] ty #[vs,vx]).run P w):=by
   intro n news nv d hxd hg hnv hsrc
   have hsl:∃base len c,vs= .slice base len c:=by
    unfold Z2 at hg
    split at hg
    ·split at hg
     ·simp only[rel]at hs;exact⟨_,_,_,hs⟩
     ·simp only[rel]at hs;obtain⟨a,c,rfl,_⟩:=hs;exact⟨_,_,_,rfl⟩
     ·cases hg
    ·cases hg
   obtain⟨base,len,c,rfl⟩:=hsl
   by_cases hle:len+n≤c
   ·obtain⟨w',ρ',g1,g2,g3,g4,g5,g6,g7⟩:=d9p R hg hs hle hnv hf P
    refine⟨_,w',ρ',d2i (a4Y he) hxd hsz hle g1 g2 ?_ ty,g3,g4,g5,g6,g7⟩
    rcases hsrc w rfl with hh|⟨k,l,i,h1,h2,h3,h4,h5,h6,h7⟩
    ·exact .inl hh
    ·exact .inr ⟨k,l,i,zv,h1,h2,h3,h4,h5,⟨ti,hti,h6⟩,hzv,h7⟩
   ·obtain⟨g1,g2,olds,g3,g4⟩:=d8e R hg hs (by omega) hnv hf P
    obtain⟨nc,k1,k2⟩:=d0f (P:=P) (w:=w) (vs:=nv) (a4Y he) hxd hsz (by omega) hti g1 g2 hzv g3 (by
     rcases hsrc w rfl with hh|hh
     ·refine .inl ⟨hh.1,hh.2.1,fun w' hw=> ?_⟩
      rcases hsrc w' hw with hh'|⟨k,l,i,h1,_⟩
      ·exact hh'.2.2
      ·exact absurd h1 (hh.1 k)
     ·exact .inr hh) ty
    obtain⟨ρ',m1,m2,m3,m4,m5⟩:=g4 { w with drawn:=w.drawn+1,heap:=w.heap.push (.cells (⟨olds⟩++⟨nv⟩++Builtin.zeroCells zv.cells (nc - (len+n))) e) } e
     (Builtin.zeroCells zv.cells (nc - (len+n))) nc k1 (by rw[c3E,hzc]) rfl ⟨rfl,rfl⟩
    exact⟨_,_,ρ',k2,m1,m2,m3,m4,m5⟩
  split at h
  ·rename_i k hk
   simp only[Option.bind_eq_some_iff]at h
   obtain⟨l,hl,h⟩:=h
   split at h
   ·rename_i hc
    obtain⟨i,rfl⟩:=d2g hl hx
    refine main (nv:=if l.toNat*size=0 then[]else(Builtin.zeroCells zv.cells l.toNat).toList) hk h ?_ (fun w' hw=> .inr ⟨k,l,i,rfl,rfl,hc.1,hc.2.1,rfl,hc.2.2,rfl⟩)
    split
    ·rename_i h0
     have:rep z.cells l.toNat=[]:=by
      apply List.eq_nil_of_length_eq_zero
      rw[b9w,hzs,h0]
     rw[this];exact u9.2 rfl
    ·exact c8B hzr _
   ·cases h
  ·rename_i d hd hxd
   simp only[Option.bind_eq_some_iff]at h
   obtain⟨n,hn,news,hnews,h⟩:=h
   obtain⟨nv,r1,r2⟩:=b5F (P:=P) R hn (Nat.le_refl _) hnews hx
   exact main hxd h r2 (fun w' hw=> .inl ⟨fun k e=>hd k e,d0J hn hx w',r1 w' hw⟩)
  ·cases h
 ·cases h
end
end
section
section
variable{E:j6}{w0:World}{H:AHeap}{w:World}{ρ:B7}{P:Program}
theorem W8.of_turns{H':AHeap}{w':World}{a:AV}{v:Value}{r:Result Value}(h:r= .ok v w')(hr:K9 E w0 H' w' ρ)(hn:H'.next=H.next)(ha:rel ρ a v):
  W8 E w0 H ρ a H' r:=⟨v,w',ρ,h,Ext.refl _,fun _ _=>rfl,ha,hr,by omega⟩
theorem b4h{o:Id}{i:Nat}{vs:List AV}{H':AHeap}(h:F0 H o i vs=some H'):H'.next=H.next:=by
 unfold F0 at h
 split at h
 ·cases h;rfl
 ·split at h
  ·cases h
  ·split at h
   ·split at h
    ·cases h;simp
    ·cases h
   ·cases h
theorem d4o(R:K9 E w0 H w ρ){dT ty:TypeId}{tys:Array TypeId}(a0:tys[0]? =some dT){d x a:AV}{vd vx:Value}{H':AHeap}(h:b6T P E H dT d x=some (a,H'))(hd:rel ρ d vd)(hx:rel ρ x vx):
  W8 E w0 H ρ a H' ((Builtin.copy_ tys ty #[vd,vx]).run P w):=by
 unfold b6T at h
 simp only[Option.bind_eq_bind,Option.bind_eq_some_iff]at h
 obtain⟨e,he,size,hs,k,hk,h⟩:=h
 have b0:(#[vd,vx]:Array Value)[0]? =some vd:=rfl
 have b1:(#[vd,vx]:Array Value)[1]? =some vx:=rfl
 have hl:=d0J (P:=P) hk hx w
 split at h
 ·cases h
  simp only[rel]at hd;subst hd
  refine W8.same R (v:=goInt 0) ?_ (by simp only[rel,goInt])
  have hfc:(Builtin.firstCells size 0 vx).run P w= .ok #[] w:=by
   have:a0Y E H size 0 x=some []∨True:= .inr trivial
   unfold a5b at hk
   split at hk
   ·simp only[rel]at hx;subst hx;rfl
   ·simp only[rel]at hx;obtain⟨ad,c,rfl,_⟩:=hx
    simp[Builtin.firstCells,loadCells,loadCellsFrom]
   ·simp only[rel]at hx;subst hx
    simp only[Builtin.firstCells,Sem.run_pure]
    congr 1
    apply Array.ext'
    simp
   ·cases hk
  simp only[Builtin.copy_,a0,b0,b1,Sem.run_bind,i7 (a4Y he),Result.andThen_ok,hl,E4 hs,Nat.min_def,Nat.le_zero_eq]
  by_cases h0:k=0
  ·subst h0;rw[if_pos rfl,hfc];rfl
  ·rw[if_neg h0,hfc];rfl
 ·rename_i o i len cap ex sz
  simp only[Option.bind_eq_some_iff]at h
  obtain⟨news,hn,H1,hst,h⟩:=h
  cases h
  simp only[rel]at hd
  obtain⟨ad,c,rfl,g1,g2,g3,g4,g5⟩:=hd
  obtain⟨nv,r1,r2⟩:=b5F (P:=P) R hk (Nat.min_le_left _ _) hn hx
  have hrun:∀w',(storeCells ad nv).run P w= .ok () w'→(Builtin.copy_ tys ty #[.slice (some ad) len c,vx]).run P w= .ok (.int .i64 (min k len:Nat)) w':=by
   intro w' hw'
   simp only[Builtin.copy_,a0,b0,b1,Sem.run_bind,i7 (a4Y he),Result.andThen_ok,hl,E4 hs]
   rw[show k.min len=min k len from rfl,r1 w rfl]
   simp only[Result.andThen_ok,hw',Sem.run_pure,goInt]
  rcases R.stores (P:=P) hst r2 with ⟨rfl,rfl,rfl⟩|⟨hnn,b,d,w',hb,hw',R'⟩
  ·exact W8.same R (hrun w rfl) (by simp only[rel])
  ·have hne:c≠0:=by
    rintro rfl
    have hlen0:len=0:=by omega
    subst hlen0
    refine hnn ?_
    unfold a0Y at hn
    split at hn
    ·cases hn;rfl
    ·have:(min k 0)*size=0:=by simp
     rw[this]at hn
     unfold M9 at hn
     rw[if_pos rfl]at hn
     cases hn;rfl
    ·cases hn;simp
    ·cases hn
   obtain⟨b',d',hb',rfl⟩:=g4.resolve_left hne
   rw[hb]at hb';cases hb'
   exact W8.of_turns (hrun w' hw') R' (b4h hst) (by simp only[rel])
 ·cases h
theorem d2k(R:K9 E w0 H w ρ){t:TypeId}{o:Id}{i:Nat}{x:AV}{va vx:Value}{H':AHeap}(hs:E2 P t=some x.cells.length)(h:F0 H o i x.cells=some H')
  (ha:rel ρ (.ptr o i) va) (hx:rel ρ x vx):d6H E w0 ρ H' ((Instr.storeAt t va vx).run P w)∧H'.next=H.next:=by
 refine⟨?_,b4h h⟩
 have hc:=a3E hx
 have hl:=B2 hc
 simp only[Array.length_toList]at hl
 simp only[rel]at ha
 obtain⟨b,d,hb,rfl⟩:=ha
 have hrun:∀w',(storeCells ⟨b,d+i,none⟩ vx.cells.toList).run P w= .ok () w'→(Instr.storeAt t (.pointer (some ⟨b,d+i,none⟩)) vx).run P w= .ok () w':=by
  intro w' hw'
  simp only[Instr.storeAt,Instr.sureAddr,storeVar,Sem.run_bind,Sem.run_pure,Result.andThen_ok,E4 hs]
  rw[if_neg (by omega)]
  exact hw'
 rcases R.stores (P:=P) h hc with ⟨h1,h2,rfl⟩|⟨_,b',d',w',hb',hw',R'⟩
 ·exact⟨w,hrun w (by rw[h2];rfl),R⟩
 ·rw[hb]at hb';cases hb'
  exact⟨w',hrun w' hw',R'⟩
def c2g(ρ:B7):a1N→Go.Place→Prop
 | .val a, .val v=>rel ρ a v
 | .var o i, .var ad=>∃b d,Q3 ρ o=some (b,d)∧ad=⟨b,d+i,none⟩
 |_,_=>False
theorem a7N(R:K9 E w0 H w ρ){t:TypeId}{x:a1N}{p:Go.Place}{a:AV}(h:x.get P E H t=some a)(hx:c2g ρ x p):∃v,(p.get t).run P w= .ok v w∧rel ρ a v:=by
 cases x with
 |val a'=>
  cases p with
  |val v=>simp only[a1N.get]at h;cases h;exact⟨v,rfl,hx⟩
  |var ad=>exact hx.elim
 |var o i=>
  cases p with
  |val v=>exact hx.elim
  |var ad=>
   obtain⟨b,d,hb,rfl⟩:=hx
   simp only[a1N.get]at h
   obtain⟨b',d',v,h1,h2,h3⟩:=a8Q (P:=P) R h
   rw[hb]at h1;cases h1
   exact⟨v,h2,h3⟩
theorem a5G(R:K9 E w0 H w ρ):∀ {path:List FieldStep} {t t':TypeId} {x x':a1N} {p:Go.Place},a0y P E H path t x=some (t',x')→c2g ρ x p→
  ∃p',(Go.follow path t p).run P w= .ok (t',p') w∧c2g ρ x' p'
 | [],t,t',x,x',p,h,hx=>by
  simp only[a0y]at h;cases h
  exact⟨p,rfl,hx⟩
 |s::rest,t,t',x,x',p,h,hx=>by
  simp only[a0y,Option.bind_eq_bind,Option.bind_eq_some_iff]at h
  obtain⟨fd,hfd,h⟩:=h
  obtain⟨fields,hu,hf⟩:=b2B hfd
  split at h
  ·rename_i hc
   obtain⟨n,hn⟩:=Option.isSome_iff_exists.1 hc.1
   have hn0:n≠0:=by rintro rfl;exact hc.2 hn
   split at h
   ·rename_i hder
    simp only[Option.bind_eq_some_iff]at h
    obtain⟨a,ha,h⟩:=h
    split at h
    ·rename_i o i
     obtain⟨v,h1,h2⟩:=a7N (P:=P) R ha hx
     simp only[rel]at h2
     obtain⟨b,d,hb,rfl⟩:=h2
     obtain⟨p',g1,g2⟩:=a5G R (p:= .var ⟨b,d+i+fd.offset,none⟩) h ⟨b,d,hb,by rw[Nat.add_assoc]⟩
     refine⟨p', ?_,g2⟩
     simp only[Go.follow,Sem.run_bind,i7 hu,Result.andThen_ok,hf,hder,if_true,h1,asAddr,Sem.run_pure,a9R hn hn0,g1]
    ·cases h
   ·rename_i hder
    split at h
    ·rename_i o i
     cases p with
     |val v=>exact hx.elim
     |var ad=>
      obtain⟨b,d,hb,rfl⟩:=hx
      obtain⟨p',g1,g2⟩:=a5G R (p:= .var ⟨b,d+i+fd.offset,none⟩) h ⟨b,d,hb,by rw[Nat.add_assoc]⟩
      refine⟨p', ?_,g2⟩
      simp only[Go.follow,Sem.run_bind,i7 hu,Result.andThen_ok,hf,hder,Bool.false_eq_true,if_false,a9R hn hn0,g1]
    ·rename_i cs
     simp only[Option.bind_eq_some_iff]at h
     obtain⟨y,hy,h⟩:=h
     cases p with
     |var ad=>exact hx.elim
     |val v=>
      simp only[c2g,rel]at hx
      obtain⟨xs,rfl,hr⟩:=hx
      obtain⟨v,h1,h2⟩:=a5T hr hy w
      obtain⟨p',g1,g2⟩:=a5G R (p:= .val v) h h2
      refine⟨p', ?_,g2⟩
      simp only[Go.follow,Sem.run_bind,i7 hu,Result.andThen_ok,hf,hder,Bool.false_eq_true,if_false,h1,g1]
    ·cases h
  ·cases h
theorem c9X(R:K9 E w0 H w ρ){t:TypeId}{a r:AV}{v:Value}{name:String}{f:FuncId}{fuel:Nat}(h:a1Y P E H t a name=some (f,r))(hv:rel ρ a v):
  ∃vr,(Go.method (fuel+1) t v name).run P w= .ok (f,vr) w∧rel ρ r vr:=by
 unfold a1Y at h
 simp only[Option.bind_eq_bind,Option.bind_eq_some_iff]at h
 obtain⟨info,hi,m,hm,⟨xt,x⟩,hfo,⟨g,pr⟩,hfn,h⟩:=h
 obtain⟨p,h1,h2⟩:=a5G (P:=P) R hfo (p:= .val v) hv
 have head:∀(q:FuncId×Value),(do pure (g, ←Go.receiverAt xt p pr (if m.path.isEmpty then some ((name.splitOn ".").getLastD name) else none)):Sem (FuncId×Value)).run P w= .ok q w→
   (Go.method (fuel+1) t v name).run P w= .ok q w:=by
  intro q hq
  simp only[Go.method,Sem.run_bind,C0 hi,Result.andThen_ok,hm,h1,hfn]
  simpa only[Sem.run_bind]using hq
 simp only at h
 cases hu:P.underlying xt with
 |none=>rw[hu]at h;cases h
 |some d=>
  rw[hu]at h
  by_cases hp:∃e,d= .pointer e
  ·obtain⟨e,rfl⟩:=hp
   cases pr with
   |false=>cases h
   |true=>
    simp only[Option.map_eq_some_iff,Prod.mk.injEq]at h
    obtain⟨y,hy,rfl,rfl⟩:=h
    obtain⟨vr,g1,g2⟩:=a7N (P:=P) R hy h2
    refine⟨vr,head _ ?_,g2⟩
    cases p<;>simp only[Go.receiverAt,Sem.run_bind,i7 hu,Result.andThen_ok,g1,Sem.run_pure]
  ·cases pr with
   |true=>
    cases x with
    |val a'=>exfalso;cases d<;>first|exact hp ⟨_,rfl⟩|cases h
    |var o i=>
     cases p with
     |val v=>exact h2.elim
     |var ad=>
      obtain⟨b,d',hb,rfl⟩:=h2
      have he:some (g,AV.ptr o i)=some (f,r):=by cases d<;>first|exact h|exact(hp ⟨_,rfl⟩).elim
      cases he
      refine⟨.pointer (some ⟨b,d'+i,none⟩),head _ ?_,by simp only[rel];exact⟨b,d',hb,rfl⟩⟩
      simp only[Go.receiverAt,Sem.run_bind,i7 hu,Result.andThen_ok]
      cases d<;>first|rfl|exact(hp ⟨_,rfl⟩).elim
   |false=>
    have he:(x.get P E H xt).map (fun r=>(g,r))=some (f,r):=by cases d<;>first|exact h|exact(hp ⟨_,rfl⟩).elim
    simp only[Option.map_eq_some_iff,Prod.mk.injEq]at he
    obtain⟨y,hy,rfl,rfl⟩:=he
    obtain⟨vr,g1,g2⟩:=a7N (P:=P) R hy h2
    refine⟨vr,head _ ?_,g2⟩
    have:(Go.receiverAt xt p false (if m.path.isEmpty then some ((name.splitOn ".").getLastD name) else none)).run P w= .ok vr w:=by
     simp only[Go.receiverAt,Sem.run_bind,i7 hu,Result.andThen_ok]
     cases d<;>first|exact(hp ⟨_,rfl⟩).elim|(cases p<;>exact g1)
    simp only[Sem.run_bind,this,Result.andThen_ok,Sem.run_pure]
end
end
section
section
variable{E:j6}{w0:World}{H:AHeap}{w:World}{ρ:B7}{P:Program}
theorem d1O{f:FuncId}{args:Array Value}(h:b2X P f=true)(w:World):(callFunc f args).run P w= .ok (.enter f args) w:=by
 unfold b2X at h
 split at h
 ·rename_i fn hf
  simp only[Bool.and_eq_true,bne_iff_ne,ne_eq]at h
  obtain⟨c,hc⟩:=Option.isSome_iff_exists.1 h.1
  have h2:(fn.name=="runtime.NumGoroutine")=false:=by simpa using h.2
  simp only[callFunc,Sem.run_bind,run_program,Result.andThen_ok,hf,h2,Bool.false_eq_true,if_false,hc,Option.isNone_some,Sem.run_pure]
 ·cases h
theorem c1f{ρa:Operand→AV}{ρv:Operand→Value}(h:∀x,rel ρ (ρa x) (ρv x)):∀l:List Operand,w5 ρ (l.map ρa) (l.map ρv)
 | []=>u9.2 rfl
 |x::l=>r7.2 ⟨h x,c1f h l⟩
theorem c7s{ρa:Operand→AV}{ρv:Operand→Value}(h:∀x,rel ρ (ρa x) (ρv x)):∀l:List (Nat×Operand),d5L ρ (l.map fun p=>(p.1,ρa p.2)) (l.map fun p=>(p.1,ρv p.2))
 | []=>rfl
 |(_,x)::l=>⟨ρv x,_,rfl,h x,c7s h l⟩
theorem d7e{a b:AV}{l:List Value}(h:w5 ρ [a,b] l):∃x y,l=[x,y]∧rel ρ a x∧rel ρ b y:=by
 cases l with
 |nil=>exact(A6 h).elim
 |cons x l=>
  rw[r7]at h
  cases l with
  |nil=>exact(A6 h.2).elim
  |cons y l=>rw[r7,u9]at h;obtain⟨h1,h2,rfl⟩:=h;exact⟨x,y,rfl,h1,h2⟩
theorem d1E{a:AV}{l:List Value}(h:w5 ρ [a] l):∃x,l=[x]∧rel ρ a x:=by
 cases l with
 |nil=>exact(A6 h).elim
 |cons x l=>rw[r7,u9]at h;obtain⟨h1,rfl⟩:=h;exact⟨x,rfl,h1⟩
theorem d5G{t ty:TypeId}{x:AV}{vx:Value}{n:Nat}(h:c4m P t x=some n)(hx:rel ρ x vx)(w:World):(Builtin.len_ #[t] ty #[vx]).run P w= .ok (goInt n) w:=by
 have a0:(#[t]:Array TypeId)[0]? =some t:=rfl
 have b0:(#[vx]:Array Value)[0]? =some vx:=rfl
 unfold c4m at h
 split at h
 ·rename_i s hu;cases h;simp only[rel]at hx;subst hx
  simp only[Builtin.len_,a0,b0,Sem.run_bind,i7 hu,Result.andThen_ok,Sem.run_pure]
  congr 2
 ·rename_i hu;cases h;simp only[rel]at hx;subst hx
  simp only[Builtin.len_,a0,b0,Sem.run_bind,i7 hu,Result.andThen_ok,Sem.run_pure]
 ·rename_i hu;cases h;simp only[rel]at hx;obtain⟨a,c,rfl,_⟩:=hx
  simp only[Builtin.len_,a0,b0,Sem.run_bind,i7 hu,Result.andThen_ok,Sem.run_pure]
 ·rename_i hu;cases h
  simp only[Builtin.len_,a0,b0,Sem.run_bind,i7 hu,Result.andThen_ok,Sem.run_pure]
 ·cases h
theorem c9Z(R:K9 E w0 H w ρ){t ty:TypeId}{x:AV}{vx:Value}{n:Nat}(h:b0w P H t x=some n)(hx:rel ρ x vx):(Builtin.len_ #[t] ty #[vx]).run P w= .ok (goInt n) w:=by
 have a0:(#[t]:Array TypeId)[0]? =some t:=rfl
 have b0:(#[vx]:Array Value)[0]? =some vx:=rfl
 unfold b0w at h
 split at h
 ·rename_i hu;cases h;simp only[rel]at hx;subst hx
  simp only[Builtin.len_,a0,b0,Sem.run_bind,i7 hu,Result.andThen_ok,Sem.run_pure]
  rfl
 ·rename_i k hu
  split at h
  ·rename_i es clock hk
   cases h
   obtain⟨l,mes,h1,h2,h3⟩:=R.mapOf hk
   simp only[rel]at hx
   obtain⟨l',hl',rfl⟩:=hx
   rw[h1]at hl';cases hl'
   have:=d3j h3
   simp only[Array.length_toList]at this
   simp only[Builtin.len_,a0,b0,Sem.run_bind,i7 hu,Result.andThen_ok,a1I h2,Sem.run_pure,this]
  ·cases h
 ·cases h
theorem d5V{t ty:TypeId}{x:AV}{vx:Value}{n:Nat}(h:d1D P t x=some n)(hx:rel ρ x vx)(w:World):(Builtin.cap_ #[t] ty #[vx]).run P w= .ok (goInt n) w:=by
 have a0:(#[t]:Array TypeId)[0]? =some t:=rfl
 have b0:(#[vx]:Array Value)[0]? =some vx:=rfl
 unfold d1D at h
 split at h
 ·rename_i hu;cases h;simp only[rel]at hx;subst hx
  simp only[Builtin.cap_,a0,b0,Sem.run_bind,i7 hu,Result.andThen_ok,Sem.run_pure]
 ·rename_i hu;cases h;simp only[rel]at hx;obtain⟨a,c,rfl,_,_,h3,_⟩:=hx
  obtain rfl:=h3 trivial
  simp only[Builtin.cap_,a0,b0,Sem.run_bind,i7 hu,Result.andThen_ok,Sem.run_pure]
 ·rename_i hu;cases h
  simp only[Builtin.cap_,a0,b0,Sem.run_bind,i7 hu,Result.andThen_ok,Sem.run_pure]
 ·cases h
theorem c2p(b:Bool):∀ {l:List AV} {vs:List Value} {x r:AV} {vx:Value},l.foldlM (fun x y=>match x,y with
   | .int k a, .int _ c=>some (.int k (if b then(if c>a then c else a) else(if c<a then c else a)))
   |_,_=>none) x=some r→rel ρ x vx→w5 ρ l vs→∀w:World,∃v,(vs.foldlM (if b then Builtin.max2 else Builtin.min2) vx).run P w= .ok v w∧rel ρ r v
 | [],vs,x,r,vx,h,hx,hr,w=>by
  rw[u9]at hr;subst hr
  simp at h;subst h
  exact⟨vx,rfl,hx⟩
 |y::l,[],_,_,_,_,_,hr,_=>(A6 hr).elim
 |y::l,vy::vs,x,r,vx,h,hx,hr,w=>by
  rw[r7]at hr
  simp only[List.foldlM_cons,Option.bind_eq_bind,Option.bind_eq_some_iff]at h
  obtain⟨z,hz,h⟩:=h
  split at hz
  ·rename_i k a k' c
   cases hz
   have hxx:=hx
   have hyy:=hr.1
   simp only[rel]at hxx hyy;subst hxx hyy
   obtain⟨v,h1,h2⟩:=c2p b (vx:= .int k (if b then(if c>a then c else a) else(if c<a then c else a))) h (by simp only[rel]) hr.2 w
   refine⟨v, ?_,h2⟩
   rw[List.foldlM_cons]
   cases b
   ·simp only[Bool.false_eq_true,if_false]at h1 ⊢
    simp only[Sem.run_bind,Builtin.min2,Sem.run_pure,Result.andThen_ok]
    exact h1
   ·simp only[if_true]at h1 ⊢
    simp only[Sem.run_bind,Builtin.max2,Sem.run_pure,Result.andThen_ok]
    exact h1
  ·cases hz
theorem b8I{b:Bool}{l:List AV}{r:AV}{vs:List Value}{ty:TypeId}{tys:Array TypeId}(h:a5D b l=some r)(hr:w5 ρ l vs)(w:World):
  ∃v,((if b then Builtin.max_ else Builtin.min_) tys ty ⟨vs⟩).run P w= .ok v w∧rel ρ r v:=by
 cases l with
 |nil=>simp[a5D]at h
 |cons x l=>
  cases vs with
  |nil=>exact(A6 hr).elim
  |cons v vs=>
   rw[r7]at hr
   simp only[a5D]at h
   obtain⟨u,h1,h2⟩:=c2p (P:=P) b h hr.1 hr.2 w
   refine⟨u, ?_,h2⟩
   cases b
   ·simpa only[Bool.false_eq_true,if_false,Builtin.min_]using h1
   ·simpa only[if_true,Builtin.max_]using h1
def w8(E:j6)(w0:World)(H:AHeap)(ρ:B7)(w:World)(r:a1u)(run:Result Next):Prop:=
 match r with
 | .val a H'=>a4P ρ H H'→∃nx v w' ρ',run= .ok nx w'∧(nx= .value v∨nx= .skip∧v=undef)∧Ext ρ ρ'∧(∀k,¬(H.next≤k∧k<H'.next)→ρ' k=ρ k)∧rel ρ' a v∧K9 E w0 H' w' ρ'∧H.next≤H'.next
 | .call f args H'=>H'=H∧∃vargs,run= .ok (.enter f vargs) w∧w5 ρ args vargs.toList
theorem w8.of_gives{a:AV}{H':AHeap}{s:Sem Value}(h:a4P ρ H H'→W8 E w0 H ρ a H' (s.run P w)):w8 E w0 H ρ w (.val a H') ((do pure (Next.value (←s)):Sem Next).run P w):=by
 intro hf
 obtain⟨v,w',ρ',h1,h2,h3,h4,h5,h6⟩:=h hf
 exact⟨.value v,v,w',ρ',by simp only[Sem.run_bind,h1,Result.andThen_ok,Sem.run_pure], .inl rfl,h2,h3,h4,h5,h6⟩
theorem w8.of_sees(R:K9 E w0 H w ρ){a:AV}{s:Sem Value}(h:∃v,s.run P w= .ok v w∧rel ρ a v):w8 E w0 H ρ w (.val a H) ((do pure (Next.value (←s)):Sem Next).run P w):=by
 obtain⟨v,h1,h2⟩:=h
 exact w8.of_gives fun _=>W8.same R h1 h2
theorem w8.of_turns{H':AHeap}{s:Sem Unit}(h:d6H E w0 ρ H' (s.run P w))(hn:H'.next=H.next):w8 E w0 H ρ w (.val A8 H') ((do s;pure Next.skip:Sem Next).run P w):=by
 intro _
 obtain⟨w',h1,h2⟩:=h
 exact⟨.skip,undef,w',ρ,by simp only[Sem.run_bind,h1,Result.andThen_ok,Sem.run_pure], .inr ⟨rfl,rfl⟩,Ext.refl _,fun _ _=>rfl,a5g,h2,by omega⟩
theorem b2G{f:FuncId}{args:List AV}{vargs:Array Value}{r:a1u}(h:Y2 P H f args=some r)(hr:w5 ρ args vargs.toList):
  w8 E w0 H ρ w r ((callFunc f vargs).run P w):=by
 unfold Y2 at h
 split at h
 ·rename_i hb
  cases h
  exact⟨rfl,vargs,d1O hb w,hr⟩
 ·cases h
theorem b0o(R:K9 E w0 H w ρ){t:TypeId}{a:AV}{v:Value}{name:String}{args:List AV}{vargs:Array Value}{r:a1u}
  (h:((a1Y P E H t a name).bind fun(g,r)=>Y2 P H g (r::args))=some r) (hv:rel ρ a v) (hr:w5 ρ args vargs.toList):
  w8 E w0 H ρ w r ((callMethod (.iface t v) name vargs).run P w):=by
 simp only[Option.bind_eq_some_iff]at h
 obtain⟨⟨g,rc⟩,hm,h⟩:=h
 obtain⟨k,hk⟩:∃k,P.types.size+Made.depth=k+1:=⟨P.types.size+Made.depth - 1,by
  have:0<Made.depth:=by decide
  omega⟩
 obtain⟨vr,h1,h2⟩:=c9X (P:=P) (fuel:=k) R hm hv
 have:(callMethod (.iface t v) name vargs).run P w=(callFunc g (#[vr]++vargs)).run P w:=by
  simp only[callMethod,Sem.run_bind,run_program,Result.andThen_ok]
  rw[hk,h1]
  rfl
 rw[this]
 exact b2G h (by simpa using r7.2 ⟨h2,hr⟩)
theorem d3n(R:K9 E w0 H w ρ){c:Call}{ty:TypeId}{ρa:Operand→AV}{ρv:Operand→Value}{r:a1u}(h:a1q P E H c ρa=some r)(hρ:∀x,rel ρ (ρa x) (ρv x)):
  w8 E w0 H ρ w r ((do let d←resolve ρv c ty;invoke d.target d.args:Sem Next).run P w):=by
 have hargs:w5 ρ (c.args.toList.map ρa) (c.args.map ρv).toList:=by
  rw[Array.toList_map];exact c1f hρ _
 unfold a1q at h
 simp only at h
 split at h
 ·rename_i f hc
  split at h
  ·rename_i g first captured hf
   have hx:=hρ f
   rw[hf]at hx
   simp only[rel]at hx
   obtain⟨x,y,hxv,hx1,hx2⟩:=hx
   have:(do let d←resolve ρv c ty;invoke d.target d.args:Sem Next).run P w=(callFunc g (x++c.args.map ρv++y)).run P w:=by
    simp only[resolve,hc,hxv,Deferred.ofValue,Sem.run_bind,Sem.run_pure,Result.andThen_ok,invoke]
   rw[this]
   exact b2G h (by simpa using W9 hx1 (W9 hargs hx2))
  ·rename_i name first captured hf
   have hx:=hρ f
   rw[hf]at hx
   simp only[rel]at hx
   obtain⟨x,y,hxv,hx1,hx2⟩:=hx
   split at h
   ·rename_i t v rest hfl
    have hall:=W9 hx1 hargs
    rw[hfl]at hall
    generalize hl:x.toList++(c.args.map ρv).toList=l at hall
    cases l with
    |nil=>exact(A6 hall).elim
    |cons u l=>
     rw[r7]at hall
     obtain⟨hu,hrest⟩:=hall
     simp only[rel]at hu
     obtain⟨vv,rfl,hvv⟩:=hu
     have hl':x++c.args.map ρv=⟨.iface t vv::l⟩:=by
      apply Array.ext';simpa using hl
     have:(do let d←resolve ρv c ty;invoke d.target d.args:Sem Next).run P w=(callMethod (.iface t vv) name ⟨l⟩).run P w:=by
      simp only[resolve,hc,hxv,Deferred.ofValue,Sem.run_bind,Sem.run_pure,Result.andThen_ok,invoke,hl']
      have e1:(⟨Value.iface t vv::l⟩:Array Value)[0]? =some (.iface t vv):=rfl
      have e2:(⟨Value.iface t vv::l⟩:Array Value).extract 1 (⟨Value.iface t vv::l⟩:Array Value).size=⟨l⟩:=by
       apply Array.ext'
       rw[Array.toList_extract,List.extract_eq_take_drop]
       simp
      simp only[e1,e2]
     rw[this]
     exact b0o R h hvv hrest
   ·cases h
  ·rename_i t path g pointer first captured hf
   have hx:=hρ f
   rw[hf]at hx
   simp only[rel]at hx
   obtain⟨x,y,hxv,hx1,hx2⟩:=hx
   split at h
   ·rename_i x0 rest e hpl hfl hu
    split at h
    ·rename_i hptr
     have hall:=W9 hx1 hargs
     rw[hfl]at hall
     generalize hl:x.toList++(c.args.map ρv).toList=l at hall
     cases l with
     |nil=>exact(A6 hall).elim
     |cons u l=>
      rw[r7]at hall
      obtain⟨hu0,hrest⟩:=hall
      have hl':x++c.args.map ρv=⟨u::l⟩:=by
       apply Array.ext';simpa using hl
      have hpath:path.toList=[]:=hpl
      have:(do let d←resolve ρv c ty;invoke d.target d.args:Sem Next).run P w=(callFunc g (#[u]++⟨l⟩)).run P w:=by
       simp only[resolve,hc,hxv,Deferred.ofValue,Sem.run_bind,Sem.run_pure,Result.andThen_ok,invoke,hl']
       have e1:(⟨u::l⟩:Array Value)[0]? =some u:=rfl
       have e2:(⟨u::l⟩:Array Value).extract 1 (⟨u::l⟩:Array Value).size=⟨l⟩:=by
        apply Array.ext'
        rw[Array.toList_extract,List.extract_eq_take_drop]
        simp
       simp only[e1,e2,Sem.run_bind,receiverVia,hpath,follow,Sem.run_pure,Result.andThen_ok,receiverAt,i7 hu,hptr,Place.get]
      rw[this]
      exact b2G h (by simpa using r7.2 ⟨hu0,hrest⟩)
    ·cases h
   ·cases h
  ·cases h
 ·rename_i recv name hc
  split at h
  ·rename_i t v hv
   have hx:=hρ recv
   rw[hv]at hx
   simp only[rel]at hx
   obtain⟨vv,hvx,hvv⟩:=hx
   have:(do let d←resolve ρv c ty;invoke d.target d.args:Sem Next).run P w=(callMethod (.iface t vv) name (c.args.map ρv)).run P w:=by
    simp only[resolve,hc,hvx,Sem.run_bind,Sem.run_pure,Result.andThen_ok,invoke]
    have e1:(#[Value.iface t vv]++c.args.map ρv:Array Value)[0]? =some (.iface t vv):=by
     rw[Array.getElem?_append_left (show 0< #[Value.iface t vv].size from Nat.zero_lt_one)];rfl
    have e2:(#[Value.iface t vv]++c.args.map ρv:Array Value).extract 1 (#[Value.iface t vv]++c.args.map ρv:Array Value).size=c.args.map ρv:=by
     apply Array.ext'
     rw[Array.toList_extract,List.extract_eq_take_drop,Array.toList_append]
     simp
     rw[List.take_of_length_le (by simp)]
    simp only[e1,e2]
   rw[this]
   exact b0o R h hvv hargs
  ·cases h
 ·rename_i b hc
  have hrun:(do let d←resolve ρv c ty;invoke d.target d.args:Sem Next).run P w=(builtin b c.argTypes ty (c.args.map fun| .const _=>true|_=>false) (c.args.map ρv)).run P w:=by
   simp only[resolve,hc,Sem.run_bind,Sem.run_pure,Result.andThen_ok,invoke]
   rfl
  rw[hrun]
  generalize hav:c.args.map ρv=av at hargs
  generalize c.argTypes=tys at h ⊢
  generalize (c.args.map fun| .const _=>true|_=>false)=consts
  obtain⟨al⟩:=av
  obtain⟨tl⟩:=tys
  split at h
  ·rename_i s x sT xT hl ht
   simp only[Option.map_eq_some_iff]at h
   obtain⟨⟨a,H'⟩,ha,rfl⟩:=h
   rw[hl]at hargs
   obtain⟨vs,vx,rfl,h1,h2⟩:=d7e hargs
   simp only at ht;subst ht
   exact w8.of_gives fun hf=>d0r R ha h1 h2 hf
  ·rename_i x t hl ht
   rw[hl]at hargs
   obtain⟨vx,rfl,h1⟩:=d1E hargs
   simp only at ht;subst ht
   split at h
   ·rename_i n hn
    cases h
    exact w8.of_sees R ⟨goInt n,d5G hn h1 w,by simp only[rel,goInt]⟩
   ·simp only[Option.map_eq_some_iff]at h
    obtain⟨n,hn,rfl⟩:=h
    exact w8.of_sees R ⟨goInt n,c9Z R hn h1,by simp only[rel,goInt]⟩
  ·rename_i x t hl ht
   rw[hl]at hargs
   obtain⟨vx,rfl,h1⟩:=d1E hargs
   simp only at ht;subst ht
   simp only[Option.map_eq_some_iff]at h
   obtain⟨n,hn,rfl⟩:=h
   exact w8.of_sees R ⟨goInt n,d5V hn h1 w,by simp only[rel,goInt]⟩
  ·rename_i d x dT tl' hl ht
   rw[hl]at hargs
   obtain⟨vd,vx,rfl,h1,h2⟩:=d7e hargs
   simp only at ht;subst ht
   simp only[Option.map_eq_some_iff]at h
   obtain⟨⟨a,H'⟩,ha,rfl⟩:=h
   exact w8.of_gives fun hf=>d4o R (ty:=ty) (tys:=⟨dT::tl'⟩) rfl ha h1 h2
  ·simp only[Option.map_eq_some_iff]at h
   obtain⟨a,ha,rfl⟩:=h
   obtain⟨v,h1,h2⟩:=b8I (P:=P) (ty:=ty) (tys:=⟨tl⟩) ha hargs w
   exact w8.of_sees R ⟨v,h1,h2⟩
  ·simp only[Option.map_eq_some_iff]at h
   obtain⟨a,ha,rfl⟩:=h
   obtain⟨v,h1,h2⟩:=b8I (P:=P) (ty:=ty) (tys:=⟨tl⟩) ha hargs w
   exact w8.of_sees R ⟨v,h1,h2⟩
  ·cases h
theorem c9l{ρa:Operand→AV}{ρv:Operand→Value}(h:∀x,rel ρ (ρa x) (ρv x))(o:Option Operand):d3T ρ (o.map ρa) (o.map ρv):=by
 cases o with
 |none=>trivial
 |some x=>exact h x
theorem a7C(R:K9 E w0 H w ρ){T:List AV}{o:Oper}{ρv:Operand→Value}{r:a1u}(h:opA P E T H o=some r)(hρ:∀x,rel ρ (p8 T x) (ρv x)):
  w8 E w0 H ρ w r ((execOp ρv o).run P w):=by
 obtain⟨dst,op,ty,pos,after,guard⟩:=o
 unfold opA at h
 simp only at h
 split at h
 case h_1 x=>cases h;exact fun _=>⟨_,ρv x,w,ρ,rfl, .inl rfl,Ext.refl _,fun _ _=>rfl,hρ x,R,Nat.le_refl _⟩
 case h_2 x=>cases h;exact fun _=>⟨_,ρv x,w,ρ,rfl, .inl rfl,Ext.refl _,fun _ _=>rfl,hρ x,R,Nat.le_refl _⟩
 case h_3 c a b=>
  split at h
  ·rename_i t ht
   cases h
   have hc:=hρ c
   rw[ht]at hc
   simp only[rel]at hc
   refine fun _=>⟨_,if t then ρv a else ρv b,w,ρ, ?_, .inl rfl,Ext.refl _,fun _ _=>rfl, ?_,R,Nat.le_refl _⟩
   ·simp only[execOp,hc,asBool,Sem.run_bind,Sem.run_pure,Result.andThen_ok]
   ·cases t
    ·exact hρ b
    ·exact hρ a
  ·cases h
 case h_4 e=>
  split at h
  ·rename_i z hz
   cases h
   exact w8.of_gives fun hf=>d1Z R hz hf
  ·cases h
 case h_5 e x=>cases h;exact w8.of_gives fun hf=>d5u R (hρ x) hf
 case h_6 t parts=>
  simp only[Option.map_eq_some_iff]at h
  obtain⟨a,ha,rfl⟩:=h
  exact w8.of_sees R (d2b ha (by rw[Array.toList_map];exact c7s hρ _) w)
 case h_7 t len parts=>
  simp only[Option.map_eq_some_iff]at h
  obtain⟨⟨a,H'⟩,ha,rfl⟩:=h
  exact w8.of_gives fun hf=>c0Z R ha (by rw[Array.toList_map];exact c7s hρ _) hf
 case h_8 t a=>
  split at h
  ·rename_i o i ha
   simp only[Option.map_eq_some_iff]at h
   obtain⟨x,hx,rfl⟩:=h
   have hr:=hρ a
   rw[ha]at hr
   simp only[rel]at hr
   obtain⟨b,d,hb,hv⟩:=hr
   obtain⟨b',d',v,h1,h2,h3⟩:=a8Q (P:=P) R hx
   rw[hb]at h1;cases h1
   refine w8.of_sees R (s:=Instr.loadAt t (ρv a)) ⟨v, ?_,h3⟩
   rw[hv]
   simp only[Instr.loadAt,Instr.sureAddr,Sem.run_bind,Sem.run_pure,Result.andThen_ok,h2]
  ·cases h
 case h_9 t a x=>
  split at h
  ·rename_i o i ha
   split at h
   ·rename_i hs
    simp only[Option.map_eq_some_iff]at h
    obtain⟨H',hst,rfl⟩:=h
    have hr:=hρ a
    rw[ha]at hr
    obtain⟨g1,g2⟩:=d2k (P:=P) R hs hst hr (hρ x)
    exact w8.of_turns g1 g2
   ·cases h
  ·cases h
 case h_10 x=>
  have hr:=hρ x
  have key:∀y:AV,p8 T x=y→(match y with
    | .nilPtr| .nilIfc| .nilFn| .opq _=>none
    | .fn (.method _) _ _=>none
    |y=>some (a1u.val y H))=some r→r= .val y H∧(execOp ρv ⟨dst, .nilCheck x,ty,pos,after,guard⟩).run P w= .ok (.value (ρv x)) w:=by
   intro y hy hm
   rw[hy]at hr
   cases y<;>simp only[rel]at hr
   case nilPtr=>cases hm
   case nilIfc=>cases hm
   case nilFn=>cases hm
   case opq u=>cases hm
   case fn f fa fb=>
    obtain⟨xx,yy,hv,_⟩:=hr
    cases f
    case method n=>cases hm
    all_goals
     cases hm
     refine⟨rfl, ?_⟩
     simp only[execOp,hv]
     rfl
   case ptr o i=>obtain⟨b,d,_,hv⟩:=hr;cases hm;refine⟨rfl, ?_⟩;simp only[execOp,hv];rfl
   case slc=>obtain⟨b,d,hv,_⟩:=hr;cases hm;refine⟨rfl, ?_⟩;simp only[execOp,hv];rfl
   case map=>obtain⟨b,_,hv⟩:=hr;cases hm;refine⟨rfl, ?_⟩;simp only[execOp,hv];rfl
   case ifc=>obtain⟨b,hv,_⟩:=hr;cases hm;refine⟨rfl, ?_⟩;simp only[execOp,hv];rfl
   case agg=>obtain⟨b,hv,_⟩:=hr;cases hm;refine⟨rfl, ?_⟩;simp only[execOp,hv];rfl
   case tup=>obtain⟨b,hv,_⟩:=hr;cases hm;refine⟨rfl, ?_⟩;simp only[execOp,hv];rfl
   all_goals
    cases hm
    refine⟨rfl, ?_⟩
    simp only[execOp,hr]
    rfl
  obtain⟨rfl,hrun⟩:=key _ rfl h
  exact fun _=>⟨.value (ρv x),ρv x,w,ρ,hrun, .inl rfl,Ext.refl _,fun _ _=>rfl,hr,R,Nat.le_refl _⟩
 case h_11 op t x y yt=>
  split at h
  ·rename_i hg
   simp only[Option.map_eq_some_iff]at h
   obtain⟨a,ha,rfl⟩:=h
   exact w8.of_sees R (d5Y hg ha (hρ x) (hρ y) w)
  ·cases h
 case h_12 op t x=>
  simp only[Option.map_eq_some_iff]at h
  obtain⟨a,ha,rfl⟩:=h
  exact w8.of_sees R (d7y ha (hρ x) w)
 case h_13 src d x=>
  simp only[Option.map_eq_some_iff]at h
  obtain⟨⟨a,H'⟩,ha,rfl⟩:=h
  exact w8.of_gives fun hf=>d4P R ha (hρ x) hf
 case h_14 t x=>
  split at h
  ·cases h
  ·rename_i d hd hu
   cases h
   refine w8.of_sees R (s:=Instr.makeInterface t (ρv x)) ⟨.iface t (ρv x), ?_,by simp only[rel];exact⟨_,rfl,hρ x⟩⟩
   simp only[Instr.makeInterface,Sem.run_bind,i7 hu,Result.andThen_ok]
   try (cases d<;>first|rfl|exact(hd _ hu).elim)
  ·cases h
 case h_15 fn first captured=>
  cases h
  refine w8.of_sees R (s:=Instr.makeFunc fn (first.map ρv) (captured.map ρv)) ⟨.func fn (first.map ρv) (captured.map ρv),rfl, ?_⟩
  simp only[rel]
  exact⟨_,_,rfl,by rw[Array.toList_map];exact c1f hρ _,by rw[Array.toList_map];exact c1f hρ _⟩
 case h_16 t r=>
  split at h
  ·cases h
   refine w8.of_gives (s:=Instr.makeMap t (Option.map ρv none)) fun hf=> ?_
   have hn:=hf H.next (Nat.le_refl _) (by simp)
   refine⟨.map (some w.heap.size), { w with heap:=w.heap.push (.map #[] 0) },_,rfl,b0n _ hn, ?_,by simp only[rel];exact⟨_,U5 _ _,rfl⟩,R.newMap hn,by simp⟩
   intro k hk
   rw[J4]
   rintro rfl
   exact hk ⟨Nat.le_refl _,by simp⟩
  ·cases h
 case h_17 t l c=>
  simp only[Option.map_eq_some_iff]at h
  obtain⟨⟨a,H'⟩,ha,rfl⟩:=h
  exact w8.of_gives fun hf=>c2X R ha (hρ l) (hρ c) hf
 case h_18 t x lo hi mx=>
  simp only[Option.map_eq_some_iff]at h
  obtain⟨a,ha,rfl⟩:=h
  exact w8.of_sees R (d2h R ha (hρ x) (c9l hρ lo) (c9l hρ hi) (c9l hρ mx))
 case h_19 s x f=>
  simp only[Option.map_eq_some_iff]at h
  obtain⟨a,ha,rfl⟩:=h
  exact w8.of_sees R (c8X ha (hρ x) w)
 case h_20 s x f=>
  simp only[Option.map_eq_some_iff]at h
  obtain⟨a,ha,rfl⟩:=h
  exact w8.of_sees R (d2U ha (hρ x) w)
 case h_21 t x ix=>
  simp only[Option.map_eq_some_iff]at h
  obtain⟨a,ha,rfl⟩:=h
  exact w8.of_sees R (c8t ha (hρ x) (hρ ix) w)
 case h_22 t x ix=>
  simp only[Option.map_eq_some_iff]at h
  obtain⟨a,ha,rfl⟩:=h
  exact w8.of_sees R (d3d ha (hρ x) (hρ ix) w)
 case h_23 t x ix ok=>
  simp only[Option.map_eq_some_iff]at h
  obtain⟨a,ha,rfl⟩:=h
  exact w8.of_sees R (d0v R ha (hρ x) (hρ ix))
 case h_24 t m k x=>
  simp only[Option.map_eq_some_iff]at h
  obtain⟨H',hst,rfl⟩:=h
  exact w8.of_turns (b8F R hst (hρ m) (hρ k) (hρ x)) (c4V hst)
 case h_25 t m k x=>
  simp only[Option.map_eq_some_iff]at h
  obtain⟨H',hst,rfl⟩:=h
  exact w8.of_turns (b8F R hst (hρ m) (hρ k) (hρ x)) (c4V hst)
 case h_26 t m k=>
  simp only[Option.map_eq_some_iff]at h
  obtain⟨⟨a,H'⟩,ha,rfl⟩:=h
  exact w8.of_gives fun hf=>d1H R ha (hρ m) (hρ k)
 case h_27 t m s x=>
  simp only[Option.map_eq_some_iff]at h
  obtain⟨H',hst,rfl⟩:=h
  exact w8.of_turns (c0O R hst (hρ m) (hρ s) (hρ x)) (c5n hst)
 case h_28 x xt asserted ok=>
  simp only[Option.map_eq_some_iff]at h
  obtain⟨a,ha,rfl⟩:=h
  exact w8.of_sees R (c9R ha (hρ x) w)
 case h_29 t ix=>
  split at h
  ·rename_i vs hvs
   simp only[Option.map_eq_some_iff]at h
   obtain⟨a,ha,rfl⟩:=h
   have hr:=hρ t
   rw[hvs]at hr
   simp only[rel]at hr
   obtain⟨xs,hxs,hl⟩:=hr
   obtain⟨v,h1,h2⟩:=a8b hl ix ha
   refine w8.of_sees R (s:=Instr.extract (ρv t) ix) ⟨v, ?_,h2⟩
   rw[hxs]
   simp only[Instr.extract]
   rw[show xs[ix]? =some v by simpa using h1]
   rfl
  ·cases h
 case h_30 c=>exact d3n R h hρ
 case h_31=>cases h
end
end
end Go.Am
end
