/-
  BlocksCutsSaid: part Pad of its proof.
-/
import Derived.Test.YtdkidgkiplcggaaPac
set_option linter.unusedVariables false
set_option linter.unusedSimpArgs false
set_option maxRecDepth 100000
section
namespace Go.Am
section
section
variable{E:g8}{w0:World}{H:AHeap}{w:World}{ρ:u5}{P:Program}
theorem B6.setMap(R:B6 E w0 H w ρ){k:Nat}{es es':List (AV×AV×Nat)}{clock clock':Nat}{l:Loc}{mes mes':Array MapEntry}
  (hk:H.get k=some (.map es clock)) (hl:ρ k=some l) (hb:w.heap[l.blk]? =some (.map mes clock)) (hr:a0d ρ es' mes'.toList):
  B6 E w0 (H.set k (.map es' clock')) (u6 w l.blk (.map mes' clock')) ρ:=by
 have hblk:=(Array.getElem?_eq_some_iff.1 hb).1
 obtain⟨l',hl',hbase,_⟩:=R.objs k _ hk
 rw[hl]at hl';cases hl'
 have hg:∀j o,(H.set k (.map es' clock')).get j=some o→(j=k∧o= .map es' clock')∨(j≠k∧H.get j=some o):=by
  intro j o e
  rw[AHeap.get_set]at e
  split at e
  ·rename_i h;cases e;exact .inl ⟨h.symm,rfl⟩
  ·rename_i h;exact .inr ⟨fun h'=>h h'.symm,e⟩
 have hoth:∀j o lj,j≠k→H.get j=some o→ρ j=some lj→lj.blk≠l.blk:=fun j o lj h1 h3 h4 h5=>by
  have:=R.alone hk rfl hl h3 h4 h1 h5
  simp[s9]at this
 refine⟨by rw[a0n];exact R.size, ?_,R.env,R.side, ?_, ?_, ?_, ?_⟩
 ·intro b hbb;rw[r8 _ _ _ hblk,if_neg (by omega)];exact R.old b hbb
 ·intro j o e
  rcases hg j o e with ⟨rfl,rfl⟩|⟨h1,h3⟩
  ·exact⟨l,hl,hbase,mes',by rw[r8 _ _ _ hblk,if_pos rfl],hr⟩
  ·obtain⟨lj,hlj,hsj,hoj⟩:=R.objs j o h3
   exact⟨lj,hlj,hsj,G6 hoj (by rw[r8 _ _ _ hblk,if_neg (fun e=>hoth j o lj h1 h3 hlj e.symm)])⟩
 ·intro i j oi oj li lj h1 h2 h3 h4 h5 h6
  rcases hg i oi h1 with ⟨rfl,rfl⟩|⟨g1,g3⟩<;>rcases hg j oj h2 with ⟨rfl,rfl⟩|⟨g1',g3'⟩
  ·exact absurd rfl h5
  ·rw[hl]at h3;cases h3;exact absurd h6.symm (hoth j oj lj g1' g3' h4)
  ·rw[hl]at h4;cases h4;exact absurd h6 (hoth i oi li g1 g3 h3)
  ·exact R.apart i j oi oj li lj g3 g3' h3 h4 h5 h6
 ·intro j o e p hp
  rcases hg j o e with ⟨rfl,rfl⟩|⟨_,h3⟩
  ·simp[s9]at hp
  ·exact R.pres j o h3 p hp
 ·intro j p o op lj lp h1 h2 h3 h4 h5
  rcases hg j o h1 with ⟨rfl,rfl⟩|⟨g1,g3⟩
  ·simp[s9]at h2
  ·rcases hg p op h3 with ⟨rfl,rfl⟩|⟨g1',g3'⟩
   ·have:=(R.kin j p o _ lj lp g3 h2 hk h4 h5).1
    simp[a7T]at this
   ·exact R.kin j p o op lj lp g3 h2 g3' h4 h5
theorem B6.mapOf(R:B6 E w0 H w ρ){k:Nat}{es:List (AV×AV×Nat)}{clock:Nat}(hk:H.get k=some (.map es clock)):
  ∃l mes,ρ k=some l∧w.heap[l.blk]? =some (.map mes clock)∧a0d ρ es mes.toList:=by
 obtain⟨l,h1,_,mes,h2,h3⟩:=R.objs k _ hk
 exact⟨l,mes,h1,h2,h3⟩
theorem P6{r:Nat}{mes:Array MapEntry}{clock:Nat}(h:w.heap[r]? =some (.map mes clock)):(getObj r).run P w= .ok (.map mes clock) w:=by
 simp[getObj,Sem.run,h]
theorem a3R{r:Nat}{mes:Array MapEntry}{clock:Nat}{o:Obj}(h:w.heap[r]? =some (.map mes clock)):(setObj r o).run P w= .ok () (u6 w r o):=by
 simp[setObj,Sem.run,h,u6]
theorem O8{kt:TypeId}{d:TypeDesc}{vk:Value}{l:List MapEntry}{r:Option (Nat×Value)}(hu:P.underlying kt=some d)(h:Instr.findNow d vk l 0=some r)(w:World):
  (Instr.findKey kt vk l).run P w= .ok r w:=by
 simp only[Instr.findKey,Sem.run_bind,b7 hu,Result.andThen_ok,h,Sem.run_pure]
theorem b7P(R:B6 E w0 H w ρ){t:TypeId}{x ix:AV}{vx vi:Value}{ok:Bool}{a:AV}(h:a1g P H t x ix ok=some a)(hx:rel ρ x vx)(hi:rel ρ ix vi):
  ∃v,(Instr.lookup t vx vi ok).run P w= .ok v w∧rel ρ a v:=by
 unfold a1g at h
 split at h
 ·rename_i kt e hu
  split at h
  ·rename_i hf
   obtain⟨d,hd,hkd⟩:=a1M hf hi
   simp only[Option.bind_eq_some_iff]at h
   obtain⟨es,hes,⟨v,is⟩,hfd,h⟩:=h
   simp only[Option.some.injEq]at h
   have hmes:∃mes:Array MapEntry,a0d ρ es mes.toList∧((vx= .map none∧mes= #[])∨∃b clock,vx= .map (some b)∧w.heap[b]? =some (.map mes clock)):=by
    unfold a2b at hes
    split at hes
    ·cases hes;simp only[rel]at hx;exact⟨#[],rfl, .inl ⟨hx,rfl⟩⟩
    ·rename_i k
     split at hes
     ·rename_i es' clock hk
      cases hes
      obtain⟨l,mes,h1,h2,h3⟩:=R.mapOf hk
      simp only[rel]at hx
      obtain⟨l',hl',rfl⟩:=hx
      rw[h1]at hl';cases hl'
      exact⟨mes,h3, .inr ⟨l.blk,clock,rfl,h2⟩⟩
     ·cases hes
    ·cases hes
   obtain⟨mes,hr,hvx⟩:=hmes
   have hres:∃vv,rel ρ v vv∧((∃j,Instr.findNow d vi mes.toList 0=some (some (j,vv))∧is=true)∨(Instr.findNow d vi mes.toList 0=some none∧(zeroValue e).run P w= .ok vv w∧is=false)):=by
    unfold b9z at hfd
    split at hfd
    ·rename_i hfa
     cases hfd
     rcases a0P hkd hfa hr with ⟨hc,_⟩|⟨j,v',n,vv,k',he,hn,_,hv,_⟩
     ·cases hc
     ·cases he;exact⟨vv,hv, .inl ⟨_,hn,rfl⟩⟩
    ·rename_i hfa
     simp only[Option.map_eq_some_iff,Prod.mk.injEq]at hfd
     obtain⟨z,hz,rfl,rfl⟩:=hfd
     rcases a0P hkd hfa hr with ⟨_,hn⟩|⟨j,v',n,vv,k',he,_⟩
     ·obtain⟨vz,h1,h2⟩:=a1B (ρ:=ρ) hz w
      exact⟨vz,h2, .inr ⟨hn,h1,rfl⟩⟩
     ·cases he
    ·cases hfd
   obtain⟨vv,hvv,hfn⟩:=hres
   refine⟨if ok then .tuple #[vv, .bool is]else vv, ?_, ?_⟩
   ·rcases hvx with ⟨rfl,rfl⟩|⟨b,clock,rfl,hb⟩<;>rcases hfn with ⟨j,hn,rfl⟩|⟨hn,hz,rfl⟩
    ·simp only[Instr.lookup,Sem.run_bind,b7 hu,Result.andThen_ok,Sem.run_pure,L1 hf hi,O8 hd hn]
    ·simp only[Instr.lookup,Sem.run_bind,b7 hu,Result.andThen_ok,Sem.run_pure,L1 hf hi,O8 hd hn,hz]
    ·simp only[Instr.lookup,Sem.run_bind,b7 hu,Result.andThen_ok,Sem.run_pure,P6 hb,L1 hf hi,O8 hd hn]
    ·simp only[Instr.lookup,Sem.run_bind,b7 hu,Result.andThen_ok,Sem.run_pure,P6 hb,L1 hf hi,O8 hd hn,hz]
   ·subst h
    split
    ·rename_i hok
     simp only[rel];exact⟨_,rfl,j3.2 ⟨hvv,j3.2 ⟨by simp only[rel],m7.2 rfl⟩⟩⟩
    ·exact hvv
  ·cases h
 ·cases h
def c4B(E:g8)(w0:World)(ρ:u5)(H':AHeap)(r:Result Unit):Prop:=∃w',r= .ok () w'∧B6 E w0 H' w' ρ
theorem a6V{d:TypeDesc}{k:AV}{vk x:Value}(hd:(∃i j n,d= .int i∧k= .int j n∧vk= .int j n)∨(∃s,d= .string∧k= .str s∧vk= .string ⟨s.toArray⟩)∨(∃b,d= .bool∧k= .bool b∧vk= .bool b))
  (h:Instr.sameNow d vk x=some true):x=vk:=by
 rcases hd with ⟨i,j,n,rfl,rfl,rfl⟩|⟨s,rfl,rfl,rfl⟩|⟨b,rfl,rfl,rfl⟩
 ·cases x<;>simp only[Instr.sameNow]at h<;>try (cases h;done)
  split at h
  ·rename_i e;subst e;simp at h;rw[h]
  ·cases h
 ·cases x<;>simp only[Instr.sameNow]at h<;>try (cases h;done)
  rename_i y
  have:((ByteArray.mk s.toArray)==y)=true:=by simpa using h
  rw[beq_toListBytes]at this
  have e:=eq_of_beq this
  rw[ByteArray.toList_eq,ByteArray.toList_eq]at e
  congr 1
  apply ByteArray.ext
  simp only at e
  rw[e]
 ·cases x<;>simp only[Instr.sameNow]at h<;>try (cases h;done)
  simp at h;rw[h]
theorem b2g{x:Value}{d:TypeDesc}{k:AV}(hd:(∃i j n,d= .int i∧k= .int j n∧x= .int j n)∨(∃s,d= .string∧k= .str s∧x= .string ⟨s.toArray⟩)∨(∃b,d= .bool∧k= .bool b∧x= .bool b))(w:World):
  (Instr.keyThatStays x x).run P w= .ok x w:=by
 have:Instr.sameBits 10000 x x=true:=by
  rcases hd with ⟨i,j,n,rfl,rfl,rfl⟩|⟨s,rfl,rfl,rfl⟩|⟨b,rfl,rfl,rfl⟩
  ·simp[Instr.sameBits]
  ·simp only[Instr.sameBits];rw[a9P];simp
  ·simp[Instr.sameBits]
 simp[Instr.keyThatStays,this]
theorem a4N(mes:Array MapEntry)(i:Nat)(f:MapEntry→MapEntry)(e:MapEntry)(h:mes[i]? =some e):(mes.modify i f).toList=mes.toList.set i (f e):=by
 apply List.ext_getElem?
 intro j
 have hi:=(Array.getElem?_eq_some_iff.1 h).1
 rw[←Array.getElem?_toList.symm,Array.getElem?_modify,List.getElem?_set]
 split
 ·rename_i e';subst e'
  have:=(Array.getElem?_eq_some_iff.1 h).2
  simp[hi,this]
 ·simp
theorem a9B(R:B6 E w0 H w ρ){t:TypeId}{m key v:AV}{vm vk vv:Value}{H':AHeap}(h:P5 P H t m key v=some H')(hm:rel ρ m vm)(hk:rel ρ key vk)(hv:rel ρ v vv):
  c4B E w0 ρ H' ((Instr.mapUpdate t vm vk vv).run P w):=by
 unfold P5 at h
 split at h
 ·rename_i kt e k hu
  split at h
  ·rename_i hf
   obtain⟨d,hd,hkd⟩:=a1M hf hk
   split at h
   ·rename_i es clock hko
    obtain⟨l,mes,h1,h2,h3⟩:=R.mapOf hko
    simp only[rel]at hm
    obtain⟨l',hl',rfl⟩:=hm
    rw[h1]at hl';cases hl'
    split at h
    ·rename_i i v0 n hfa
     cases h
     rcases a0P hkd hfa h3 with ⟨hc,_⟩|⟨j,v',n',vv',k',he,hn,hej,_,me,hme,hval,hsame⟩
     ·cases hc
     ·cases he
      simp only[Nat.zero_add]at hn ⊢
      have hkey:=a6V hkd hsame
      have hme':mes[j]? =some me:=by simpa using hme
      refine⟨_, ?_,R.setMap (mes':=mes.modify j fun e=> { e with key:=vk,val:=vv }) (clock':=clock) hko h1 h2 ?_⟩
      ·simp only[Instr.mapUpdate,Sem.run_bind,b7 hu,Result.andThen_ok,P6 h2,L1 hf hk,O8 hd hn]
       rw[show(Option.map (fun x=>x.key) mes[j]?).getD vk=vk by rw[hme'];exact hkey]
       simp only[b2g hkd,Result.andThen_ok,a3R h2]
      ·rw[a4N _ _ _ _ hme']
       obtain⟨e',g1,_,_,g4⟩:=b5Z h3 j hej
       rw[hme]at g1;cases g1
       exact b5N h3 j hk hv g4
    ·rename_i hfa
     cases h
     rcases a0P hkd hfa h3 with ⟨_,hn⟩|⟨j,v',n,vv,k',he,_⟩
     ·refine⟨_, ?_,R.setMap (mes':=mes.push { key:=vk,val:=vv,born:=clock }) (clock':=clock+1) hko h1 h2 ?_⟩
      ·simp only[Instr.mapUpdate,Sem.run_bind,b7 hu,Result.andThen_ok,P6 h2,L1 hf hk,O8 hd hn,a3R h2]
      ·rw[Array.toList_push]
       exact b3Q h3 ⟨_,[],rfl,hk,hv,rfl,rfl⟩
     ·cases he
    ·cases h
   ·cases h
  ·cases h
 ·cases h
theorem b9G(R:B6 E w0 H w ρ){t:TypeId}{m key a:AV}{vm vk:Value}{H':AHeap}(h:a2v P H t m key=some (a,H'))(hm:rel ρ m vm)(hk:rel ρ key vk):
  K6 E w0 H ρ a H' ((Instr.mapEntry t vm vk).run P w):=by
 unfold a2v at h
 split at h
 ·rename_i kt e k hu
  split at h
  ·rename_i hf
   obtain⟨d,hd,hkd⟩:=a1M hf hk
   split at h
   ·rename_i es clock hko
    obtain⟨l,mes,h1,h2,h3⟩:=R.mapOf hko
    simp only[rel]at hm
    obtain⟨l',hl',rfl⟩:=hm
    rw[h1]at hl';cases hl'
    split at h
    ·rename_i i v0 n hfa
     cases h
     rcases a0P hkd hfa h3 with ⟨hc,_⟩|⟨j,v',n',vv',k',he,hn,hej,hv',me,hme,hval,hsame⟩
     ·cases hc
     ·cases he
      simp only[Nat.zero_add]at hn ⊢
      have hkey:=a6V hkd hsame
      have hme':mes[j]? =some me:=by simpa using hme
      obtain⟨e',g1,_,g3,g4⟩:=b5Z h3 j hej
      rw[hme]at g1;cases g1
      refine⟨.tuple #[vv', .int .i64 n],_,ρ, ?_,Ext.refl _,fun _ _=>rfl, ?_,R.setMap (mes':=mes.modify j fun e=> { e with key:=vk }) (clock':=clock) hko h1 h2 ?_,Nat.le_refl _⟩
      ·simp only[Instr.mapEntry,Sem.run_bind,b7 hu,Result.andThen_ok,P6 h2,L1 hf hk,O8 hd hn]
       rw[show(Option.map (fun x=>x.key) mes[j]?).getD vk=vk by rw[hme'];exact hkey]
       simp only[b2g hkd,Result.andThen_ok,a3R h2,hme',Option.map_some,Option.getD_some,g4,goInt,Sem.run_pure]
      ·simp only[rel];exact⟨_,rfl,j3.2 ⟨hv',j3.2 ⟨by simp only[rel],m7.2 rfl⟩⟩⟩
      ·rw[a4N _ _ _ _ hme']
       exact b5N h3 j hk g3 g4
    ·rename_i hfa
     split at h
     ·rename_i z hz
      cases h
      obtain⟨vz,g1,g2⟩:=a1B (ρ:=ρ) hz w
      rcases a0P hkd hfa h3 with ⟨_,hn⟩|⟨j,v',n,vv,k',he,_⟩
      ·refine⟨.tuple #[vz, .int .i64 clock],_,ρ, ?_,Ext.refl _,fun _ _=>rfl, ?_,R.setMap (mes':=mes.push { key:=vk,val:=vz,born:=clock }) (clock':=clock+1) hko h1 h2 ?_,Nat.le_refl _⟩
       ·simp only[Instr.mapEntry,Sem.run_bind,b7 hu,Result.andThen_ok,P6 h2,L1 hf hk,O8 hd hn,g1,a3R h2,goInt,Sem.run_pure]
       ·simp only[rel];exact⟨_,rfl,j3.2 ⟨g2,j3.2 ⟨by simp only[rel],m7.2 rfl⟩⟩⟩
       ·rw[Array.toList_push]
        exact b3Q h3 ⟨_,[],rfl,hk,g2,rfl,rfl⟩
      ·cases he
     ·cases h
    ·cases h
   ·cases h
  ·cases h
 ·cases h
theorem b0Q{n:Int}:∀ {es:List (AV×AV×Nat)} {l:List MapEntry},a0d ρ es l→es.findIdx? (fun e=>(e.2.2:Int)==n)=l.findIdx? (fun e=>(e.born:Int)==n)
 | [],l,h=>by simp only[a0d]at h;subst h;rfl
 |(k,v,m)::es,l,h=>by
  simp only[a0d]at h
  obtain⟨e,r,rfl,_,_,h3,h4⟩:=h
  have ih:=b0Q (n:=n) h4
  simp only[List.findIdx?_cons,h3,ih]
theorem b1L(R:B6 E w0 H w ρ){t:TypeId}{m stamp v:AV}{vm vs vv:Value}{H':AHeap}(h:D1 H m stamp v=some H')(hm:rel ρ m vm)(hs:rel ρ stamp vs)(hv:rel ρ v vv):
  c4B E w0 ρ H' ((Instr.entryStore t vm vs vv).run P w):=by
 unfold D1 at h
 split at h
 ·rename_i k ik n
  split at h
  ·rename_i es clock hko
   obtain⟨l,mes,h1,h2,h3⟩:=R.mapOf hko
   simp only[rel]at hm hs
   obtain⟨l',hl',rfl⟩:=hm
   rw[h1]at hl';cases hl'
   subst hs
   split at h
   ·rename_i i hi
    split at h
    ·rename_i ent hent
     cases h
     obtain⟨k0,v0,n0⟩:=ent
     obtain⟨me,g1,g2,g3,g4⟩:=b5Z h3 i hent
     have g1':mes[i]? =some me:=by simpa using g1
     have hfi:mes.findIdx? (fun e=>(e.born:Int)==n)=some i:=by
      rw[b0Q h3]at hi
      obtain⟨ml⟩:=mes
      simpa using hi
     refine⟨_, ?_,R.setMap (mes':=mes.modify i fun e=> { e with val:=vv }) (clock':=clock) hko h1 h2 ?_⟩
     ·simp only[Instr.entryStore,Sem.run_bind,Result.andThen_ok,P6 h2,asInt,asIntOf,Sem.run_pure,hfi,a3R h2]
     ·rw[a4N _ _ _ _ g1']
      exact b5N h3 i g2 hv g4
    ·cases h
   ·cases h
  ·cases h
 ·cases h
theorem b3F{t:TypeId}{m k v:AV}{H':AHeap}(h:P5 P H t m k v=some H'):H'.next=H.next:=by
 unfold P5 at h
 repeat' (split at h)
 all_goals first|(cases h;done)|(cases h;rfl)
theorem b4I{m k v:AV}{H':AHeap}(h:D1 H m k v=some H'):H'.next=H.next:=by
 unfold D1 at h
 repeat' (split at h)
 all_goals first|(cases h;done)|(cases h;rfl)
theorem B6.newMap(R:B6 E w0 H w ρ)(hk:ρ H.next=none):
  B6 E w0 (H.new (.map [] 0)) { w with heap:=w.heap.push (.map #[] 0) } (upd ρ H.next ⟨w.heap.size,0,0⟩):=by
 have hx:=a0E (ρ:=ρ) ⟨w.heap.size,0,0⟩ hk
 have hg:∀k o,(H.new (.map [] 0)).get k=some o→(k=H.next∧o= .map [] 0)∨(k≠H.next∧H.get k=some o):=by
  intro k o e
  rw[AHeap.get_new]at e
  split at e
  ·rename_i h;cases e;exact .inl ⟨h.symm,rfl⟩
  ·rename_i h;exact .inr ⟨fun h'=>h h'.symm,e⟩
 have hpush:∀b,b<w.heap.size→(w.heap.push (.map #[] 0))[b]? =w.heap[b]? :=by
  intro b hb;rw[Array.getElem?_push];split
  ·omega
  ·rfl
 have hlt:∀k o l,H.get k=some o→ρ k=some l→l.blk<w.heap.size:=by
  intro k o l h1 h2
  obtain⟨m,hm,_,ho⟩:=R.objs k o h1
  rw[h2]at hm;cases hm
  exact W3 ho
 refine⟨by have:=R.size;simp;omega, ?_,R.env,R.side, ?_, ?_, ?_, ?_⟩
 ·intro b hb;rw[hpush b (by have:=R.size;omega)];exact R.old b hb
 ·intro k o e
  rcases hg k o e with ⟨rfl,rfl⟩|⟨h1,h2⟩
  ·exact⟨_,A8 _ _,R.size, #[],by simp,rfl⟩
  ·obtain⟨l,hl,hs,ho⟩:=R.objs k o h2
   exact⟨l,by rw[t6 _ h1];exact hl,hs,a5t hx (G6 ho (hpush _ (W3 ho)))⟩
 ·intro k k' o o' l l' h1 h2 h3 h4 h5 h6
  rcases hg k o h1 with ⟨rfl,rfl⟩|⟨g1,g2⟩<;>rcases hg k' o' h2 with ⟨rfl,rfl⟩|⟨g1',g2'⟩
  ·exact absurd rfl h5
  ·rw[A8]at h3;cases h3;rw[t6 _ g1']at h4
   have:=hlt _ _ _ g2' h4;simp only at h6;omega
  ·rw[A8]at h4;cases h4;rw[t6 _ g1]at h3
   have:=hlt _ _ _ g2 h3;simp only at h6;omega
  ·rw[t6 _ g1]at h3;rw[t6 _ g1']at h4
   exact R.apart k k' o o' l l' g2 g2' h3 h4 h5 h6
 ·intro k o e p hpp
  rcases hg k o e with ⟨rfl,rfl⟩|⟨h1,h2⟩
  ·simp[s9]at hpp
  ·obtain⟨a,b⟩:=R.pres k o h2 p hpp
   obtain⟨m,hm⟩:=Option.isSome_iff_exists.1 b
   exact⟨a,by rw[hx _ _ hm];rfl⟩
 ·intro k p o op l lp h1 h2 h3 h4 h5
  rcases hg k o h1 with ⟨rfl,rfl⟩|⟨g1,g2⟩
  ·simp[s9]at h2
  ·rcases hg p op h3 with ⟨rfl,_⟩|⟨g1',g2'⟩
   ·have:=(R.pres k o g2 _ h2).2
    rw[hk]at this;cases this
   ·rw[t6 _ g1]at h4;rw[t6 _ g1']at h5
    exact R.kin k p o op l lp g2 h2 g2' h4 h5
end
end
section
section
variable{E:g8}{w0:World}{H:AHeap}{w:World}{ρ:u5}{P:Program}
theorem b9h{x:AV}{vx:Value}{n:Nat}(h:a1J x=some n)(hx:rel ρ x vx)(w:World):(Builtin.lenOf vx).run P w= .ok n w:=by
 unfold a1J at h
 split at h
 ·cases h;simp only[rel]at hx;subst hx;rfl
 ·cases h;simp only[rel]at hx;obtain⟨a,c,rfl,_⟩:=hx;rfl
 ·cases h;simp only[rel]at hx;subst hx
  simp only[Builtin.lenOf,Sem.run_pure]
  simp[ByteArray.size]
 ·cases h
theorem a7H(R:B6 E w0 H w ρ){x:AV}{vx:Value}{size n k:Nat}{news:List AV}(hl:a1J x=some k)(hn:n≤k)(h:U5 E H size n x=some news)(hx:rel ρ x vx):
  ∃vs,(∀w',w'.heap=w.heap→(Builtin.firstCells size n vx).run P w'= .ok ⟨vs⟩ w')∧m6 ρ news vs:=by
 unfold U5 at h
 split at h
 ·cases h;simp only[rel]at hx;subst hx
  exact⟨[],fun _ _=>rfl,m7.2 rfl⟩
 ·rename_i o i len cap ex sz
  simp only[a1J]at hl;cases hl
  simp only[rel]at hx
  obtain⟨ad,c,rfl,g1,g2,g3,g4,g5⟩:=hx
  exact R.rangeAt (P:=P) h (by
   rcases g4 with e|e
   ·left;rw[show n=0 by omega,Nat.zero_mul]
   ·exact .inr e)
 ·rename_i s
  cases h
  simp only[rel]at hx;subst hx
  refine⟨(s.take n).map fun b=>Value.int .u8 b.toNat,fun w' _=> ?_,b6T _⟩
  simp only[Builtin.firstCells,Sem.run_pure]
  congr 1
  apply Array.ext'
  rw[Array.toList_map,ByteArray.data_extract,Array.toList_extract,List.extract_eq_take_drop]
  simp
 ·cases h
theorem b8W(newLen:Nat):∀(r c:Nat),Builtin.growBy newLen r c≤max c (newLen+(newLen+768) / 4)
 |0,c=>by simp only[Builtin.growBy];omega
 |r+1,c=>by
  simp only[Builtin.growBy]
  split
  ·omega
  ·have:=b8W newLen r (c+(c+768) / 4)
   omega
theorem b4V{need c:Nat}(h:c<need):Builtin.nextslicecap need c≤2*need+768:=by
 unfold Builtin.nextslicecap
 split
 ·omega
 ·split
  ·omega
  ·have:=b8W need 4 c
   omega
theorem B6.growCopy(R:B6 E w0 H w ρ){cs:List AV}{vs:List Value}{arr:Array Value}{el:TypeId}{pre:List Nat}{w':World}(hn:ρ H.next=none)(hr:m6 ρ cs vs)
  (harr:arr.toList.take cs.length=vs) (hl:cs.length≤arr.size) (hw:w'.heap=w.heap.push (.cells arr el))
  (hp:∀p∈pre,(ρ p).isSome∧∀op,H.get p=some op→a7T op=false) (hs:w'.os=w.os∧w'.output=w.output:=by exact⟨rfl,rfl⟩):
  B6 E w0 (H.new (.cells cs true pre)) w' (upd ρ H.next ⟨w.heap.size,0,arr.size⟩):=
 (R.new hn (el:=el) (lo:=0) (hi:=0) hl (by rw[harr];exact hr) (fun _=> .inl rfl) hp).heap_eq hw hs
theorem b2s(z:Array Value)(n:Nat):(Builtin.zeroCells z n).size=n*z.size:=by
 simp[Builtin.zeroCells]
theorem b7g{z:AV}{v:Value}(h:rel ρ z v)(n:Nat):m6 ρ (rep z.cells n) (Builtin.zeroCells v.cells n).toList:=by
 have hc:=a0R h
 have:=b5I hc n
 unfold Builtin.zeroCells
 rw[a5B]
 rw[Array.length_toList]at this ⊢
 exact this
theorem c6U(R:B6 E w0 H w ρ){size bytes n len c:Nat}{s a:AV}{news:List AV}{vs:List Value}{H':AHeap}{base:Option Addr}
  (h:J6 E H size bytes s n news=some (a,H')) (hs:rel ρ s (.slice base len c)) (hle:len+n≤c) (hv:m6 ρ news vs) (hf:a1w ρ H H') (P:Program):
  ∃w' ρ',(base=none→w'=w)∧(∀ad,base=some ad→(storeCells (ad.add (len*size)) vs).run P w= .ok () w')∧
   Ext ρ ρ'∧(∀k,¬(H.next≤k∧k<H'.next)→ρ' k=ρ k)∧rel ρ' a (.slice base (len+n) c)∧B6 E w0 H' w' ρ'∧H.next≤H'.next:=by
 unfold J6 at h
 split at h
 ·rename_i hnl
  have hvl:=u7 hv
  have n0:n=0→vs=[]:=by
   rintro rfl
   apply List.eq_nil_of_length_eq_zero
   omega
  split at h
  ·simp only[rel]at hs
   cases hs
   have hn:n=0:=by omega
   subst hn
   simp only[if_true]at h
   cases h
   exact⟨w,ρ,fun _=>rfl,fun ad e=>(by cases e),Ext.refl _,fun _ _=>rfl,by simp only[rel],R,Nat.le_refl _⟩
  ·rename_i o i len' cap ex sz
   have hs':=hs
   simp only[rel]at hs
   obtain⟨ad,c',he,g1,g2,g3,g4,g5⟩:=hs
   simp only[Value.slice.injEq]at he
   obtain⟨rfl,rfl,rfl⟩:=he
   split at h
   ·rename_i hn
    subst hn
    cases h
    have:=n0 rfl;subst this
    exact⟨w,ρ,fun _=>rfl,fun ad' e=>rfl,Ext.refl _,fun _ _=>rfl,by simpa using hs',R,Nat.le_refl _⟩
   ·rename_i hn
    split at h
    ·rename_i hb
     split at h
     ·rename_i hex
      simp only[Bool.and_eq_true,decide_eq_true_eq]at hex
      have:=g3 hex.1
      omega
     ·obtain⟨b,d,hbd,rfl⟩:=g4.resolve_left (by omega)
      split at h
      ·cases h
      ·rename_i k
       split at h
       ·rename_i cs pre hk
        split at h
        ·rename_i hc
         obtain⟨rfl,hcut,hall⟩:=hc
         obtain⟨l,hl,hroom⟩:=g5
         obtain⟨l',hl',hbase,arr,el,lo,hi,e0,e1,e2,e3,e4⟩:=R.objs k _ hk
         rw[hl]at hl';cases hl'
         simp only[E4,hl,Option.map_some,Option.some.injEq,Prod.mk.injEq]at hbd
         obtain⟨rfl,rfl⟩:=hbd
         have hmul:(len+n)*sz≤c*sz:=Nat.mul_le_mul_right _ hle
         rw[Nat.add_mul]at hmul
         have hroom2:l.d+(i+len*sz)+news.length≤l.n:=by omega
         have hst:=X0 (P:=P) l.blk (l.d+i+len*sz) el lo hi vs 0 w arr e0 (by omega) (by rw[e1];exact e4 rfl)
          (b6J (P:=fun a=>m9 a=true) (fun a v h1 h2=>a7z h1 h2) hv (by simpa using hall))
         rw[Nat.add_zero,Nat.add_assoc]at hst
         have hnx:ρ H.next=none:=hf _ (Nat.le_refl _) (by
          split at h
          ·cases h;simp
          ·cases h;simp)
         have hfin:∀ {K pre':List Nat} {Hs:AHeap},Hs.next=H.next→(∀j,Hs.get j=if j=k then some (.cells (cs.take (i+len*sz)) false pre') else if j∈K then none else H.get j)→
           ((K=pre∧pre'=[])∨(K=[]∧pre'=pre∧i+len*sz=cs.length))→a= .slc (.new H.next) 0 (len+n) (len+n) false sz→
           H'=Hs.new (.cells ((cs.take (i+len*sz)).drop i++news) true (k::pre'))→
           ∃w' ρ',(some (⟨l.blk,l.d+i,none⟩:Addr)=none→w'=w)∧(∀ad,some (⟨l.blk,l.d+i,none⟩:Addr)=some ad→(storeCells (ad.add (len*sz)) vs).run P w= .ok () w')∧
            Ext ρ ρ'∧(∀k,¬(H.next≤k∧k<H'.next)→ρ' k=ρ k)∧rel ρ' a (.slice (some ⟨l.blk,l.d+i,none⟩) (len+n) c)∧B6 E w0 H' w' ρ'∧H.next≤H'.next:=by
          intro K pre' Hs h1 h2 h3 ha hH
          subst ha hH
          refine⟨_,_,(fun e=>by cases e),fun ad e=> ?_,a0E _ hnx, ?_, ?_,R.growIn hk hl hnx e0 (Nat.le_add_right _ _) hcut hv hroom2 h1 h2 h3,by simp[h1]⟩
          ·cases e
           rw[Addr.add_plain,Nat.add_assoc]
           exact hst
          ·intro j hj
           rw[t6]
           rintro rfl
           exact hj ⟨Nat.le_refl _,by simp[h1]⟩
          ·simp only[rel,E4,A8,b3l]
           exact⟨_,_,rfl,hle,hle,(fun e=>by cases e), .inr ⟨l.blk,l.d+i,rfl,rfl⟩,_,rfl,by simp only;omega⟩
         split at h
         ·rename_i hlt
          cases h
          refine hfin (K:=pre) (pre':=[]) (Hs:=(H.killAll pre).set k (.cells (cs.take (i+len*sz)) false [])) (by simp) (fun j=> ?_) (.inl ⟨rfl,rfl⟩) rfl rfl
          rw[AHeap.get_set,AHeap.get_killAll]
          by_cases hj:j=k
          ·rw[if_pos hj.symm,if_pos hj]
          ·rw[if_neg (fun e=>hj e.symm),if_neg hj]
         ·rename_i hlt
          cases h
          have heq:i+len*sz=cs.length:=by omega
          refine hfin (K:=[]) (pre':=pre) (Hs:=H.set k (.cells cs false pre)) (by simp) (fun j=> ?_) (.inr ⟨rfl,rfl,heq⟩) rfl ?_
          ·rw[AHeap.get_set]
           by_cases hj:j=k
           ·rw[if_pos hj.symm,if_pos hj,heq,List.take_length]
           ·rw[if_neg (fun e=>hj e.symm),if_neg hj,if_neg (by simp)]
          ·rw[heq,List.take_length]
        ·cases h
       ·cases h
    ·cases h
  ·cases h
 ·cases h
theorem c5I(R:B6 E w0 H w ρ){size bytes n len c:Nat}{s a:AV}{news:List AV}{vs:List Value}{H':AHeap}{base:Option Addr}
  (h:J6 E H size bytes s n news=some (a,H')) (hs:rel ρ s (.slice base len c)) (hlt:c<len+n) (hv:m6 ρ news vs) (hf:a1w ρ H H') (P:Program):
  0<bytes∧(2*(len+n)+768)*bytes≤2^47∧∃olds:List Value,(∀w',w'.heap=w.heap→(Builtin.firstCells size len (.slice base len c)).run P w'= .ok ⟨olds⟩ w')∧
   ∀(w':World) (el:TypeId) (rest:Array Value) (nc:Nat),len+n≤nc→rest.size=(nc - (len+n))*size→w'.heap=w.heap.push (.cells (⟨olds⟩++⟨vs⟩++rest) el)→(w'.os=w.os∧w'.output=w.output)→
    ∃ρ',Ext ρ ρ'∧(∀k,¬(H.next≤k∧k<H'.next)→ρ' k=ρ k)∧rel ρ' a (.slice (some ⟨w.heap.size,0,none⟩) (len+n) nc)∧B6 E w0 H' w' ρ'∧H.next≤H'.next:=by
 unfold J6 at h
 split at h
 ·rename_i hnl
  have hvl:=u7 hv
  split at h
  ·simp only[rel]at hs
   cases hs
   split at h
   ·omega
   ·split at h
    ·rename_i hn hb
     cases h
     refine⟨hb.1,by simpa using hb.2,[],fun w' _=>rfl, ?_⟩
     intro w' el rest nc hnc hrest hw hsd
     have hnx:=hf H.next (Nat.le_refl _) (by simp[newCells])
     have hsz:((⟨[]⟩:Array Value)++⟨vs⟩++rest).size=nc*size:=by
      simp only[Array.size_append]
      have e1:(⟨vs⟩:Array Value).size=n*size:=by simp;omega
      have e2:(⟨[]⟩:Array Value).size=0:=rfl
      rw[e1,e2,hrest,Nat.zero_add, ←Nat.add_mul];congr 1;omega
     refine⟨_,a0E _ hnx, ?_, ?_,R.growCopy hnx (cs:=news) (vs:=vs) (pre:=[]) hv ?_ ?_ hw (by simp) hsd,by simp[newCells]⟩
     ·intro k hk
      rw[t6]
      rintro rfl
      exact hk ⟨Nat.le_refl _,by simp[newCells]⟩
     ·rw[hsz]
      have:=a3G ρ H.next w.heap.size (nc*size) n n nc size false (by omega) (by omega) (fun e=>by cases e) (Nat.le_refl _)
      simpa using this
     ·simp[hvl]
     ·simp[hvl]
    ·cases h
  ·rename_i o i len' cap ex sz
   have hs':=hs
   simp only[rel]at hs
   obtain⟨ad,c',he,g1,g2,g3,g4,g5⟩:=hs
   simp only[Value.slice.injEq]at he
   obtain⟨rfl,rfl,rfl⟩:=he
   split at h
   ·omega
   ·rename_i hn
    split at h
    ·rename_i hb
     refine⟨hb.1,hb.2, ?_⟩
     have hdo:∀ {n:Nat},len*n=0∨∃b d,E4 ρ o=some (b,d)∧ad=⟨b,d+i,none⟩:=by
      intro n
      rcases g4 with e|e
      ·left;rw[show len=0 by omega,Nat.zero_mul]
      ·exact .inr e
     have hnx:ρ H.next=none:=hf _ (Nat.le_refl _) (by
      split at h
      ·split at h
       ·cases h;simp[newCells]
       ·cases h
      ·split at h
       ·cases h
       ·split at h
        ·split at h
         ·split at h
          ·cases h;simp
          ·cases h;simp
         ·cases h
        ·cases h)
     have hfin:∀(olds:List AV) (ov:List Value) (Hs:AHeap) (pre:List Nat),m6 ρ olds ov→olds.length=len*size→B6 E w0 Hs w ρ→Hs.next=H.next→
       (∀p∈pre,(ρ p).isSome∧∀op,Hs.get p=some op→a7T op=false)→
       a= .slc (.new H.next) 0 (len+n) (len+n) false size→H'=Hs.new (.cells (olds++news) true pre)→
       ∀(w':World) (el:TypeId) (rest:Array Value) (nc:Nat),len+n≤nc→rest.size=(nc - (len+n))*size→w'.heap=w.heap.push (.cells (⟨ov⟩++⟨vs⟩++rest) el)→(w'.os=w.os∧w'.output=w.output)→
        ∃ρ',Ext ρ ρ'∧(∀k,¬(H.next≤k∧k<H'.next)→ρ' k=ρ k)∧rel ρ' a (.slice (some ⟨w.heap.size,0,none⟩) (len+n) nc)∧B6 E w0 H' w' ρ'∧H.next≤H'.next:=by
      intro olds ov Hs pre ho hol RS hnext hp ha hH w' el rest nc hnc hrest hw hsd
      subst ha hH
      have hovl:=u7 ho
      have hsz:((⟨ov⟩:Array Value)++⟨vs⟩++rest).size=nc*size:=by
       simp only[Array.size_append]
       have e1:(⟨vs⟩:Array Value).size=n*size:=by simp;omega
       have e2:(⟨ov⟩:Array Value).size=len*size:=by simp;omega
       rw[e1,e2,hrest, ←Nat.add_mul, ←Nat.add_mul];congr 1;omega
      have hnx':ρ Hs.next=none:=by rw[hnext];exact hnx
      have hrep:=RS.growCopy hnx' (cs:=olds++news) (vs:=ov++vs) (pre:=pre) (arr:=⟨ov⟩++⟨vs⟩++rest) (el:=el) (w':=w') (O6 ho hv)
       (by rw[Array.toList_append,Array.toList_append,List.take_append_of_le_length (by simp[hvl,hovl]),List.take_of_length_le (by simp[hvl,hovl])]) (by simp only[List.length_append,Array.size_append,List.size_toArray];omega) hw hp hsd
      refine⟨_,a0E _ hnx', ?_, ?_,hrep,by simp[hnext]⟩
      ·intro k hk
       rw[t6]
       rintro rfl
       exact hk ⟨by omega,by simp[hnext]⟩
      ·rw[hsz,hnext]
       exact a3G ρ H.next w.heap.size (nc*size) (len+n) (len+n) nc size false hnc hnc (fun e=>by cases e) (Nat.le_refl _)
     split at h
     ·rename_i hex
      split at h
      ·rename_i olds hol
       cases h
       obtain⟨ov,r1,r2⟩:=R.loadsAt (P:=P) hol hdo
       refine⟨ov,fun w' hw=> ?_,hfin olds ov H [] r2 ?_ R rfl (by simp) rfl rfl⟩
       ·exact r1 w' hw
       ·unfold B5 at hol
        split at hol
        ·split at hol
         ·cases hol;simp;omega
         ·cases hol
        ·cases hol
      ·cases h
     ·split at h
      ·cases h
      ·rename_i k
       split at h
       ·rename_i cs pre hk
        split at h
        ·rename_i hc
         obtain⟨rfl,hcut,hall⟩:=hc
         have hol:B5 E H (.new k) i (len*sz)=some ((cs.drop i).take (len*sz)):=by
          simp only[B5,cellsOf,hk]
          rw[if_pos hcut]
         obtain⟨ov,r1,r2⟩:=R.loadsAt (P:=P) hol hdo
         have hoo:(cs.take (i+len*sz)).drop i=(cs.drop i).take (len*sz):=by
          rw[List.drop_take];congr 1;omega
         obtain⟨lk,hlk,_⟩:=R.objs k _ hk
         split at h
         ·rename_i hlt'
          cases h
          have RS:B6 E w0 ((H.killAll pre).set k (.cells (cs.take (i+len*sz)) false [])) w ρ:=R.less (by
           intro j o e
           rw[AHeap.get_set,AHeap.get_killAll]at e
           split at e
           ·rename_i hj;subst hj;cases e
            refine⟨_,hk, .inr ⟨cs,true,pre,_,[],rfl,rfl, .inr ⟨rfl,fun p hp=> ?_⟩⟩⟩
            rw[AHeap.get_set,AHeap.get_killAll,if_neg (fun e=>(R.pres k _ hk p hp).1 e.symm),if_pos hp]
           ·split at e
            ·cases e
            ·exact⟨o,e, .inl rfl⟩)
          refine⟨ov,fun w' hw=>r1 w' hw,hfin _ ov _ [k] r2 (by simp;omega) RS (by simp) ?_ rfl (by rw[hoo])⟩
          intro p hp
          simp only[List.mem_singleton]at hp;subst hp
          refine⟨by rw[hlk];rfl,fun op hop=> ?_⟩
          rw[AHeap.get_set,if_pos rfl]at hop
          cases hop;rfl
         ·rename_i hlt'
          cases h
          have heq:i+len*sz=cs.length:=by omega
          have RS:B6 E w0 (H.set k (.cells cs false pre)) w ρ:=R.less (by
           intro j o e
           rw[AHeap.get_set]at e
           split at e
           ·rename_i hj;subst hj;cases e
            exact⟨_,hk, .inr ⟨cs,true,pre,cs.length,pre,rfl,by rw[List.take_length], .inl ⟨rfl,Nat.le_refl _⟩⟩⟩
           ·exact⟨o,e, .inl rfl⟩)
          have hdr:cs.drop i=(cs.drop i).take (len*sz):=by
           rw[List.take_of_length_le];simp;omega
          refine⟨ov,fun w' hw=>r1 w' hw,hfin _ ov _ (k::pre) r2 (by simp;omega) RS (by simp) ?_ rfl (by rw[←hdr])⟩
          intro p hp
          have hps:(ρ p).isSome:=by
           rcases List.mem_cons.1 hp with rfl|hp
           ·rw[hlk];rfl
           ·exact(R.pres k _ hk p hp).2
          refine⟨hps,fun op hop=> ?_⟩
          rw[AHeap.get_set]at hop
          split at hop
          ·cases hop;rfl
          ·rename_i hpk
           rcases List.mem_cons.1 hp with rfl|hp
           ·exact absurd rfl hpk
           ·obtain⟨lp,hlp⟩:=Option.isSome_iff_exists.1 hps
            exact(R.kin k p _ op lk lp hk hp hop hlk hlp).1
        ·cases h
       ·cases h
    ·cases h
  ·cases h
 ·cases h
theorem b9O{sT xT e:TypeId}{d:TypeDesc}{size n len c:Nat}{base:Option Addr}{vx:Value}{vs:List Value}{w':World}(hu:P.underlying sT=some (.slice e))(hx:P.underlying xT=some d)
  (hs:A4 P e=some size) (hle:len+n≤c) (hb:base=none→w'=w) (hst:∀ad,base=some ad→(storeCells (ad.add (len*size)) vs).run P w= .ok () w')
  (hsrc:((∀k,d≠ .int k)∧(Builtin.lenOf vx).run P w= .ok n w∧(Builtin.firstCells size n vx).run P w= .ok ⟨vs⟩ w)∨
   ∃k l i zv,d= .int k∧vx= .int i l∧IntKind.i64.wrap l=l∧0≤l∧n=l.toNat∧(∃ti,P.info? e=some ti∧l*ti.bytes≤2^47)∧(∀w,(zeroValue e).run P w= .ok zv w)∧
    vs=(if n*size=0 then[]else(Builtin.zeroCells zv.cells n).toList)) (ty:TypeId):
  (Builtin.append_ #[sT,xT] ty #[.slice base len c,vx]).run P w= .ok (.slice base (len+n) c) w':=by
 have a0:(#[sT,xT]:Array TypeId)[0]? =some sT:=rfl
 have a1:(#[sT,xT]:Array TypeId)[1]? =some xT:=rfl
 have b0:(#[Value.slice base len c,vx]:Array Value)[0]? =some (.slice base len c):=rfl
 have b1:(#[Value.slice base len c,vx]:Array Value)[1]? =some vx:=rfl
 have fin:(match base with
   |some a=>(do storeCells (a.add (len*size)) (⟨vs⟩:Array Value).toList;pure (.slice base (len+n) c):Sem Value)
   |_=>pure (.slice base (len+n) c)).run P w= .ok (.slice base (len+n) c) w':=by
  cases base with
  |none=>rw[hb rfl];rfl
  |some ad=>simp only[Sem.run_bind,hst ad rfl,Result.andThen_ok,Sem.run_pure]
 rcases hsrc with ⟨hd,hl,hf⟩|⟨k,l,i,zv,rfl,rfl,h1,h2,rfl,⟨ti,h3,h4⟩,h5,rfl⟩
 ·have hfalse:(match d with| .int k=>true|x=>false)=false:=by cases d<;>first|rfl|exact absurd rfl (hd _)
  simp only[Builtin.append_,a0,a1,b0,b1,Sem.run_bind,b7 hu,b7 hx,Result.andThen_ok,A6 hs,Sem.run_pure]
  rw[if_neg Bool.false_ne_true]
  simp only[Sem.run_bind,hl,Result.andThen_ok]
  rw[if_pos hle]
  simp only[Bool.not_false,if_true,Sem.run_bind,hf,Result.andThen_ok]
  exact fin
 ·have t1:¬IntKind.i64.wrap l<0:=by rw[h1];omega
  have t2:¬IntKind.i64.wrap l* ↑ti.bytes>2^48:=by rw[h1];omega
  simp only[Builtin.append_,a0,a1,b0,b1,Sem.run_bind,b7 hu,b7 hx,Result.andThen_ok,A6 hs,Sem.run_pure]
  rw[if_pos trivial]
  simp only[Sem.run_bind,asInt,asIntOf,Sem.run_pure,Result.andThen_ok]
  rw[if_neg t1]
  simp only[Sem.run_bind,u9 h3,Result.andThen_ok]
  rw[if_neg t2]
  simp only[Sem.run_bind,Sem.run_pure,Result.andThen_ok,h1]
  rw[if_pos hle]
  simp only[Bool.not_true,Bool.false_eq_true,if_false,Sem.run_bind]
  by_cases h0:l.toNat*size=0
  ·rw[if_pos h0]at fin ⊢
   exact fin
  ·rw[if_neg h0]at fin ⊢
   simp only[Sem.run_bind,h5,Result.andThen_ok,Sem.run_pure]
   exact fin
theorem b8v{sT xT e:TypeId}{d:TypeDesc}{size n len c:Nat}{base:Option Addr}{vx:Value}{vs olds:List Value}{ti:TypeInfo}{zv:Value}(hu:P.underlying sT=some (.slice e))(hx:P.underlying xT=some d)
  (hs:A4 P e=some size) (hlt:c<len+n) (hti:P.info? e=some ti) (hb0:0<ti.bytes) (hb:(2*(len+n)+768)*ti.bytes≤2^47) (hz:∀w,(zeroValue e).run P w= .ok zv w)
  (hold:∀w',w'.heap=w.heap→(Builtin.firstCells size len (.slice base len c)).run P w'= .ok ⟨olds⟩ w')
  (hsrc:((∀k,d≠ .int k)∧(Builtin.lenOf vx).run P w= .ok n w∧(∀w',w'.heap=w.heap→(Builtin.firstCells size n vx).run P w'= .ok ⟨vs⟩ w'))∨
   ∃k l i,d= .int k∧vx= .int i l∧IntKind.i64.wrap l=l∧0≤l∧n=l.toNat∧l*ti.bytes≤2^47∧
    vs=(if n*size=0 then[]else(Builtin.zeroCells zv.cells n).toList)) (ty:TypeId):
  ∃nc,len+n≤nc∧(Builtin.append_ #[sT,xT] ty #[.slice base len c,vx]).run P w=
   .ok (.slice (some ⟨w.heap.size,0,none⟩) (len+n) nc) { w with drawn:=w.drawn+1,heap:=w.heap.push (.cells (⟨olds⟩++⟨vs⟩++Builtin.zeroCells zv.cells (nc - (len+n))) e) }:=by
 have a0:(#[sT,xT]:Array TypeId)[0]? =some sT:=rfl
 have a1:(#[sT,xT]:Array TypeId)[1]? =some xT:=rfl
 have b0:(#[Value.slice base len c,vx]:Array Value)[0]? =some (.slice base len c):=rfl
 have b1:(#[Value.slice base len c,vx]:Array Value)[1]? =some vx:=rfl
 have hcap:=b4V hlt
 have q1:¬(Builtin.nextslicecap (len+n) c*ti.bytes>2^48):=by
  have:=Nat.mul_le_mul_right ti.bytes hcap
  omega
 have hneed:len+n≤2^47:=by
  have:len+n≤(2*(len+n)+768)*ti.bytes:=by
   calc len+n≤(2*(len+n)+768)*1:=by omega
    _≤(2*(len+n)+768)*ti.bytes:=Nat.mul_le_mul_left _ hb0
  omega
 have hmax:∀(p:Prop),¬(((len+n:Nat):Int)>IntKind.i64.max∧p):=by
  intro p h
  have:IntKind.i64.max=9223372036854775807:=by decide
  rw[this]at h
  omega
 refine⟨len+n+w.tape w.drawn (.appendCap (len+n) c e) % (2^63 - (len+n)),Nat.le_add_right _ _, ?_⟩
 rcases hsrc with ⟨hd,hl,hf⟩|⟨k,l,i,rfl,rfl,h1,h2,rfl,h4,rfl⟩
 ·have hfalse:(match d with| .int k=>true|x=>false)=false:=by cases d<;>first|rfl|exact absurd rfl (hd _)
  simp only[Builtin.append_,a0,a1,b0,b1,Sem.run_bind,b7 hu,b7 hx,Result.andThen_ok,A6 hs,Sem.run_pure]
  rw[if_neg Bool.false_ne_true]
  simp only[Sem.run_bind,hl,Result.andThen_ok]
  rw[if_neg (by omega)]
  simp only[Sem.run_bind,u9 hti,Result.andThen_ok]
  rw[if_neg (hmax _)]
  simp only[Sem.run_bind,u9 hti,Result.andThen_ok]
  rw[if_neg q1]
  simp only[Sem.run_bind,run_choose,Question.forced,Bool.false_eq_true,if_false,Result.andThen_ok,u9 hti,run_askRoom,Question.cut]
  rw[hold { w with drawn:=w.drawn+1 } rfl]
  simp only[Result.andThen_ok,Bool.not_false,if_true]
  rw[hf { w with drawn:=w.drawn+1 } rfl]
  simp only[Result.andThen_ok,hz,newRow,Sem.run_bind,run_newObj,Sem.run_pure]
 ·have t1:¬IntKind.i64.wrap l<0:=by rw[h1];omega
  have t2:¬IntKind.i64.wrap l* ↑ti.bytes>2^48:=by rw[h1];omega
  simp only[Builtin.append_,a0,a1,b0,b1,Sem.run_bind,b7 hu,b7 hx,Result.andThen_ok,A6 hs,Sem.run_pure]
  rw[if_pos trivial]
  simp only[Sem.run_bind,asInt,asIntOf,Sem.run_pure,Result.andThen_ok]
  rw[if_neg t1]
  simp only[Sem.run_bind,u9 hti,Result.andThen_ok]
  rw[if_neg t2]
  simp only[Sem.run_bind,Sem.run_pure,Result.andThen_ok,h1]
  rw[if_neg (by omega)]
  simp only[Sem.run_bind,u9 hti,Result.andThen_ok]
  rw[if_neg (hmax _)]
  simp only[Sem.run_bind,u9 hti,Result.andThen_ok]
  rw[if_neg q1]
  simp only[Sem.run_bind,run_choose,Question.forced,Bool.false_eq_true,if_false,Result.andThen_ok,u9 hti,run_askRoom,Question.cut]
  rw[hold { w with drawn:=w.drawn+1 } rfl]
  simp only[Result.andThen_ok,Bool.not_true,Bool.false_eq_true,if_false]
  by_cases h0:l.toNat*size=0
  ·rw[if_pos h0,if_pos h0]
   simp only[Sem.run_bind,Sem.run_pure,Result.andThen_ok,hz,newRow,run_newObj]
  ·rw[if_neg h0,if_neg h0]
   simp only[Sem.run_bind,Sem.run_pure,Result.andThen_ok,hz,newRow,run_newObj]
theorem b8a(R:B6 E w0 H w ρ){sT xT ty:TypeId}{s x a:AV}{vs vx:Value}{H':AHeap}(h:Y8 P E H sT s xT x=some (a,H'))(hs:rel ρ s vs)(hx:rel ρ x vx)(hf:a1w ρ H H'):
  K6 E w0 H ρ a H' ((Builtin.append_ #[sT,xT] ty #[vs,vx]).run P w):=by
 unfold Y8 at h
 simp only[Option.bind_eq_bind,Option.bind_eq_some_iff]at h
 obtain⟨e,he,size,hsz,bytes,hby,z,hz,h⟩:=h
 obtain⟨ti,hti,rfl⟩:=b6j hby
 obtain⟨zv,_,hzr⟩:=a1B (P:=P) (ρ:=ρ) hz w
 have hzv:∃zv,(∀w,(zeroValue e).run P w= .ok zv w)∧rel ρ z zv:=by
  unfold G7 at hz
  rw[hti]at hz
  cases hzz:ti.zero with
  |none=>simp only[hzz]at hz;cases hz
  |some u=>
   simp only[hzz,Option.map_some,Option.some.injEq]at hz
   subst hz
   exact⟨u,fun w=>by simp[zeroValue,u9 hti,hzz],b2w u⟩
 obtain⟨zv,hzv,hzr⟩:=hzv
 split at h
 ·rename_i hzs
  have hzc:zv.cells.size=size:=by
   have:=u7 (a0R hzr)
   simp at this;omega
  have main:∀ {n:Nat} {news:List AV} {nv:List Value} {d:TypeDesc},P.underlying xT=some d→J6 E H size ti.bytes s n news=some (a,H')→m6 ρ news nv→
    (∀w',w'.heap=w.heap→(((∀k,d≠ .int k)∧(Builtin.lenOf vx).run P w'= .ok n w'∧(Builtin.firstCells size n vx).run P w'= .ok ⟨nv⟩ w')∨
     ∃k l i,d= .int k∧vx= .int i l∧IntKind.i64.wrap l=l∧0≤l∧n=l.toNat∧l*ti.bytes≤2^47∧nv=(if n*size=0 then[]else(Builtin.zeroCells zv.cells n).toList)))→
    K6 E w0 H ρ a H' ((Builtin.append_ #[sT,xT] ty #[vs,vx]).run P w):=by
   intro n news nv d hxd hg hnv hsrc
   have hsl:∃base len c,vs= .slice base len c:=by
    unfold J6 at hg
    split at hg
    ·split at hg
     ·simp only[rel]at hs;exact⟨_,_,_,hs⟩
     ·simp only[rel]at hs;obtain⟨a,c,rfl,_⟩:=hs;exact⟨_,_,_,rfl⟩
     ·cases hg
    ·cases hg
   obtain⟨base,len,c,rfl⟩:=hsl
   by_cases hle:len+n≤c
   ·obtain⟨w',ρ',g1,g2,g3,g4,g5,g6,g7⟩:=c6U R hg hs hle hnv hf P
    refine⟨_,w',ρ',b9O (a1z he) hxd hsz hle g1 g2 ?_ ty,g3,g4,g5,g6,g7⟩
    rcases hsrc w rfl with hh|⟨k,l,i,h1,h2,h3,h4,h5,h6,h7⟩
    ·exact .inl hh
    ·exact .inr ⟨k,l,i,zv,h1,h2,h3,h4,h5,⟨ti,hti,h6⟩,hzv,h7⟩
   ·obtain⟨g1,g2,olds,g3,g4⟩:=c5I R hg hs (by omega) hnv hf P
    obtain⟨nc,k1,k2⟩:=b8v (P:=P) (w:=w) (vs:=nv) (a1z he) hxd hsz (by omega) hti g1 g2 hzv g3 (by
     rcases hsrc w rfl with hh|hh
     ·refine .inl ⟨hh.1,hh.2.1,fun w' hw=> ?_⟩
      rcases hsrc w' hw with hh'|⟨k,l,i,h1,_⟩
      ·exact hh'.2.2
      ·exact absurd h1 (hh.1 k)
     ·exact .inr hh) ty
    obtain⟨ρ',m1,m2,m3,m4,m5⟩:=g4 { w with drawn:=w.drawn+1,heap:=w.heap.push (.cells (⟨olds⟩++⟨nv⟩++Builtin.zeroCells zv.cells (nc - (len+n))) e) } e
     (Builtin.zeroCells zv.cells (nc - (len+n))) nc k1 (by rw[b2s,hzc]) rfl ⟨rfl,rfl⟩
    exact⟨_,_,ρ',k2,m1,m2,m3,m4,m5⟩
  split at h
  ·rename_i k hk
   simp only[Option.bind_eq_some_iff]at h
   obtain⟨l,hl,h⟩:=h
   split at h
   ·rename_i hc
    obtain⟨i,rfl⟩:=c0Q hl hx
    refine main (nv:=if l.toNat*size=0 then[]else(Builtin.zeroCells zv.cells l.toNat).toList) hk h ?_ (fun w' hw=> .inr ⟨k,l,i,rfl,rfl,hc.1,hc.2.1,rfl,hc.2.2,rfl⟩)
    split
    ·rename_i h0
     have:rep z.cells l.toNat=[]:=by
      apply List.eq_nil_of_length_eq_zero
      rw[b0z,hzs,h0]
     rw[this];exact m7.2 rfl
    ·exact b7g hzr _
   ·cases h
  ·rename_i d hd hxd
   simp only[Option.bind_eq_some_iff]at h
   obtain⟨n,hn,news,hnews,h⟩:=h
   obtain⟨nv,r1,r2⟩:=a7H (P:=P) R hn (Nat.le_refl _) hnews hx
   exact main hxd h r2 (fun w' hw=> .inl ⟨fun k e=>hd k e,b9h hn hx w',r1 w' hw⟩)
  ·cases h
 ·cases h
end
end
end Go.Am
end
