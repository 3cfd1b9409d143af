/-
  TransferRisesSaid: part Qbg of its proof.
-/
import Derived.Test.YtdkidgkiplcggaaGreatQbf
set_option linter.unusedVariables false
set_option linter.unusedSimpArgs false
set_option maxRecDepth 100000
section
open Go.Proofs Go Go.Am Go.Op
namespace Go.Proofs.YtdkidgkiplcggaaGreat.d
section
set_option linter.unusedSectionVars false
theorem Sl.push{S0 T:b8}{av:List Nat}{d:D}{l news:List Int}(h:Sl S0 av d l T)(hle:S0.le T)(hav:∀j∈av,T j≠none){v:D}(hv:rowsS T 1 v=some (iC news))(hb:l.length+news.length<2^40){K:D→b8→Prop}
  (hK:∀d' T',S0.le T'→(∀j∈av,T' j=T j)→Sl S0 av d' (l++news) T'→K d' T'):w9 T 1 8 d v K:=by
 simp only[w9,hv]
 by_cases hn:news=[]
 ·subst hn
  have hn':iC []=[]:=rfl
  have:K d T:=hK d T hle (fun _ _=>rfl) (by rw[List.append_nil];exact h)
  rcases h with ⟨rfl,rfl⟩|⟨k,cap,ex,rows,acs,h0,h1,rfl,h2,h3,h4⟩
  ·simp only[a1d];rw[if_pos hn'];exact this
  ·simp only[a1d];rw[if_pos hn'];exact this
 have hn':iC news≠[]:=fun e=>hn (List.length_eq_zero_iff.1 (by rw[←u4,e];rfl))
 rcases h with ⟨rfl,rfl⟩|⟨k,cap,ex,rows,acs,h0,h1,rfl,h2,h3,h4⟩
 ·simp only[a1d]
  rw[if_neg hn']
  refine⟨by rw[u4];simp at hb;omega, .inr fun k acs hk=>hK _ _ (b8.le_set hle (b8.none_of hle hk)) (fun j hj=>b8.set_ne _ _ _ fun e=>hav j hj (by rw[e];exact hk)) (.inr ⟨k,news.length,false,iC news,acs,b8.none_of hle hk,fun hm=>hav k hm hk,by simp,b8.set_same _ _ _, ?_,by simp⟩)⟩
  rw[List.nil_append,List.take_of_length_le (by rw[u4];exact Nat.le_refl _)]
 ·simp only[a1d]
  rw[if_neg hn',h2]
  simp only
  rw[if_pos ⟨by trivial,by trivial,by have:=c5S h3;omega⟩]
  have hke:∀j∈av,(T.erase k) j=T j:=fun j hj=>b8.erase_ne _ _ fun e=>h1 (e▸hj)
  refine⟨by rw[u4];omega, .inr fun k' acs' hk'=> ?_⟩
  have hle':=b8.le_erase hle h0
  refine hK _ _ (b8.le_set hle' (b8.none_of hle' hk')) (fun j hj=> ?_) (.inr ⟨k',l.length+news.length,false,iC (l++news),acs',b8.none_of hle' hk',fun hm=>hav k' hm (by rw[←hke k' hm];exact hk'),by simp, ?_, ?_,by simp⟩)
  ·rw[b8.set_ne,hke j hj]
   rintro rfl
   exact hav j hj (by rw[←hke j hj];exact hk')
  ·rw[b8.set_same,List.drop_zero,h3,a4n]
  ·rw[List.take_of_length_le (by rw[u4];exact Nat.le_refl _)]
section
variable{E:j2}{w0:j9}
def d9d(S0:b8)(k:Nat)(f:Fr)(lim:Int)(news:List Int)(v:D)(T':b8):Prop:=
 v= .int .i64 (if lim<((f.stack++news).length:Int) then 210 else 0)∧StT S0 k ⟨f.locals,f.stack++news⟩ lim T'
theorem d5T{S0 T:b8}{k:Nat}{f:Fr}{lim:Int}(h:StT S0 k f lim T){news:List Int}(hb:f.stack.length+news.length<2^40):j8 Tryz.prog E w0 F9 [.ptr k 0,iD news] T (d9d S0 k f lim news):=by
 obtain⟨l,s,hc,hk0,hle,hl,hst⟩:=h
 refine a9c ?_
 unfold a5d
 have g1:c9 T (.ptr k 1)=some s:=hc.ld 1
 simp only[ndP,oD,E2,Nat.zero_add,g1]
 refine hst.push (news:=news) hle (fun j hj=> ?_) (c1n _ _) hb fun s' T' hle' he hs'=> ?_
 ·rcases List.mem_cons.1 hj with rfl|hj
  ·exact hc.there
  ·exact hl.ob_some j hj
 have hc':u9 T' k 3 [l,s, .int .i64 lim]:=hc.of (he k List.mem_cons_self)
 refine hc'.st (ds:=[s']) hs'.cells ⟨rfl,by decide,by simp⟩ fun a'=> ?_
 rw[show l7 [l,s, .int .i64 lim] 1 [s']=[l,s', .int .i64 lim]from rfl]
 have hnk:∀j,j≠k→(T'.set k ⟨3,[[l,s', .int .i64 lim]],a'⟩) j=T' j:=fun j hj=>b8.set_ne _ _ _ hj
 have h2:u9 (T'.set k ⟨3,[[l,s', .int .i64 lim]],a'⟩) k 3 [l,s', .int .i64 lim]:=u9.new
 have q1:c9 (T'.set k ⟨3,[[l,s', .int .i64 lim]],a'⟩) (.ptr k 1)=some s':=h2.ld 1
 have q2:c9 (T'.set k ⟨3,[[l,s', .int .i64 lim]],a'⟩) (.ptr k 2)=some (.int .i64 lim):=h2.ld 2
 have nl:∀j∈ob l,j≠k:=fun j hj e=>(hl.ob_none j hj).2 (by rw[e];exact List.mem_cons_self)
 have ns:∀j∈ob s',j≠k:=fun j hj e=>(hs'.ob_none j hj).2 (by rw[e];exact List.mem_cons_self)
 have hst':StT S0 k ⟨f.locals,f.stack++news⟩ lim (T'.set k ⟨3,[[l,s', .int .i64 lim]],a'⟩):=by
  refine⟨l,s',h2,hk0,fun j o e=> ?_, ?_, ?_⟩
  ·rw[hnk]
   ·exact hle' _ _ e
   ·rintro rfl;rw[hk0]at e;cases e
  ·rcases hl with hl|⟨kl,cap,ex,rows,acs,z0,z1,rfl,z2,z3⟩
   ·exact .inl hl
   ·have hkl:kl≠k:=fun e=>z1 (by rw[e];exact List.mem_cons_self)
    refine .inr ⟨kl,cap,ex,rows,acs,z0,fun hm=> ?_,rfl,by rw[hnk kl hkl,he kl (List.mem_cons_of_mem _ (by simp[ob]))];exact z2,z3⟩
    rcases List.mem_cons.1 hm with e|hm
    ·exact hkl e
    ·exact(hs'.ob_none kl hm).2 (List.mem_cons_of_mem _ (by simp[ob]))
  ·exact hs'.of fun j hj=>hnk j (ns j hj)
 simp only[oD,E2,Nat.zero_add,q1,q2,hs'.len,ndP,a7w]
 rw[I6]
 refine⟨fun hgt=>d9.here ⟨by rw[if_pos hgt],hst'⟩,fun hgt=>d9.here ⟨by rw[if_neg hgt],hst'⟩⟩
theorem Own.finT{S0 S:b8}{d:D}{l:List Int}(h:Own S0 d l S){Q:D→b8→Prop}{lp lq:List D}(hq:d9 E Q (.tup (lp++iD l::lq)) S0):d9 E Q (.tup (lp++d::lq)) S:=by
 rcases h with ⟨rfl,rfl,rfl⟩|⟨k,acs,ex,h,rfl,rfl⟩
 ·exact d9.nilT hq
 ·refine d9.freezeT (b8.set_same _ _ _) rfl (by rw[u4];omega) (Nat.le_refl _) ?_
  rw[b8.erase_set _ _ _ h,List.drop_zero,List.take_of_length_le (by rw[u4];exact Nat.le_refl _)]
  exact hq
theorem c1Y{y:In}{m:Mo}(hy:y.Ok)(hm:m.Fits):K9 Tryz.prog E w0 a1n [inD y,moD m] (tk3 (t6 y m)):=fun S=>
 (b6l hy hm).fin fun v S' ⟨c,d,e,S1,h1,h2⟩=>by
  subst e
  exact h2.finT (lp:=[c]) (h1.finT (lp:=[]) d9.pure)
theorem StT.le{S0 T T':b8}{k:Nat}{f:Fr}{lim:Int}(h:StT S0 k f lim T)(hle:T.le T'):StT S0 k f lim T':=by
 obtain⟨l,s,h1,h2,h3,h4,h5⟩:=h
 have go:∀ {av d li},Sl S0 av d li T→Sl S0 av d li T':=fun h=>by
  rcases h with h|⟨k,cap,ex,rows,acs,z0,z1,z2,z3,z4⟩
  ·exact .inl h
  ·exact .inr ⟨k,cap,ex,rows,acs,z0,z1,z2,hle _ _ z3,z4⟩
 exact⟨l,s,h1.le hle,h2,b8.le_trans h3 hle,go h4,go h5⟩
def a7a(r:Ro)(f:Fr)(news:List Int):Fr×Int:=(⟨f.locals,f.stack++news⟩,if r.stack<((f.stack++news).length:Int) then 210 else 0)
def doS(m:Mo)(r:Ro)(y:In)(f:Fr):Fr×Int:=
 if y.op=51∧r.results.length<f.stack.length then(f,210)
 else if f.stack.length<(if y.op=51 then r.results else(t6 y m).1).length then(f,210)
 else if a6v (if y.op=51 then r.results else(t6 y m).1) (f.stack.drop (f.stack.length - (if y.op=51 then r.results else(t6 y m).1).length)) (decide (y.op=9))=false then(f,211)
 else if y.op=7 then(if f.locals.getD y.a.toNat 0=0 then(f,212) else a7a r ⟨f.locals,f.stack.take (f.stack.length - (t6 y m).1.length)⟩ [f.locals.getD y.a.toNat 0])
 else if y.op=8 then(⟨f.locals.set y.a.toNat (f.stack.getD (f.stack.length - (t6 y m).1.length) 0),f.stack.take (f.stack.length - (t6 y m).1.length)⟩,0)
 else if y.op=10 then a7a r ⟨f.locals,f.stack.take (f.stack.length - (t6 y m).1.length)⟩ [f.stack.getD (f.stack.length - (t6 y m).1.length) 0,f.stack.getD (f.stack.length - (t6 y m).1.length) 0]
 else a7a r ⟨f.locals,f.stack.take (f.stack.length - (if y.op=51 then r.results else(t6 y m).1).length)⟩ (t6 y m).2.1
def DoQ(S0:b8)(k:Nat)(m:Mo)(r:Ro)(y:In)(f:Fr)(v:D)(T':b8):Prop:=
 v= .int .i64 (doS m r y f).2∧S0.le T'∧((doS m r y f).2=0→StT S0 k (doS m r y f).1 r.stack T')
theorem c9T{m:Mo}{r:Ro}{y:In}(h:a2v m r y=true):(t6 y m).2.2=0∧isS y=true∧(y.op=7∨y.op=8→0≤y.a∧y.a<r.locals):=by
 unfold a2v at h
 simp only[Bool.and_eq_true,decide_eq_true_eq,Bool.not_eq_true',Bool.and_eq_false_iff,decide_eq_false_iff_not]at h
 obtain⟨h1,h2⟩:=h
 have hs:isS y=true:=by
  cases hs:isS y with
  |true=>rfl
  |false=>unfold t6 at h1;rw[if_pos hs]at h1;cases h1
 refine⟨h1,hs,fun ho=>⟨?_, ?_⟩⟩
 ·obtain⟨l,e1,e2,_⟩:=b9n hs
  have:l=[fIx]:=by
   rcases ho with ho|ho<;>rw[ho]at e1
   ·have:lay 7=some [fIx]:=by decide
    rw[this]at e1;cases e1;rfl
   ·have:lay 8=some [fIx]:=by decide
    rw[this]at e1;cases e1;rfl
  rw[this]at e2
  simp[a2o,Fld.may,fIx,In.num]at e2
  omega
 ·rcases h2 with h2|h2
  ·exact absurd ho h2
  ·omega
theorem c6u{m:Mo}(hm:m.Fits)(n:Int)(ks:List Int):(o4 m n ks).1.fields.length<2^30:=by
 unfold o4
 split
 ·rename_i t ht
  exact hm.fields t (List.mem_of_getElem? (c5D ht).2.1)
 ·decide
theorem d0t{y:In}{m:Mo}(hm:m.Fits):(U1 y m).1.length<2^31∧(U1 y m).2.1.length<2^31:=by
 have hf:=c6u hm y.a [6]
 have h36:((o4 m y.a [6]).1.fields.map (·.2)).length<2^31:=by rw[List.length_map];omega
 have lit:∀l:List Int,l.length≤3→l.length<2^31:=fun l h=>by omega
 unfold U1
 simp only
 split
 ·split
  ·exact⟨h36,lit _ (by simp)⟩
  ·split
   ·split<;>exact⟨lit _ (by simp),lit _ (by simp)⟩
   ·exact⟨lit _ (by simp),lit _ (by simp)⟩
 ·repeat' split
  all_goals exact⟨lit _ (by simp),lit _ (by simp)⟩
theorem c8z(y:In):(r0 y).1.length≤3∧(r0 y).2.length≤3:=by
 have ite3:∀(c:Prop) [Decidable c] (a b:List Int×List Int),(a.1.length≤3∧a.2.length≤3)→(b.1.length≤3∧b.2.length≤3)→((if c then a else b).1.length≤3∧(if c then a else b).2.length≤3):=fun c _ a b ha hb=>by
  by_cases h:c
  ·rw[if_pos h];exact ha
  ·rw[if_neg h];exact hb
 unfold r0
 repeat refine ite3 _ _ _ ⟨by simp,by simp⟩ ?_
 exact⟨by simp,by simp⟩
theorem c8p{y:In}{m:Mo}(hm:m.Fits):(t6 y m).1.length<2^31∧(t6 y m).2.1.length<2^31:=by
 unfold t6
 have hp:=c8z y
 have hd:=d0t (y:=y) hm
 split
 ·decide
 ·split
  ·decide
  ·split
   ·split
    ·rename_i r hr
     have:=hm.params r (List.mem_of_getElem? hr)
     exact⟨by have:=this.1;show r.params.length<_;omega,by have:=this.2.1;show r.results.length<_;omega⟩
    ·decide
   ·split
    ·split
     ·exact hd
     ·decide
    ·exact⟨by show(r0 y).1.length<_;omega,by show(r0 y).2.length<_;omega⟩
theorem d6X{S0 T:b8}{av:List Nat}{d:D}{l:List Int}(h:Sl S0 av d l T){i:Nat}(hi:i<l.length){n:Int}{K:D→b8→Prop}(hK:∀T',(∀j,j ∉ ob d→T' j=T j)→Sl S0 av d (l.set i n) T'→K b9 T'):∃p,o6 1 d (.int .i64 (i:Int))=some p∧i7 T 1 p (.int .i64 n) K:=by
 rcases h with ⟨rfl,rfl⟩|⟨k,cap,ex,rows,acs,h0,h1,rfl,h2,h3,h4⟩
 ·simp at hi
 ·refine⟨_,c8P hi, ?_⟩
  rw[Nat.zero_add]
  have hv:l[i]? =some l[i]:=List.getElem?_eq_getElem hi
  refine stR (ds:=[.int .i64 n]) (row:=[.int .i64 l[i]]) h2 (c6Z h3 hv) (clI _ _) ⟨rfl,by decide,by simp⟩ fun acs'=> ?_
  have e:l7 [D.int .i64 l[i]] 0 [.int .i64 n]=[.int .i64 n]:=rfl
  rw[e]
  refine hK _ (fun j hj=>b8.set_ne _ _ _ (by simpa [ob]using hj)) (.inr ⟨k,cap,ex,rows.set i [.int .i64 n],acs',h0,h1,by rw[List.length_set],b8.set_same _ _ _, ?_,by rw[List.length_set];exact h4⟩)
  rw[List.length_set,List.take_set,h3]
  simp only[iC]
  rw[b7f, ←List.map_set]
theorem d8s{m:Mo}(hm:m.Fits){r:Ro}(hr:r.Ok)(hrs:r.results.length<2^30){y:In}(hy:y.Ok)(hmay:a2v m r y=true){f:Fr}(hfl:(f.locals.length:Int)=r.locals)(hfs:f.stack.length<2^31){S0 T:b8}{k:Nat}(hst:StT S0 k f r.stack T):
  j8 Tryz.prog E w0 X2 [.ptr k 0,moD m, .agg (L8 r),inD y] T (DoQ S0 k m r y f):=by
 obtain⟨ht0,his,hix⟩:=c9T hmay
 obtain⟨hs1,hs2⟩:=c8p (y:=y) hm
 refine a9F ?_
 unfold a5u
 rw[moD,U9,oD]
 intro ka a na
 have ca:u9 (T.set ka ⟨3,[M3 m],a⟩) ka 3 (M3 m):=u9.new
 have l1:T.le (T.set ka ⟨3,[M3 m],a⟩):=b8.le_new na
 rw[show(M3 m).length=3 from rfl]
 generalize (T.set ka ⟨3,[M3 m],a⟩)=T1 at ca l1
 rw[U9,oD]
 intro kb b nb
 have ca:=ca.set (o:=⟨6,[L8 r],b⟩) nb
 have cb:u9 (T1.set kb ⟨6,[L8 r],b⟩) kb 6 (L8 r):=u9.new
 have l1:=b8.le_trans l1 (b8.le_new (o:=⟨6,[L8 r],b⟩) nb)
 rw[show(L8 r).length=6 from rfl]
 generalize (T1.set kb ⟨6,[L8 r],b⟩)=T1 at ca cb l1
 refine d6y fun kc c nc=> ?_
 have ca:=ca.set (o:=⟨4,[P8 y],c⟩) nc
 have cb:=cb.set (o:=⟨4,[P8 y],c⟩) nc
 have cc:u9 (T1.set kc ⟨4,[P8 y],c⟩) kc 4 (P8 y):=u9.new
 have l1:=b8.le_trans l1 (b8.le_new (o:=⟨4,[P8 y],c⟩) nc)
 have hst1:=hst.le l1
 generalize (T1.set kc ⟨4,[P8 y],c⟩)=T1 at ca cb cc l1 hst1
 have hleS:S0.le T1:=by obtain⟨l,s,h1,h2,h3,_⟩:=hst1;exact h3
 obtain⟨i0,i1,i2,i3⟩:=d1d y
 have g0:∀ {T:b8},u9 T kc 4 (P8 y)→c9 T (.ptr kc 0)=some (.int .u8 y.op):=fun h=>h.ld 0
 have g1:∀ {T:b8},u9 T kc 4 (P8 y)→c9 T (.ptr kc 1)=some (.int .i64 y.a):=fun h=>h.ld 1
 rw[cc.all (n:=4) (by decide) rfl,oD,ca.all (n:=3) (by decide) rfl,oD]
 refine(show j8 Tryz.prog E w0 a1n [inD y,moD m] T1 _ from(c1Y hy hm).use ?_)
 unfold tk3
 simp only[exD,List.getElem?_cons_zero,List.getElem?_cons_succ,oD,ht0,a3s]
 rw[decide_eq_false (fun h:(0:Int)≠0=>h rfl),cdF]
 have c16:∀types:List Int,types=(if y.op=51 then r.results else(t6 y m).1)→¬(y.op=51∧r.results.length<f.stack.length)→types.length<2^40→N7 E w0 (d9 E (DoQ S0 k m r y f)) (.ptr k 0) (.ptr kc 0) (iD types) (iD (t6 y m).2.1) T1:=by
  intro types htypes h51 htl
  refine a7t ?_
  unfold a3i
  simp only[E2,Nat.zero_add,oD,g0 cc,Q2]
  refine(d6d hst1 (by omega) htl).use fun v T' hq=> ?_
  unfold c5r at hq
  have e0:doS m r y f=if f.stack.length<types.length then(f,210) else if a6v types (f.stack.drop (f.stack.length - types.length)) (decide (y.op=9))=false then(f,211)
    else if y.op=7 then(if f.locals.getD y.a.toNat 0=0 then(f,212) else a7a r ⟨f.locals,f.stack.take (f.stack.length - (t6 y m).1.length)⟩ [f.locals.getD y.a.toNat 0])
    else if y.op=8 then(⟨f.locals.set y.a.toNat (f.stack.getD (f.stack.length - (t6 y m).1.length) 0),f.stack.take (f.stack.length - (t6 y m).1.length)⟩,0)
    else if y.op=10 then a7a r ⟨f.locals,f.stack.take (f.stack.length - (t6 y m).1.length)⟩ [f.stack.getD (f.stack.length - (t6 y m).1.length) 0,f.stack.getD (f.stack.length - (t6 y m).1.length) 0]
    else a7a r ⟨f.locals,f.stack.take (f.stack.length - types.length)⟩ (t6 y m).2.1:=by
   unfold doS;rw[if_neg h51, ←htypes]
  have bad:∀e:Int,(doS m r y f).2=e→e≠0→∀ {T2:b8},S0.le T2→d9 E (DoQ S0 k m r y f) (.int .i64 e) T2:=fun e he hne T2 hl=>d9.here ⟨by rw[he],hl,fun h=>absurd (he.symm.trans h) hne⟩
  have stop:∀(e:Int) (d:D),(doS m r y f).2=e→e≠0→b7 (j5 (.tup [d, .int .i64 e]) 0) (fun v19=>b7 (j5 (.tup [d, .int .i64 e]) 1) fun v20=>b7 (i4 .neq v20 (.int .i64 0)) fun v21=>i6 v21 (d9 E (DoQ S0 k m r y f) v20 T1) False):=by
   intro e d he hne
   simp only[exD,List.getElem?_cons_zero,List.getElem?_cons_succ,oD,a3s]
   rw[decide_eq_true hne,cdT]
   exact bad e he hne hleS
  by_cases c1:f.stack.length<types.length
  ·rw[if_pos c1]at hq
   obtain⟨rfl,rfl⟩:=hq
   simp only[exD,List.getElem?_cons_zero,List.getElem?_cons_succ,oD,a3s]
   rw[decide_eq_true (by decide),cdT]
   exact bad 210 (by rw[e0,if_pos c1]) (by decide) hleS
  rw[if_neg c1]at hq
  by_cases c2:a6v types (f.stack.drop (f.stack.length - types.length)) (decide (y.op=9))=true
  case neg=>
   rw[if_neg c2]at hq
   obtain⟨rfl,rfl⟩:=hq
   simp only[exD,List.getElem?_cons_zero,List.getElem?_cons_succ,oD,a3s]
   rw[decide_eq_true (by decide),cdT]
   exact bad 211 (by rw[e0,if_neg c1,if_pos (by simpa using c2)]) (by decide) hleS
  rw[if_pos c2]at hq
  obtain⟨d,rfl,hrd,hst2,hsame⟩:=hq
  rw[if_neg c1,if_neg (by rw[c2];decide)]at e0
  have hle2:S0.le T':=by obtain⟨l,s,_,_,h3,_⟩:=hst2;exact h3
  obtain⟨l,s,hc2,hk0,_,hl2,hs2'⟩:=hst2
  have hkc:kc≠k:=by
   intro e
   obtain⟨l',s',hc1,_⟩:=hst1
   exact absurd rfl ((e▸cc).ne hc1 (by decide))
  have cc2:u9 T' kc 4 (P8 y):=cc.of (hsame kc hkc)
  simp only[exD,List.getElem?_cons_zero,List.getElem?_cons_succ,oD,a3s]
  rw[decide_eq_false (fun h:(0:Int)≠0=>h rfl),cdF]
  simp only[E2,Nat.zero_add,oD,g0 cc2,Q2]
  have q0:c9 T' (.ptr k 0)=some l:=hc2.ld 0
  have put:∀(news:List Int),news.length<2^32→doS m r y f=a7a r ⟨f.locals,f.stack.take (f.stack.length - types.length)⟩ news→j8 Tryz.prog E w0 F9 [.ptr k 0,iD news] T' (d9 E (DoQ S0 k m r y f)):=by
   intro news hn he
   refine(d5T (⟨l,s,hc2,hk0,hle2,hl2,hs2'⟩:StT S0 k ⟨f.locals,f.stack.take (f.stack.length - types.length)⟩ r.stack T') (by simp only[List.length_take];omega)).use fun v T2 ⟨hv,h2⟩=> ?_
   rw[hv]
   refine d9.here ⟨by rw[he];rfl,by obtain⟨_,_,_,_,h3,_⟩:=h2;exact h3,fun _=>by rw[he];exact h2⟩
  have tk1:y.op=7∨y.op=8∨y.op=10→types=(t6 y m).1:=fun h=>by rw[htypes,if_neg (by omega)]
  have tkp:y.op=8∨y.op=10→(t6 y m).1=[0]:=fun h=>by
   unfold t6
   rw[if_neg (by rw[his];decide),if_neg (by omega),if_neg (by omega),if_neg (by omega)]
   unfold r0
   rcases h with h|h<;>simp[h]
  have hd0:y.op=8∨y.op=10→∃p,o6 1 d (.int .i64 0)=some p∧c9 T' p=some (.int .i64 (f.stack.getD (f.stack.length - (t6 y m).1.length) 0)):=fun h=>by
   have ht:=tk1 (by omega)
   have hone:=tkp h
   have hlen:types.length=1:=by rw[ht,hone];rfl
   refine hrd.2 0 _ ?_
   rw[List.getElem?_drop, ←ht,Nat.add_zero,List.getD_eq_getElem?_getD,List.getElem?_eq_getElem (by omega)]
   rfl
  rw[I6]
  refine⟨fun h7=> ?_,fun h7=> ?_⟩
  ·obtain⟨ha0,hal⟩:=hix (.inl h7)
   have hlt:y.a.toNat<f.locals.length:=by omega
   obtain⟨p,p1,p2⟩:=hl2.rd.2 y.a.toNat (f.locals.getD y.a.toNat 0) (by rw[List.getD_eq_getElem?_getD,List.getElem?_eq_getElem hlt];rfl)
   rw[show((y.a.toNat:Nat):Int)=y.a by omega]at p1
   simp only[ndP,oD,E2,Nat.zero_add,q0,g1 cc2,p1,p2,Q2]
   rw[I6]
   refine⟨fun hz=>bad 212 (by rw[e0,if_pos h7,if_pos hz]) (by decide) hle2,fun hz=> ?_⟩
   generalize hx:f.locals.getD y.a.toNat 0=x at*
   refine G6 (rows:=iC [x]) rfl ?_
   exact put [x] (by simp) (by rw[e0,if_pos h7,if_neg hz,tk1 (by omega)])
  ·rw[I6]
   refine⟨fun h8=> ?_,fun h8=> ?_⟩
   ·obtain⟨ha0,hal⟩:=hix (.inr h8)
    have hlt:y.a.toNat<f.locals.length:=by omega
    obtain⟨p,p1,p2⟩:=hd0 (.inl h8)
    simp only[ndP,oD,E2,Nat.zero_add,q0,g1 cc2,p1,p2]
    obtain⟨q,q1,q2⟩:=d6X hl2 hlt (n:=f.stack.getD (f.stack.length - (t6 y m).1.length) 0) (K:=fun v48 S49=>d9 E (DoQ S0 k m r y f) (.int .i64 0) S49) fun T2 hT2 hl3=>by
     have hkl:k ∉ ob l:=fun h=>(hl2.ob_none k h).2 List.mem_cons_self
     have hsl:∀j∈ob s,j ∉ ob l:=fun j hj hm=>(hl2.ob_none j hm).2 (List.mem_cons_of_mem _ hj)
     have e1:doS m r y f=(⟨f.locals.set y.a.toNat (f.stack.getD (f.stack.length - (t6 y m).1.length) 0),f.stack.take (f.stack.length - (t6 y m).1.length)⟩,0):=by rw[e0,if_neg h7,if_pos h8]
     have hle3:S0.le T2:=fun j o e=>by
      rw[hT2 j]
      ·exact hle2 _ _ e
      ·intro hm;rw[(hl2.ob_none j hm).1]at e;cases e
     have h3:StT S0 k ⟨f.locals.set y.a.toNat (f.stack.getD (f.stack.length - (t6 y m).1.length) 0),f.stack.take (f.stack.length - types.length)⟩ r.stack T2:=⟨l,s,hc2.of (hT2 k hkl),hk0,hle3,hl3,hs2'.of fun j hj=>hT2 j (hsl j hj)⟩
     rw[tk1 (by omega)]at h3
     exact d9.here ⟨by rw[e1],hle3,fun _=>by rw[e1];exact h3⟩
    rw[show((y.a.toNat:Nat):Int)=y.a by omega]at q1
    rw[q1,oD]
    exact q2
   ·rw[I6]
    refine⟨fun h10=> ?_,fun h10=> ?_⟩
    ·obtain⟨p,p1,p2⟩:=hd0 (.inr h10)
     simp only[oD,p1,p2]
     generalize hx:f.stack.getD (f.stack.length - (t6 y m).1.length) 0=x at*
     refine G6 (rows:=iC [x,x]) rfl ?_
     exact put [x,x] (by simp) (by rw[e0,if_neg h7,if_neg h8,if_pos h10,tk1 (by omega)])
    ·exact put (t6 y m).2.1 (by omega) (by rw[e0,if_neg h7,if_neg h8,if_neg h10])
 simp only[E2,Nat.zero_add,oD,g0 cc,Q2]
 rw[I6]
 refine⟨fun h51=> ?_,fun h51=>c16 _ (by rw[if_neg h51]) (fun h=>h51 h.1) (by omega)⟩
 have z2:c9 T1 (.ptr kb 2)=some (iD r.results):=cb.ld 2
 obtain⟨l,s,hc1,hk0,hle1,hl1,hs1'⟩:=hst1
 have z1:c9 T1 (.ptr k 1)=some s:=hc1.ld 1
 simp only[ndP,oD,E2,Nat.zero_add,z1,z2,hs1'.len,Y7,a7w]
 rw[I6]
 refine⟨fun hgt=> ?_,fun hgt=>c16 _ (by rw[if_pos h51]) (fun h=>hgt (by have:=h.2;omega)) (by omega)⟩
 have e:doS m r y f=(f,210):=by unfold doS;rw[if_pos ⟨h51,by omega⟩]
 exact d9.here ⟨by rw[e],hleS,fun h=>by rw[e]at h;cases h⟩
end
end
section
set_option linter.unusedSectionVars false
def edR(e:Int×Fr):List D:=[.int .i64 e.1,iD e.2.locals,iD e.2.stack]
def c0P(l:List (Int×Fr)):D:= .lst (l.map edR) 3
def b6R(r:List (Int×Fr)×Int):D:= .tup [c0P r.1, .int .i64 r.2]
def c2E(r:Ro):List In:=(a8O (a7y r.code)).1
def b6F(r:Ro):List Int:=(a8O (a7y r.code)).2.1
def b1d(r:Ro)(i:Nat):Int:=(b6F r++[(r.code.length:Int)]).getD (i+1) 0
def a9A(m:Mo)(r:Ro)(y:In)(next:Int)(f:Fr):List (Int×Fr)×Int:=
 if(doS m r y f).2≠0 then([],(doS m r y f).2)
 else if(a0N y next).all (fun t=>decide (t∈b6F r)) then((a0N y next).map fun t=>(t,(doS m r y f).1),0) else([],190)
def b7x(m:Mo)(r:Ro)(at':Int)(f:Fr):List (Int×Fr)×Int:=
 if b1A m r f=false then([],2) else match (b6F r).findIdx? (fun p=>decide (p=at')) with
  |none=>([],190)
  |some i=>match (c2E r)[i]? with
   |some y=>a9A m r y (b1d r i) f
   |none=>([],190)
def W3(m:Mo)(fn at':Int)(f:Fr):List (Int×Fr)×Int:=
 if(F3 m fn).2≠0 then([],(F3 m fn).2) else match m.funcs[fn.toNat]? with
  |some r=>b7x m r at' f
  |none=>([],4)
theorem c5M{y:In}(ha:y.arms.length≤65535)(n:Int):(a0N y n).length≤65540:=by
 have hr:∀l:List Int,(c7L l).length≤l.length:=fun l=>by
  have:=a9p (srt l);rw[b7R]at this;exact this
 unfold a0N
 split
 ·simp
 ·split
  ·simp
  ·refine Nat.le_trans (hr _) ?_
   split
   ·simp
   ·split
    ·simp;omega
    ·simp
section
variable{E:j2}{w0:j9}
theorem Own.fin{S0 S:b8}{d:D}{l:List Int}(h:Own S0 d l S){Q:D→b8→Prop}(hq:d9 E Q (iD l) S0):d9 E Q d S:=by
 rcases h with ⟨rfl,rfl,rfl⟩|⟨k,acs,ex,h,rfl,rfl⟩
 ·exact d9.nil hq
 ·refine d9.freeze (b8.set_same _ _ _) rfl (by rw[u4];omega) (Nat.le_refl _) ?_
  rw[b8.erase_set _ _ _ h,List.drop_zero,List.take_of_length_le (by rw[u4];exact Nat.le_refl _)]
  exact hq
theorem d4l{l:List Int}{d:D}{T:b8}(hl:l.length<2^40)(he:(d= .nilSlc∧l=[])∨c7Z d .nilSlc=some false)(hr:∀T',T.le T'→rowsS T' 1 d=some (iC l)):j8 Tryz.prog E w0 A2 [d] T fun v T'=>Own T v l T':=by
 refine a0S ?_
 unfold a0i
 rcases he with ⟨rfl,rfl⟩|he
 ·rw[show c7Z .nilSlc .nilSlc=some true from rfl,eqE,oD,cdT]
  exact d9.here (Own.nil _)
 rw[he,eqE,oD,cdF]
 refine c5X (rows:=[]) fun k acs n=> ?_
 simp only[w9,hr _ (b8.le_new n),a1d]
 by_cases hn:iC l=[]
 ·rw[if_pos hn]
  have:l=[]:=by
   cases l with
   |nil=>rfl
   |cons a l=>simp[iC,B4]at hn
  subst this
  exact d9.here (.inr ⟨k,acs,true,n,rfl,rfl⟩)
 ·rw[if_neg hn,b8.set_same]
  simp only
  rw[if_pos ⟨by trivial,by trivial,by simp⟩]
  refine⟨by simp;omega, .inr fun k' acs' hk'=> ?_⟩
  rw[b8.erase_set _ _ _ n]at hk' ⊢
  refine d9.here (.inr ⟨k',acs',false,hk', ?_, ?_⟩)<;>simp
theorem Sl.rows{S0 T:b8}{av:List Nat}{d:D}{l:List Int}(h:Sl S0 av d l T):((d= .nilSlc∧l=[])∨c7Z d .nilSlc=some false)∧∀T',T.le T'→rowsS T' 1 d=some (iC l):=by
 rcases h with ⟨rfl,rfl⟩|⟨k,cap,ex,rows,acs,h0,h1,rfl,h2,h3,h4⟩
 ·exact⟨.inl ⟨rfl,rfl⟩,fun T' _=>rfl⟩
 ·refine⟨.inr rfl,fun T' hle=> ?_⟩
  simp only[rowsS,L5,hle _ _ h2]
  rw[if_pos ⟨by trivial,by trivial,by have:=c5S h3;omega⟩,List.drop_zero,h3]
theorem c8N{S0 T:b8}{av:List Nat}{d:D}{l:List Int}(h:Sl S0 av d l T)(hl:l.length<2^40):j8 Tryz.prog E w0 A2 [d] T fun v T'=>v=iD l∧T'=T:=
 (d4l hl h.rows.1 h.rows.2).fin fun v T' ho=>ho.fin (d9.here ⟨rfl,rfl⟩)
theorem d3Z{pls:List Int}(hpl:pls.length<2^40)(hps:pls.Pairwise (· < ·)){x:D}(hx:Wk x (iD pls)){t:Int}{S:b8}:j8 Tryz.prog E w0 E5 [x, .int .i64 t] S fun d S'=>S'=S∧∃i:Nat,d= .tup [.int .i64 (i:Int), .bool (decide (t∈pls))]∧(t∈pls→pls[i]? =some t):=
 DF.weak (ds:=[x, .int .i64 t]) (es:=[iD pls, .int .i64 t]) ⟨hx,Wk.refl _,trivial⟩ (c6N hpl hps)
def d0A(pls to:List Int)(f:Fr):List (Int×Fr)×Int:=if to.all (fun t=>decide (t∈pls)) then(to.map fun t=>(t,f),0) else([],190)
theorem d2k{S0 T:b8}{pls to:List Int}(hpl:pls.length<2^40)(hps:pls.Pairwise (· < ·))(htl:to.length<2^30){x:D}(hx:Wk x (iD pls)){k:Nat}{l s:D}{f:Fr}{lim:Int}(hc:u9 T k 3 [l,s, .int .i64 lim])(hk0:S0 k=none)(hle:S0.le T)(hl:Sl S0 (k::ob s) l f.locals T)(hs:Sl S0 (k::ob l) s f.stack T)(hfl:f.locals.length<2^40)(hfs:f.stack.length<2^40):
  j1 Tryz.prog E w0 (.loop a1b) (m6 129 [14,18,20,95,96,97] [x, .ptr k 0, .nilSlc,iD to, .int .i64 (to.length:Int),(.int .i64 0)]) T (a0Y E w0 (d9 E fun d S'=>d=b6R (d0A pls to f)∧S'=S0)):=by
 refine b2i (I:=fun n x14 x18 x20 x95 x96 x97 T'=>x=x14∧x18= .ptr k 0∧x95=iD to∧x96= .int .i64 (to.length:Int)∧∃i:Nat,x97= .int .i64 (i:Int)∧i+n=to.length∧S0.le T'∧(∀j∈k::(ob l++ob s),T' j=T j)∧GrA S0 (k::(ob l++ob s)) x20 ((to.take i).map fun t=>edR (t,f)) 3 T'∧(to.take i).all (fun t=>decide (t∈pls))=true) ?_ (n:=to.length)
  ⟨rfl,rfl,rfl,rfl,0,rfl,by omega,hle,fun _ _=>rfl,GrA.nil,rfl⟩
 rintro n _ _ x20 _ _ _ T' ⟨rfl,rfl,rfl,rfl,i,rfl,hi,hle',hsame,hg,hall⟩
 unfold a3t
 rw[H7,oD,I6]
 refine⟨fun hlt=> ?_,fun hge=> ?_⟩
 ·have hlt:i<to.length:=by omega
  have ht:to[i]? =some to[i]:=List.getElem?_eq_getElem hlt
  generalize to[i]=t at ht
  rw[a7J ht,oD,lsE,List.getElem?_cons_zero,oD]
  refine j8.use (d3Z hpl hps hx) ?_
  rintro d S' ⟨rfl,ix,rfl,hix⟩
  simp only[exD,List.getElem?_cons_zero,List.getElem?_cons_succ,oD,unN]
  by_cases hm:t∈pls
  case neg=>
   rw[decide_eq_false hm,Bool.not_false,cdT]
   have hb:to.all (fun t=>decide (t∈pls))=false:=by
    rw[List.all_eq_false]
    exact⟨t,List.mem_of_getElem? ht,by rw[decide_eq_false hm];decide⟩
   have:d0A pls to f=([],190):=by unfold d0A;rw[if_neg (by rw[hb];decide)]
   exact d9.less hle' (d9.weak (d':=b6R ([],190)) (Wk.tup ⟨Wk.nil 3,Wk.refl _,trivial⟩) (d9.here ⟨by rw[this],rfl⟩))
  rw[decide_eq_true hm,Bool.not_true,cdF]
  have hc':u9 S' k 3 [l,s, .int .i64 lim]:=hc.of (hsame k List.mem_cons_self)
  have hl':Sl S0 (k::ob s) l f.locals S':=hl.of fun j hj=>hsame j (List.mem_cons_of_mem _ (List.mem_append_left _ hj))
  have hs':Sl S0 (k::ob l) s f.stack S':=hs.of fun j hj=>hsame j (List.mem_cons_of_mem _ (List.mem_append_right _ hj))
  have q0:c9 S' (.ptr k 0)=some l:=hc'.ld 0
  have q1:c9 S' (.ptr k 1)=some s:=hc'.ld 1
  simp only[ndP,oD,E2,Nat.zero_add,q0,q1]
  refine(c8N hl' hfl).use ?_
  rintro v S2 ⟨rfl,rfl⟩
  refine⟨fwR _ _, ?_⟩
  refine(c8N hs' hfs).use ?_
  rintro v S2 ⟨rfl,rfl⟩
  rw[show r6 [D.nilSlc, .nilSlc] [(0,1,iD f.locals),(1,1,iD f.stack)]=some [iD f.locals,iD f.stack]from rfl,agS,oD,
   show r6 [D.int .i64 0, .nilSlc, .nilSlc] [(0,1, .int .i64 t),(1,2, .agg [iD f.locals,iD f.stack])]=some (edR (t,f)) from rfl,agS,oD,
   show m8 3 (List.replicate 1 [D.int .i64 0, .nilSlc, .nilSlc]) [(0, .agg (edR (t,f)))]=some [edR (t,f)]from rfl]
  refine G6 rfl ?_
  refine hg.push (news:=[edR (t,f)]) hle' (fun j hj=> ?_) (by simp[rowsS,L5]) (by simp) (by simp;omega) fun t' S3 hle3 he3 hg3=> ?_
  ·rcases List.mem_cons.1 hj with rfl|hj
   ·exact hc'.there
   ·rcases List.mem_append.1 hj with hj|hj
    ·exact hl'.ob_some j hj
    ·exact hs'.ob_some j hj
  rw[D7,oD,l8 (by omega) (by omega)]
  refine⟨n - 1,by omega,by trivial,by trivial,by trivial,by trivial,i+1,by trivial,by omega,hle3,fun j hj=>by rw[he3 j hj];exact hsame j hj, ?_, ?_⟩
  ·have e:(to.take (i+1)).map (fun t=>edR (t,f))=(to.take i).map (fun t=>edR (t,f))++[edR (t,f)]:=by rw[List.take_add_one,ht,List.map_append];rfl
   rw[e];exact hg3
  ·rw[List.take_add_one,ht,List.all_append,hall]
   simp[hm]
 ·rw[List.take_of_length_le (by omega)]at hg hall
  have:d0A pls to f=(to.map fun t=>(t,f),0):=by unfold d0A;rw[if_pos hall]
  refine d9.grA (pre:=[]) hg hle' fun T2 hle2 _=> ?_
  refine d9.less hle2 (d9.here ⟨?_,rfl⟩)
  rw[this]
  simp[b6R,c0P,Function.comp]
end
end
section
set_option linter.unusedSectionVars false
theorem c1X{bs:List Int}(hb:∀b∈bs,a1m b):∀(n p:Nat) (l:List (Dat×Nat)),b1v bs n p= .ok l→(a0C l).Pairwise (· < ·)∧∀q∈a0C l,(p:Int)≤q∧q<bs.length
 |0,p,l,h=>by cases h;exact⟨List.Pairwise.nil,fun q h=>(by cases h)⟩
 |n+1,p,l,h=>by
  by_cases hp:p<bs.length
  ·rw[b3E hp]at h
   by_cases he:(F8 bs p).2.2=0
   ·rw[if_pos he]at h
    obtain⟨_,h1,_⟩:=c1J hb he
    cases hr:b1v bs n (F8 bs p).2.1 with
    |error e=>rw[hr]at h;cases h
    |ok l'=>
     rw[hr]at h
     cases h
     obtain⟨g1,g2⟩:=c1X hb n _ l' hr
     refine⟨List.pairwise_cons.2 ⟨fun q hq=> ?_,g1⟩,fun q hq=> ?_⟩
     ·have:=(g2 q hq).1
      show(p:Int)<q
      omega
     ·rcases List.mem_cons.1 hq with rfl|hq
      ·show(p:Int)≤(p:Int)∧(p:Int)<bs.length;omega
      ·have:=g2 q hq;omega
   ·rw[if_neg he]at h;cases h
  ·rw[b1v,if_pos (by omega)]at h;cases h;exact⟨List.Pairwise.nil,fun q h=>(by cases h)⟩
theorem c9s{bs:List Int}:∀(n p:Nat) (e:Int),b1v bs n p= .error e→e≠0
 |0,p,e,h=>by cases h
 |n+1,p,e,h=>by
  by_cases hp:p<bs.length
  ·rw[b3E hp]at h
   by_cases he:(F8 bs p).2.2=0
   ·rw[if_pos he]at h
    cases hr:b1v bs n (F8 bs p).2.1 with
    |error e'=>rw[hr]at h;cases h;exact c9s n _ _ hr
    |ok l'=>rw[hr]at h;cases h
   ·rw[if_neg he]at h;cases h;exact he
  ·rw[b1v,if_pos (by omega)]at h;cases h
structure d6S (m:Mo) (r:Ro) (l:List (Dat×Nat)):Prop where
 all:a7y r.code= .ok l
 ins:c2E r=a3Q l
 pls:b6F r=a0C l
 rises:(a0C l).Pairwise (· < ·)
 low:∀q∈a0C l,0≤q∧q<r.code.length
 ok:∀y∈a3Q l,y.Ok
 may:∀y∈a3Q l,a2v m r y=true
 short:l.length≤r.code.length
theorem d6K{m:Mo}{r:Ro}(hb:∀b∈r.code,a1m b)(hg:d4V m r):∃l,d6S m r l:=by
 have h0:=hg.all0
 cases hr:a7y r.code with
 |error e=>rw[hr]at h0;exact absurd h0 (c9s _ _ _ hr)
 |ok l=>
  have hi:c2E r=a3Q l:=by unfold c2E;rw[hr];rfl
  have hp:b6F r=a0C l:=by unfold b6F;rw[hr];rfl
  obtain⟨r1,r2⟩:=c1X hb _ _ l hr
  obtain⟨a1,a2⟩:=c2b hb _ _ l hr (Nat.zero_le _)
  refine⟨l,hr,hi,hp,r1,fun q hq=> ?_,fun y hy=> ?_,fun y hy=> ?_,by omega⟩
  ·have:=r2 q hq;omega
  ·obtain⟨x,hx,rfl⟩:=List.mem_map.1 hy;exact a2 x hx
  ·rw[←hi]at hy;exact hg.ins y hy
theorem d0Y{m:Mo}{r:Ro}{y:In}(h:a2v m r y=true):y.arms.length≤65535:=by
 obtain⟨_,hs,_⟩:=c9T h
 obtain⟨l,_,_,h49,hn⟩:=b9n hs
 by_cases h:y.op=49
 ·exact(h49 h).1
 ·rw[(hn h).1];simp
theorem d5g{l:List Int}(hs:l.Pairwise (· < ·)){i:Nat}{t:Int}(h:l[i]? =some t):l.findIdx? (fun p=>decide (p=t))=some i:=by
 obtain⟨hi,he⟩:=List.getElem?_eq_some_iff.1 h
 rw[List.findIdx?_eq_some_iff_getElem]
 refine⟨hi,by rw[he];simp,fun j hj=> ?_⟩
 have:=List.pairwise_iff_getElem.1 hs j i (by omega) hi hj
 simp
 omega
theorem d5n{l:List Int}{t:Int}(h:t ∉ l):l.findIdx? (fun p=>decide (p=t))=none:=by
 rw[List.findIdx?_eq_none_iff]
 intro x hx
 simp
 rintro rfl
 exact h hx
section
variable{E:j2}{w0:j9}
theorem StT.base{S0 S1 T:b8}{k:Nat}{l s:D}{f:Fr}(hle:S0.le S1)(hk0:S1 k=none)(hl:Sl S1 (k::ob s) l f.locals T)(hs:Sl S1 (k::ob l) s f.stack T):S0 k=none∧Sl S0 (k::ob s) l f.locals T∧Sl S0 (k::ob l) s f.stack T:=by
 have go:∀ {av d li},Sl S1 av d li T→Sl S0 av d li T:=fun h=>by
  rcases h with h|⟨k,cap,ex,rows,acs,z0,z1,z2,z3,z4⟩
  ·exact .inl h
  ·exact .inr ⟨k,cap,ex,rows,acs,b8.none_of hle z0,z1,z2,z3,z4⟩
 exact⟨b8.none_of hle hk0,go hl,go hs⟩
theorem d5j{S S':b8}(h:S.le S'){k:Nat}(hk:S k≠none):S' k=S k:=by
 cases e:S k with
 |none=>exact absurd e hk
 |some o=>exact h _ _ e
theorem fwL{S S':b8}(h:S.le S'){k i:Nat}(hk:S k≠none):r7 (.ptr k i) S S':=d5j h hk
theorem d6I{T3 S1 S2:b8}{a b:D}{la lb:List Int}(ha:Own T3 a la S1)(hb:Own S1 b lb S2){k:Nat}(hk:S2 k=none){lim:Int}{acs:List AV}:StT T3 k ⟨la,lb⟩ lim (S2.set k ⟨3,[[a,b, .int .i64 lim]],acs⟩):=by
 have hk1:S1 k=none:=b8.none_of hb.le hk
 have hle:T3.le S2:=b8.le_trans ha.le hb.le
 refine⟨a,b,u9.new,b8.none_of ha.le hk1,b8.le_set hle (b8.none_of ha.le hk1), ?_, ?_⟩
 ·rcases ha with ⟨rfl,rfl,rfl⟩|⟨ka,aa,ex,h0,rfl,rfl⟩
  ·exact .inl ⟨rfl,rfl⟩
  ·have hka:ka≠k:=fun e=>by rw[←e,b8.set_same]at hk1;cases hk1
   refine .inr ⟨ka,la.length,ex,iC la,aa,h0,fun hm=> ?_,rfl, ?_,by rw[List.take_of_length_le (by rw[u4];exact Nat.le_refl _)],Nat.le_refl _⟩
   ·rcases List.mem_cons.1 hm with e|hm
    ·exact hka e
    ·rcases hb with ⟨rfl,_⟩|⟨kb,ab,ex',h1,rfl,rfl⟩
     ·simp[ob]at hm
     ·simp only[ob,List.mem_singleton]at hm
      rw[←hm,b8.set_same]at h1
      cases h1
   ·rw[b8.set_ne _ _ _ hka]
    exact hb.le _ _ (b8.set_same _ _ _)
 ·rcases hb with ⟨rfl,rfl,rfl⟩|⟨kb,ab,ex,h1,rfl,rfl⟩
  ·exact .inl ⟨rfl,rfl⟩
  ·have hkb:kb≠k:=fun e=>by rw[←e,b8.set_same]at hk;cases hk
   refine .inr ⟨kb,lb.length,ex,iC lb,ab,b8.none_of ha.le h1,fun hm=> ?_,rfl, ?_,by rw[List.take_of_length_le (by rw[u4];exact Nat.le_refl _)],Nat.le_refl _⟩
   ·rcases List.mem_cons.1 hm with e|hm
    ·exact hkb e
    ·rcases ha with ⟨rfl,_⟩|⟨ka,aa,ex',h0,rfl,rfl⟩
     ·simp[ob]at hm
     ·simp only[ob,List.mem_singleton]at hm
      rw[hm,b8.set_same]at h1
      cases h1
   ·rw[b8.set_ne _ _ _ hkb,b8.set_same]
theorem c2Q{r:Ro}{f:Fr}{news:List Int}(h:(a7a r f news).2=0):((a7a r f news).1.stack.length:Int)≤r.stack:=by
 unfold a7a at h ⊢
 simp only at h ⊢
 split at h
 ·cases h
 ·omega
theorem d3w{m:Mo}{r:Ro}{y:In}{f:Fr}(h:(doS m r y f).2=0)(hf:(f.stack.length:Int)≤r.stack):(doS m r y f).1.locals.length=f.locals.length∧((doS m r y f).1.stack.length:Int)≤r.stack:=by
 unfold doS at h ⊢
 by_cases c1:y.op=51∧r.results.length<f.stack.length
 ·rw[if_pos c1]at h;cases h
 rw[if_neg c1]at h ⊢
 generalize (if y.op=51 then r.results else(t6 y m).1)=tk at h ⊢
 by_cases c2:f.stack.length<tk.length
 ·rw[if_pos c2]at h;cases h
 rw[if_neg c2]at h ⊢
 by_cases c3:a6v tk (f.stack.drop (f.stack.length - tk.length)) (decide (y.op=9))=false
 ·rw[if_pos c3]at h;cases h
 rw[if_neg c3]at h ⊢
 by_cases c4:y.op=7
 ·rw[if_pos c4]at h ⊢
  by_cases c5:f.locals.getD y.a.toNat 0=0
  ·rw[if_pos c5]at h;cases h
  rw[if_neg c5]at h ⊢
  exact⟨rfl,c2Q h⟩
 rw[if_neg c4]at h ⊢
 by_cases c5:y.op=8
 ·rw[if_pos c5]
  refine⟨by simp, ?_⟩
  simp only[List.length_take]
  omega
 rw[if_neg c5]at h ⊢
 by_cases c6:y.op=10
 ·rw[if_pos c6]at h ⊢
  exact⟨rfl,c2Q h⟩
 rw[if_neg c6]at h ⊢
 exact⟨rfl,c2Q h⟩
theorem d4u{S:b8}{m:Mo}{K:D→b8→Prop}(h:∀k a,S k=none→K (.ptr k 0) (S.set k ⟨3,[M3 m],a⟩)):b7 (o3 (moD m)) fun cs=>j6 S cs K:=by
 rw[moD,U9,oD]
 intro k a n
 exact h k a n
theorem b4A{S:b8}{f:Fr}{K:D→b8→Prop}(h:∀k a,S k=none→K (.ptr k 0) (S.set k ⟨2,[H9 f],a⟩)):b7 (o3 (frD f)) fun cs=>j6 S cs K:=by
 rw[frD,U9,oD]
 intro k a n
 exact h k a n
theorem a4d{m:Mo}(hm:m.Fits){fn at':Int}(hfn:I64 fn){f:Fr}(hf:f.Ok):K9 Tryz.prog E w0 I0 [moD m, .int .i64 fn, .int .i64 at',frD f] (b6R (W3 m fn at' f)):=fun S=>by
 refine b5t ?_
 unfold b1c
 refine d4u fun ka a na=> ?_
 have ca:u9 (S.set ka ⟨3,[M3 m],a⟩) ka 3 (M3 m):=u9.new
 have l1:S.le (S.set ka ⟨3,[M3 m],a⟩):=b8.le_new na
 generalize (S.set ka ⟨3,[M3 m],a⟩)=T at ca l1
 refine b4A fun kf b nb=> ?_
 have ca:=ca.set (o:=⟨2,[H9 f],b⟩) nb
 have cf:u9 (T.set kf ⟨2,[H9 f],b⟩) kf 2 (H9 f):=u9.new
 have l1:=b8.le_trans l1 (b8.le_new (o:=⟨2,[H9 f],b⟩) nb)
 generalize (T.set kf ⟨2,[H9 f],b⟩)=T at ca cf l1
 rw[ca.all (n:=3) (by decide) rfl,oD]
 refine(show j8 Tryz.prog E w0 O5 [moD m, .int .i64 fn] T _ from(a7K hm hfn).use ?_)
 unfold b5o
 simp only[exD,List.getElem?_cons_zero,List.getElem?_cons_succ,oD]
 intro k9 c n9
 refine(u9.new (sz:=2) (c:=[.nilSlc, .nilSlc])).st (ds:=H9 (F3 m fn).1) (U9 _) ⟨rfl,by decide,by decide⟩ fun c'=> ?_
 rw[b8.set_set,show l7 [D.nilSlc, .nilSlc] 0 (H9 (F3 m fn).1)=H9 (F3 m fn).1 from rfl]
 have ca:=ca.set (o:=⟨2,[H9 (F3 m fn).1],c'⟩) n9
 have cf:=cf.set (o:=⟨2,[H9 (F3 m fn).1],c'⟩) n9
 have l1:=b8.le_trans l1 (b8.le_new (o:=⟨2,[H9 (F3 m fn).1],c'⟩) n9)
 generalize (T.set k9 ⟨2,[H9 (F3 m fn).1],c'⟩)=T at ca cf l1
 let Q:D→b8→Prop:=fun d' S'=>d'=b6R (W3 m fn at' f)∧S'=S
 have bad:∀(e:Int) {T:b8},S.le T→W3 m fn at' f=([],e)→d9 E Q (.tup [.nilSlc, .int .i64 e]) T:=fun e T hl he=>
  d9.less hl (d9.weak (d':=b6R ([],e)) (Wk.tup ⟨Wk.nil 3,Wk.refl _,trivial⟩) (d9.here ⟨by rw[he],rfl⟩))
 rw[a3s,oD,I6]
 refine⟨fun h0=>bad _ l1 (by unfold W3;rw[if_pos h0]),fun h0=> ?_⟩
 have hfst:(F3 m fn).2=0:=Classical.not_not.1 h0
 have henc:(a3G m).2=0:=by
  unfold F3 at hfst
  by_cases h:(a3G m).2=0
  ·exact h
  ·rw[if_pos h]at hfst;exact absurd hfst h
 have hrange:¬(fn<0∨(m.funcs.length:Int)≤fn):=fun h=>by
  unfold F3 at hfst
  rw[if_neg (fun h=>h henc),if_pos h]at hfst
  cases hfst
 have hlt:fn.toNat<m.funcs.length:=by omega
 have hr:m.funcs[fn.toNat]? =some m.funcs[fn.toNat]:=List.getElem?_eq_getElem hlt
 have hmem:m.funcs[fn.toNat]∈m.funcs:=List.getElem_mem hlt
 generalize m.funcs[fn.toNat]=r at hr hmem
 have hg:=c6a henc hmem
 have hro:=hm.ok.ro r hmem
 have hpar:=hm.params r hmem
 obtain⟨L,hL⟩:=d6K hro.bytes hg
 have hstep:W3 m fn at' f=b7x m r at' f:=by unfold W3;rw[if_neg h0,hr]
 have hlk:c9 T (.ptr ka 2)=some (a9d m.funcs):=ca.ld 2
 have hix:o6 6 (a9d m.funcs) (.int .i64 fn)=some (.elt (L8 r) 0):=by
  rw[show fn=((fn.toNat:Nat):Int) by omega];exact b3O hr
 simp only[E2,Nat.zero_add,oD,hlk,hix]
 rw[show i5 T 6 (.elt (L8 r) 0)=some (.agg (L8 r)) from rfl,oD]
 intro k18 d n18
 refine(u9.new (sz:=6) (c:=[.str [], .nilSlc, .nilSlc, .int .i64 0, .int .i64 0, .nilSlc])).st (ds:=L8 r) (U9 _) ⟨rfl,by decide,by simp⟩ fun d'=> ?_
 rw[b8.set_set,show l7 [D.str [], .nilSlc, .nilSlc, .int .i64 0, .int .i64 0, .nilSlc] 0 (L8 r)=L8 r from rfl]
 have ca:=ca.set (o:=⟨6,[L8 r],d'⟩) n18
 have cf:=cf.set (o:=⟨6,[L8 r],d'⟩) n18
 have cr:u9 (T.set k18 ⟨6,[L8 r],d'⟩) k18 6 (L8 r):=u9.new
 have l1:=b8.le_trans l1 (b8.le_new (o:=⟨6,[L8 r],d'⟩) n18)
 generalize (T.set k18 ⟨6,[L8 r],d'⟩)=T at ca cf cr l1
 rw[ca.all (n:=3) (by decide) rfl,oD,cr.all (n:=6) (by decide) rfl,oD,cf.all (n:=2) (by decide) rfl,oD]
 refine(show j8 Tryz.prog E w0 a3l [moD m, .agg (L8 r),frD f] T _ from(c0e hm hro hf).use ?_)
 rw[unN,oD]
 cases hmy:b1A m r f with
 |false=>
  rw[Bool.not_false,cdT]
  exact bad 2 l1 (by rw[hstep];unfold b7x;rw[if_pos hmy])
 |true=>
 rw[Bool.not_true,cdF]
 have e5:c9 T (.ptr k18 5)=some (bD r.code):=cr.ld 5
 simp only[E2,Nat.zero_add,oD,e5]
 refine(c7W hro.bytes hpar.2.2).use fun v T2 hall=> ?_
 unfold d3E at hall
 rw[hL.all]at hall
 obtain⟨u,rfl,htip⟩:=hall
 simp only[exD,List.getElem?_cons_zero,List.getElem?_cons_succ,oD]
 have hpl:(a0C L).length<2^40:=by simp[a0C];have:=hL.short;have:=hpar.2.2;omega
 refine(d3Z hpl hL.rises htip.wk).use ?_
 rintro v T3 ⟨rfl,i,rfl,hi⟩
 simp only[exD,List.getElem?_cons_zero,List.getElem?_cons_succ,oD,unN]
 have l2:S.le T3:=b8.le_trans l1 htip.le
 have ca:=ca.le htip.le
 have cf:=cf.le htip.le
 have cr:=cr.le htip.le
 by_cases hin:at'∈a0C L
 case neg=>
  rw[decide_eq_false hin,Bool.not_false,cdT]
  exact bad 190 l2 (by rw[hstep];unfold b7x;rw[if_neg (by rw[hmy];decide),hL.pls,d5n hin])
 rw[decide_eq_true hin,Bool.not_true,cdF]
 have hi:=hi hin
 have hil:i<L.length:=by have:=(List.getElem?_eq_some_iff.1 hi).1;simpa [a0C]using this
 obtain⟨y,hy⟩:∃y,(a3Q L)[i]? =some y:=⟨_,List.getElem?_eq_getElem (by simpa [a3Q]using hil)⟩
 have hym:=List.mem_of_getElem? hy
 have hyo:=hL.ok y hym
 have hmay:=hL.may y hym
 have harm:=d0Y hmay
 have hstep:W3 m fn at' f=a9A m r y (b1d r i) f:=by
  rw[hstep];unfold b7x
  rw[if_neg (by rw[hmy];decide),hL.pls,d5g hL.rises hi,hL.ins]
  simp only[hy]
 unfold b1A at hmy
 simp only[Bool.and_eq_true,decide_eq_true_eq]at hmy
 obtain⟨⟨⟨hml,hms⟩,_⟩,_⟩:=hmy
 have hfl:=hf.l
 have hfs:=hf.s
 have f0:c9 T3 (.ptr kf 0)=some (iD f.locals):=cf.ld 0
 have f1:c9 T3 (.ptr kf 1)=some (iD f.stack):=cf.ld 1
 have r4:c9 T3 (.ptr k18 4)=some (.int .i64 r.stack):=cr.ld 4
 simp only[E2,Nat.zero_add,oD,f0,f1,r4]
 refine(b7O (l:=f.locals) (by omega)).use fun v46 S47 o1=> ?_
 refine⟨fwL o1.le cf.there,fwL o1.le cr.there, ?_⟩
 refine(b7O (l:=f.stack) (by omega)).use fun v48 S49 o2=> ?_
 have l49:=b8.le_trans o1.le o2.le
 refine⟨fwL l49 cr.there, ?_⟩
 rw[fiC (size:=1) o1.cells ⟨rfl,by decide⟩,fiC (size:=1) o2.cells ⟨rfl,by rw[L2];decide⟩,fiN,agS,oD,show l7 (l7 [D.nilSlc, .nilSlc] 0 [v46]) 1 [v48]=[v46,v48]from rfl,
  fiC (size:=2) (U9 _) ⟨rfl,by decide⟩,fiC (size:=1) (clI _ _) ⟨rfl,by rw[L2];decide⟩,fiN,agS,oD,show l7 (l7 [D.nilSlc, .nilSlc, .int .i64 0] 0 [v46,v48]) 2 [D.int .i64 r.stack]=[v46,v48, .int .i64 r.stack]from rfl,U9,oD]
 intro k52 e e52
 have hst:=d6I o1 o2 e52 (lim:=r.stack) (acs:=e)
 have l53:T3.le (S49.set k52 ⟨3,[[v46,v48, .int .i64 r.stack]],e⟩):=b8.le_set l49 (b8.none_of l49 e52)
 rw[show([v46,v48, .int .i64 r.stack]:List D).length=3 from rfl]
 generalize (S49.set k52 ⟨3,[[v46,v48, .int .i64 r.stack]],e⟩)=S53 at hst l53
 have hix2:o6 4 (b7y (a3Q L)) (.int .i64 (i:Int))=some (.elt (P8 y) 0):=c9h hy
 rw[(ca.le l53).all (n:=3) (by decide) rfl,oD,(cr.le l53).all (n:=6) (by decide) rfl,oD,hix2,oD,show i5 S53 4 (.elt (P8 y) 0)=some (.agg (P8 y)) from rfl,oD]
 refine(show j8 Tryz.prog E w0 X2 [.ptr k52 0,moD m, .agg (L8 r),inD y] S53 _ from(d8s hm hro hpar.2.1 hyo hmay (f:=f) hml (by omega) hst).use ?_)
 rintro v S59 ⟨rfl,l59,hdo⟩
 rw[a3s,oD,I6]
 refine⟨fun hne=>bad _ (b8.le_trans l2 l59) (by rw[hstep];unfold a9A;rw[if_pos hne]),fun hne=> ?_⟩
 have hdo:=hdo (Classical.not_not.1 hne)
 obtain⟨hdl,hds⟩:=d3w (Classical.not_not.1 hne) hms
 have cr:=cr.le l59
 have r5:c9 S59 (.ptr k18 5)=some (bD r.code):=cr.ld 5
 have hcl:=hpar.2.2
 have hil':(i:Int)<2^30:=by have:=hL.short;omega
 rw[oD,show i5 S59 4 (.elt (P8 y) 0)=some (.agg (P8 y)) from rfl]
 simp only[E2,Nat.zero_add,oD,r5,a2C,D7]
 rw[l8 (by omega) (by omega),show m8 1 (List.replicate 1 [D.int .i64 0]) [(0, .int .i64 (r.code.length:Int))]=some (iC [(r.code.length:Int)]) from rfl]
 refine G6 rfl ?_
 refine⟨trivial, ?_⟩
 refine htip.push (n:=(r.code.length:Int)) l59 (by simp[rowsS,L5]) hpl fun T4 l4 hkeep=> ?_
 refine⟨trivial, ?_⟩
 have hnx:(a0C L++[(r.code.length:Int)])[i+1]? =some (b1d r i):=by
  unfold b1d
  rw[hL.pls,List.getD_eq_getElem?_getD,List.getElem?_eq_getElem (by simp[a0C];omega)]
  rfl
 rw[show((i:Int)+1)=((i+1:Nat):Int) by omega,a7J hnx,oD,lsE,List.getElem?_cons_zero,oD]
 refine(b6i harm).use ?_
 rw[Y7,oD]
 obtain⟨l',s',hc',hk0',_,hl',hs'⟩:=hdo
 obtain⟨b0,b1,b2⟩:=StT.base (S0:=S) l2 hk0' hl' hs'
 have keepC:∀ {j:Nat},T3 j=none→S59 j≠none→T4 j=S59 j:=fun{j} h1 h2=>by
  cases e:S59 j with
  |none=>exact absurd e h2
  |some o=>exact hkeep j o (by rw[h1];simp) e
 have hcc:u9 T4 k52 3 [l',s', .int .i64 r.stack]:=hc'.of (keepC hk0' hc'.there)
 have hll:Sl S (k52::ob s') l' (doS m r y f).1.locals T4:=b1.of fun j hj=>keepC (hl'.ob_none j hj).1 (hl'.ob_some j hj)
 have hss:Sl S (k52::ob l') s' (doS m r y f).1.stack T4:=b2.of fun j hj=>keepC (hs'.ob_none j hj).1 (hs'.ob_some j hj)
 have hfin:W3 m fn at' f=d0A (a0C L) (a0N y (b1d r i)) (doS m r y f).1:=by
  rw[hstep];unfold a9A d0A;rw[if_neg hne,hL.pls]
 rw[hfin]
 have:=c5M harm (b1d r i)
 have:=hg.st1
 exact d2k hpl hL.rises (by omega) htip.wk hcc b0 (b8.le_trans l1 l4) hll hss (by omega) (by omega)
end
end
section
def W8:List Int→List Int→Prop
 | [],[]=>True
 |x::a,y::b=>(y=0∨y=x)∧W8 a b
 |_,_=>False
theorem W8.len:∀ {a b:List Int},W8 a b→a.length=b.length
 | [],[],_=>rfl
 |x::a,y::b,h=>by rw[List.length_cons,List.length_cons,W8.len h.2]
 | [],_::_,h=>h.elim
 |_::_,[],h=>h.elim
theorem W8.refl:∀a:List Int,W8 a a
 | []=>trivial
 |x::a=>⟨.inr rfl,W8.refl a⟩
theorem W8.take:∀ {a b:List Int} (n:Nat),W8 a b→W8 (a.take n) (b.take n)
 | [],[],n,_=>by simp[W8]
 |x::a,y::b,0,h=>trivial
 |x::a,y::b,n+1,h=>⟨h.1,W8.take n h.2⟩
 | [],_::_,_,h=>h.elim
 |_::_,[],_,h=>h.elim
theorem W8.drop:∀ {a b:List Int} (n:Nat),W8 a b→W8 (a.drop n) (b.drop n)
 | [],[],n,_=>by simp[W8]
 |x::a,y::b,0,h=>h
 |x::a,y::b,n+1,h=>W8.drop n h.2
 | [],_::_,_,h=>h.elim
 |_::_,[],_,h=>h.elim
theorem W8.append:∀ {a b c d:List Int},W8 a b→W8 c d→W8 (a++c) (b++d)
 | [],[],c,d,_,g=>g
 |x::a,y::b,c,d,h,g=>⟨h.1,W8.append h.2 g⟩
 | [],_::_,_,_,h,_=>h.elim
 |_::_,[],_,_,h,_=>h.elim
theorem W8.getD:∀ {a b:List Int} (n:Nat),W8 a b→b.getD n 0=0∨b.getD n 0=a.getD n 0
 | [],[],n,_=> .inr rfl
 |x::a,y::b,0,h=>h.1
 |x::a,y::b,n+1,h=>W8.getD n h.2
 | [],_::_,_,h=>h.elim
 |_::_,[],_,h=>h.elim
theorem W8.set:∀ {a b:List Int} (n:Nat) {x y:Int},W8 a b→(y=0∨y=x)→W8 (a.set n x) (b.set n y)
 | [],[],n,_,_,_,_=>by simp[W8]
 |x::a,y::b,0,_,_,h,g=>⟨g,h.2⟩
 |x::a,y::b,n+1,_,_,h,g=>⟨h.1,W8.set n h.2 g⟩
 | [],_::_,_,_,_,h,_=>h.elim
 |_::_,[],_,_,_,h,_=>h.elim
def c7p(a b:Fr):Prop:=W8 a.locals b.locals∧W8 a.stack b.stack
theorem c2n{pop:Bool}:∀ {t a b:List Int},W8 a b→a6v t b pop=true→a6v t a pop=true
 | [],_,_,_,_=>rfl
 |_::_,[],[],_,_=>rfl
 |q::t,x::a,y::b,h,g=>by
  unfold a6v at g ⊢
  simp only[List.zip_cons_cons,List.all_cons,Bool.and_eq_true]at g ⊢
  refine⟨?_,c2n h.2 g.2⟩
  have g1:=g.1
  unfold okW at g1 ⊢
  rcases h.1 with rfl|rfl
  ·revert g1
   by_cases hq:q=0<;>cases pop<;>simp[hq]<;>omega
  ·exact g1
 |_::_,[],_::_,h,_=>h.elim
 |_::_,_::_,[],h,_=>h.elim
theorem b5C{r:Ro}{l l' s s' n n':List Int}(h1:W8 l l')(h2:W8 s s')(h3:W8 n n')(h:(a7a r ⟨l',s'⟩ n').2=0):(a7a r ⟨l,s⟩ n).2=0∧c7p (a7a r ⟨l,s⟩ n).1 (a7a r ⟨l',s'⟩ n').1:=by
 have hl:=(h2.append h3).len
 unfold a7a at h ⊢
 simp only at h ⊢
 exact⟨by rw[hl];exact h,h1,h2.append h3⟩
theorem d4g{m:Mo}{r:Ro}{y:In}{a b:Fr}(hb:c7p a b)(h:(doS m r y b).2=0):(doS m r y a).2=0∧c7p (doS m r y a).1 (doS m r y b).1:=by
 obtain⟨h1,h2⟩:=hb
 have hl:=h2.len
 unfold doS at h ⊢
 rw[hl]
 generalize (if y.op=51 then r.results else(t6 y m).1)=tk at*
 by_cases c1:y.op=51∧r.results.length<b.stack.length
 ·rw[if_pos c1]at h;cases h
 rw[if_neg c1]at h ⊢
 rw[if_neg c1]
 by_cases c2:b.stack.length<tk.length
 ·rw[if_pos c2]at h;cases h
 rw[if_neg c2]at h ⊢
 rw[if_neg c2]
 have hw:a6v tk (b.stack.drop (b.stack.length - tk.length)) (decide (y.op=9))=true:=by
  cases e:a6v tk (b.stack.drop (b.stack.length - tk.length)) (decide (y.op=9)) with
  |true=>rfl
  |false=>rw[if_pos e]at h;cases h
 have hwa:=c2n (h2.drop (b.stack.length - tk.length)) hw
 have na:¬(a6v tk (a.stack.drop (b.stack.length - tk.length)) (decide (y.op=9))=false):=by rw[hwa];decide
 have nb:¬(a6v tk (b.stack.drop (b.stack.length - tk.length)) (decide (y.op=9))=false):=by rw[hw];decide
 rw[if_neg nb]at h
 rw[if_neg na,if_neg nb]
 by_cases c7:y.op=7
 ·rw[if_pos c7]at h ⊢
  rw[if_pos c7]
  have hg:=h1.getD y.a.toNat
  by_cases c0:b.locals.getD y.a.toNat 0=0
  ·rw[if_pos c0]at h;cases h
  rw[if_neg c0]at h ⊢
  rcases hg with hg|hg
  ·exact absurd hg c0
  rw[if_neg (by rw[←hg];exact c0)]
  refine b5C h1 (h2.take _) ?_ h
  rw[hg]
  exact W8.refl _
 rw[if_neg c7]at h ⊢
 rw[if_neg c7]
 by_cases c8:y.op=8
 ·rw[if_pos c8,if_pos c8]
  exact⟨rfl,h1.set _ (h2.getD _),h2.take _⟩
 rw[if_neg c8]at h ⊢
 rw[if_neg c8]
 by_cases c10:y.op=10
 ·rw[if_pos c10]at h ⊢
  rw[if_pos c10]
  have hg:=h2.getD (b.stack.length - (t6 y m).1.length)
  exact b5C h1 (h2.take _) ⟨hg,hg,trivial⟩ h
 rw[if_neg c10]at h ⊢
 rw[if_neg c10]
 exact b5C h1 (h2.take _) (W8.refl _) h
def c7c:List (Int×Fr)→List (Int×Fr)→Prop
 | [],[]=>True
 |x::a,y::b=>(x.1=y.1∧c7p x.2 y.2)∧c7c a b
 |_,_=>False
theorem c8F{p q:Fr}(h:c7p p q):∀l:List Int,c7c (l.map fun t=>(t,p)) (l.map fun t=>(t,q))
 | []=>trivial
 |t::l=>⟨⟨rfl,h⟩,c8F h l⟩
theorem c7c.len:∀ {a b:List (Int×Fr)},c7c a b→a.length=b.length
 | [],[],_=>rfl
 |x::a,y::b,h=>by rw[List.length_cons,List.length_cons,c7c.len h.2]
 | [],_::_,h=>h.elim
 |_::_,[],h=>h.elim
theorem c7c.at:∀ {a b:List (Int×Fr)} {i:Nat} {x y:Int×Fr},c7c a b→a[i]? =some x→b[i]? =some y→x.1=y.1∧c7p x.2 y.2
 |x::a,y::b,0,_,_,h,e1,e2=>by cases e1;cases e2;exact h.1
 |x::a,y::b,i+1,_,_,h,e1,e2=>c7c.at (a:=a) (b:=b) (i:=i) h.2 (by simpa using e1) (by simpa using e2)
 | [],[],i,_,_,_,e1,_=>by simp at e1
 | [],_::_,_,_,_,h,_,_=>h.elim
 |_::_,[],_,_,_,h,_,_=>h.elim
theorem d0H{m:Mo}{fn at':Int}{a b:Fr}(hb:c7p a b)(h:(W3 m fn at' b).2=0)(ha:(W3 m fn at' a).2≠2):(W3 m fn at' a).2=0∧c7c (W3 m fn at' a).1 (W3 m fn at' b).1:=by
 unfold W3 at h ha ⊢
 by_cases c0:(F3 m fn).2≠0
 ·rw[if_pos c0]at h;exact absurd h c0
 rw[if_neg c0]at h ha
 rw[if_neg c0,if_neg c0]
 cases hr:m.funcs[fn.toNat]? with
 |none=>rw[hr]at h;cases h
 |some r=>
  rw[hr]at h ha
  simp only at h ha ⊢
  unfold b7x at h ha ⊢
  cases hm:b1A m r b with
  |false=>rw[if_pos hm]at h;cases h
  |true=>
   cases hma:b1A m r a with
   |false=>rw[if_pos hma]at ha;exact absurd rfl ha
   |true=>
    rw[if_neg (by rw[hm];decide)]at h
    rw[if_neg (by decide),if_neg (by decide)]
    cases hi:(b6F r).findIdx? (fun p=>decide (p=at')) with
    |none=>rw[hi]at h;cases h
    |some i=>
     rw[hi]at h
     simp only at h ⊢
     cases hy:(c2E r)[i]? with
     |none=>rw[hy]at h;cases h
     |some y=>
      rw[hy]at h
      simp only at h ⊢
      unfold a9A at h ⊢
      by_cases c1:(doS m r y b).2≠0
      ·rw[if_pos c1]at h;exact absurd h c1
      rw[if_neg c1]at h
      obtain⟨d1,d2⟩:=d4g hb (show(doS m r y b).2=0 by omega)
      rw[if_neg c1,if_neg (fun e=>e d1)]
      by_cases c2:(a0N y (b1d r i)).all (fun t=>decide (t∈b6F r))=true
      ·rw[if_pos c2,if_pos c2]
       exact⟨rfl,c8F d2 _⟩
      ·rw[if_neg c2]at h;cases h
end
end Go.Proofs.YtdkidgkiplcggaaGreat.d
end
