/-
  ImageSpoiltSaid: part Paw of its proof.
-/
import Derived.Test.YtchnpgddpaonhaaPav
import Derived.Test.YtchnpgddpaonhaaPat
import Derived.Test.YtchnpgddpaonhaaPau
set_option linter.unusedVariables false
set_option linter.unusedSimpArgs false
set_option maxRecDepth 100000
section
open Go.Proofs Go Go.Am Go.Op
namespace Go.Proofs.Ytchnpgddpaonhaa.d
section
variable{E:m6}{w0:o3}
theorem d6n(T:b7){k l:Nat}(h:k≠l)(z z' A B:L7):(((T.set k z).set l z').set k A).set l B=(T.set k A).set l B:=by
 rw[b7.set_in _ h,b7.set_set]
theorem d6k(T:b7){k l:Nat}(h:k≠l)(z z' A B:L7):(((T.set k z).set l z').set l B).set k A=(T.set k A).set l B:=by
 rw[b7.set_set,b7.set_in _ h]
theorem c8r{bs:List Int}{j:Nat}{a b:Int}{s:Nat×Int}{f:Fld}{l:List Fld}(h:l[j]? =some f):c1H bs j a b s (l.drop j)=c1H bs (j+1) (if j=0 then(H5 bs f s).1 else a) (if j=0 then b else(H5 bs f s).1) (H5 bs f s).2 (l.drop (j+1)):=by
 obtain⟨hj,rfl⟩:=List.getElem?_eq_some_iff.1 h
 rw[List.drop_eq_getElem_cons hj,c1H]
theorem c1h{bs:List Int}(hb:∀b∈bs,H6 b)(hl:bs.length<2^30){n:Int}{S:b7}:o4 Try.prog E w0 a5d [bD bs, .int .i64 n] S fun v S'=>∃t,v=c4N (H7 bs n) t∧Grw S t ((H7 bs n).1.2.2.2.map a2w) 2 S':=by
 refine b8p ?_
 unfold b5p
 intro k4 a4 n4
 have h4:w9 (S.set k4 ⟨4,[zC],a4⟩) k4 4 zC:=w9.new
 change a9 _ _
 have le4:S.le (S.set k4 ⟨4,[zC],a4⟩):=b7.le_new n4
 by_cases hn:n<0∨n≥bs.length
 ·have e:H7 bs n=(c8t,(0,2)):=by unfold H7;rw[if_pos hn]
  have fin:(a9 (E6 (w6 [(D.int .u8 0),(.int .i64 0),(.int .i64 0), .nilSlc] [])) fun v8=>f0 (S.set k4 ⟨4,[zC],a4⟩) 4 (.ptr k4 0) v8 fun v9 S10=>a9 (j0 S10 4 (.ptr k4 0)) fun v11=>d9 E (fun v S'=>∃t,v=c4N (H7 bs n) t∧Grw S t ((H7 bs n).1.2.2.2.map a2w) 2 S') (.tup [v11,(.int .i64 0),(.int .i64 2)]) S10):=by
   rw[fiN,agS,oD]
   refine h4.st (clA _) ⟨rfl,by decide,by decide⟩ fun a=> ?_
   rw[(w9.new).all (n:=4) (by decide) rfl,oD,b7.set_set]
   refine d9.drop n4 (d9.here ⟨.nilSlc, ?_, ?_⟩)
   ·rw[e];rfl
   ·rw[e];exact Grw.nil _ _
  rw[K3,oD]
  by_cases h1:n<0
  ·rw[decide_eq_true h1]
   simp only[wdB,vdF,oD,pdB,if_true,cdT,show((true==false)=false) from rfl]
   exact fin
  ·have h2:decide (n≥(bs.length:Int))=true:=decide_eq_true (hn.resolve_left h1)
   rw[decide_eq_false h1]
   simp only[wdB,vdT,oD,pdB,Bool.false_eq_true,if_false,L9,b2j,h2,cdT,show((false==false)=true) from rfl]
   exact fin
 have hn0:¬n<0:=fun h=>hn (.inl h)
 have hn1:¬n≥(bs.length:Int):=fun h=>hn (.inr h)
 obtain⟨p,rfl⟩:∃p:Nat,n=(p:Int):=⟨n.toNat,by omega⟩
 have hp:p<bs.length:=by omega
 have edT:H7 bs (p:Int)=c2g bs p:=by unfold H7;rw[if_neg hn];rfl
 obtain⟨op,hop⟩:∃op,op=bs[p]:=⟨_,rfl⟩
 have hj:bs[p]? =some op:=by rw[List.getElem?_eq_getElem hp,hop]
 have hbop:H6 op:=hb op (by rw[hop];exact List.getElem_mem _)
 have egd:bs.getD p 0=op:=by rw[List.getD_eq_getElem?_getD,hj];rfl
 rw[K3,oD,decide_eq_false hn0]
 simp only[wdB,vdT,oD,pdB,Bool.false_eq_true,if_false,L9,b2j,decide_eq_false hn1,cdF,show((false==false)=true) from rfl]
 rw[b5G hj,oD,lsE,List.getElem?_cons_zero,oD]
 have hag:E6 (w6 [(D.int .u8 0),(.int .i64 0),(.int .i64 0), .nilSlc] [(0,1, .int .u8 op)])=some (.agg (a1j op 0 0 .nilSlc)):=rfl
 rw[hag,oD]
 intro k7 a7 n7
 have d47:k4≠k7:=h4.none n7
 have n7':S k7=none:=b7.none_of le4 n7
 have h7z:w9 ((S.set k4 ⟨4,[zC],a4⟩).set k7 ⟨4,[zC],a7⟩) k7 4 zC:=w9.new
 refine h7z.st (ds:=a1j op 0 0 .nilSlc) (clA _) ⟨rfl,by decide,by decide⟩ fun a7=> ?_
 rw[b7.set_set,show o8 zC 0 (a1j op 0 0 .nilSlc)=a1j op 0 0 .nilSlc from rfl]
 have h7:w9 ((S.set k4 ⟨4,[zC],a4⟩).set k7 ⟨4,[a1j op 0 0 .nilSlc],a7⟩) k7 4 (a1j op 0 0 .nilSlc):=w9.new
 have h4':=h4.set (o:=⟨4,[a1j op 0 0 .nilSlc],a7⟩) n7
 have le7:S.le ((S.set k4 ⟨4,[zC],a4⟩).set k7 ⟨4,[a1j op 0 0 .nilSlc],a7⟩):=b7.le_set le4 n7'
 generalize (S.set k4 ⟨4,[zC],a4⟩).set k7 ⟨4,[a1j op 0 0 .nilSlc],a7⟩=T7 at*
 rw[I3,oD,h7.ld,show(a1j op 0 0 .nilSlc)[0+0]? =some (.int .u8 op) from rfl,oD]
 refine b3r.use ?_
 simp only[exD,List.getElem?_cons_zero,List.getElem?_cons_succ,oD,unN]
 cases hlay:lay op with
 |none=>
  rw[show(!(none:Option (List Fld)).isSome)=true from rfl,cdT,fiN,agS,oD]
  have e:H7 bs (p:Int)=(c8t,(0,120)):=by rw[edT];unfold c2g;rw[egd,if_pos hlay]
  refine h4'.st (clA _) ⟨rfl,by decide,by decide⟩ fun a=> ?_
  rw[(w9.new).all (n:=4) (by decide) rfl,oD]
  refine d9.less (b7.le_set le7 n4) (d9.here ⟨.nilSlc, ?_, ?_⟩)
  ·rw[e];rfl
  ·rw[e];exact Grw.nil _ _
 |some l=>
 rw[show(!(some l).isSome)=false from rfl,cdF,E2,oD,m7 (by omega) (by omega)]
 have hag2:E6 (w6 [.nilSlc,(D.int .i64 0),(.int .i64 0)] [(0,1,bD bs),(1,1, .int .i64 ((p:Int)+1))])=some (.agg (rdC bs (p+1,0))):=rfl
 rw[hag2,oD,clA,oD]
 intro k10 a10 n10
 have hst:a0Q S k4 k7 k10 (a1j op 0 0 .nilSlc) bs (p+1,0) (T7.set k10 ⟨3,[rdC bs (p+1,0)],a10⟩):=
  ⟨b7.le_set le7 (b7.none_of le7 n10),n4,n7',b7.none_of le7 n10,d47,h4'.set n10,h7.set n10,w9.new⟩
 have hl2:l.length≤2:=by have:=b4A (op:=op);rw[hlay]at this;exact this
 have hgood:∀f∈l,b1L f:=by have:=b7p op;rw[hlay]at this;exact this
 have hgd:(lay op).getD []=l:=by rw[hlay];rfl
 rw[lnL,oD,a4V,hgd]
 have hl60:bs.length<2^60:=by omega
 have edS:c2g bs p=if(b7t bs p).2.2≠0 then(c8t,(0,(b7t bs p).2.2)) else b7t bs p:=by
  unfold c2g;rw[egd,if_neg (by rw[hlay];simp)]
 refine b5C (I:=fun n x4 x7 x10 x45 x46 x47 T=>x4= .ptr k4 0∧x7= .ptr k7 0∧x10= .ptr k10 0∧x45= .lst (a4w op) 2∧x46= .int .i64 (l.length:Int)∧∃(j:Nat) (a b:Int) (s:Nat×Int),x47= .int .i64 (j:Int)∧j+n=l.length∧
   a0Q S k4 k7 k10 (a1j op a b .nilSlc) bs s T∧s.1≤bs.length∧c1H bs j a b s (l.drop j)=Z1 bs l (p+1,0)) ?_ (n:=l.length)
  ⟨rfl,rfl,rfl,rfl,rfl,0,0,0,(p+1,0),rfl,by omega,hst,by show p+1≤bs.length;omega,d2a hl2⟩
 rintro n _ _ _ _ _ _ T ⟨rfl,rfl,rfl,rfl,rfl,j,a,b,s,rfl,hjn,hd,hs,hfold⟩
 unfold a6c
 rw[K3,oD,M6]
 refine⟨fun hlt=> ?_,fun hge=> ?_⟩
 ·have hlt:j<l.length:=by omega
  obtain⟨f,hf⟩:∃f,f=l[j]:=⟨_,rfl⟩
  have hjf:l[j]? =some f:=by rw[List.getElem?_eq_getElem hlt,hf]
  obtain⟨row,hrow,hfd⟩:=c6P (op:=op) (i:=j) (f:=f) (by rw[hgd];exact hjf)
  have hg:=hgood f (by rw[hf];exact List.getElem_mem _)
  have hg1:=hg.1
  have hg8:=a6h hg
  have hrl:=hfd.len
  rw[b5S hrow,oD,laE,if_pos ⟨by decide,by omega⟩,oD,List.drop_zero,List.take_of_length_le (by omega)]
  intro k ak nk
  refine(w9.new (sz:=2) (c:=[D.int .i64 0, .nilFn])).st (ds:=row) (clA _) ⟨hrl,by decide,by simp⟩ fun ak=> ?_
  rw[b7.set_set,d2V hfd]
  have hd2:=hd.new (o:=⟨2,[row],ak⟩) nk
  have hc:w9 (T.set k ⟨2,[row],ak⟩) k 2 row:=w9.new
  change a9 _ _
  rw[c8r hjf]at hfold
  have hI:=c4p (f:=f) hs
  rw[a1T,oD,cdB]
  refine⟨fun h0=> ?_,fun h0=> ?_⟩
  ·have h0:j=0:=by have:(j:Int)=0:=by simpa using h0
                   omega
   rw[if_pos h0,if_pos h0]at hfold
   rw[hc.all (n:=2) (by decide) hrl.symm,oD]
   refine(a8q hd2 hb hl60 hs hfd hg1 hg8).use ?_
   rintro v T2 ⟨rfl,hd3,_⟩
   rw[I3,oD]
   refine hd3.h7.st (clI _ _) ⟨rfl,by decide,by simp[a1j]⟩ fun a7=> ?_
   rw[E2,oD,m7 (by omega) (by omega)]
   exact⟨n - 1,by omega,rfl,rfl,rfl,rfl,rfl,j+1,_,b,_,rfl,by omega,hd3.set7 (c:=a1j op (H5 bs f s).1 b .nilSlc),hI,hfold⟩
  ·have h0:¬j=0:=by have:¬(j:Int)=0:=by simpa using h0
                    omega
   rw[if_neg h0,if_neg h0]at hfold
   rw[hc.all (n:=2) (by decide) hrl.symm,oD]
   refine(a8q hd2 hb hl60 hs hfd hg1 hg8).use ?_
   rintro v T2 ⟨rfl,hd3,_⟩
   rw[I3,oD]
   refine hd3.h7.st (clI _ _) ⟨rfl,by decide,by simp[a1j]⟩ fun a7=> ?_
   rw[E2,oD,m7 (by omega) (by omega)]
   exact⟨n - 1,by omega,rfl,rfl,rfl,rfl,rfl,j+1,a,_,_,rfl,by omega,hd3.set7 (c:=a1j op a (H5 bs f s).1 .nilSlc),hI,hfold⟩
 ·have hj':j=l.length:=by omega
  subst hj'
  rw[List.drop_length,c1H]at hfold
  rw[I3,oD,hd.h7.ld,show(a1j op a b .nilSlc)[0+0]? =some (.int .u8 op) from rfl,oD,a1T,oD,cdB]
  refine⟨fun h49=> ?_,fun h49=> ?_⟩
  ·have h49:op=49:=by simpa using h49
   have hb0:b=0:=by
    have hl1:=d3C hlay h49
    rw[hl1]at hfold
    exact congrArg (fun q:Int×Int×(Nat×Int)=>q.2.1) hfold
   subst hb0
   have edX:b7t bs p=a7R bs 49 a s:=by unfold b7t;rw[egd,if_pos h49,hgd, ←hfold]
   have d7:∀ {k:Nat},T k=none→k7≠k:=fun hk=>hd.h7.none hk
   have hfin:∀ {k l:Nat} {T':b7},T k=none→T l=none→a0Q S k4 k7 k10 (a1j op a 0 .nilSlc) bs s T'→w9 T' k 2 [.int .i64 4,a0u 0 4294967295]→w9 T' l 2 [.int .i64 8,a6G (IntKind.u8.wrap a)]→
     u7 E w0 (d9 E (fun v S'=>∃t,v=c4N (H7 bs (p:Int)) t∧Grw S t ((H7 bs (p:Int)).1.2.2.2.map a2w) 2 S')) (.ptr k4 0) (.ptr k7 0) (.ptr k10 0) (.ptr k 0) (.ptr l 0) T':=fun{k l T'} nk nl hd' c1 c2=>by
    refine d3R hb hl hd' hs c1 c2 (b7.none_of hd.le nk) (b7.none_of hd.le nl) ⟨d7 nk,d7 nl⟩ fun t S' hg=> ?_
    rw[h49]
    rw[h49]at hg
    by_cases he:(a7R bs 49 a s).2.2=0
    ·rw[if_pos he]
     have e:H7 bs (p:Int)=a7R bs 49 a s:=by rw[edT,edS,edX,if_neg (by simp[he])]
     refine d9.here ⟨t, ?_,by rw[e];exact hg⟩
     rw[e]
     unfold c4N
     rw[he]
     rfl
    ·rw[if_neg he]
     have e:H7 bs (p:Int)=(c8t,(0,(a7R bs 49 a s).2.2)):=by rw[edT,edS,edX,if_pos he]
     refine d9.less hg.le (d9.here ⟨.nilSlc, ?_,by rw[e];exact Grw.nil _ _⟩)
     rw[e];rfl
   have ld1:c9 T (.ptr k7 (0+1))=some (.int .i64 a):=hd.h7.ld 1
   have hA:∀ {k l:Nat} {ak al:List AV},T k=none→(T.set k ⟨2,[[.int .i64 0, .nilFn]],ak⟩) l=none→∀ak al,u7 E w0 (d9 E (fun v S'=>∃t,v=c4N (H7 bs (p:Int)) t∧Grw S t ((H7 bs (p:Int)).1.2.2.2.map a2w) 2 S')) (.ptr k4 0) (.ptr k7 0) (.ptr k10 0) (.ptr k 0) (.ptr l 0)
     ((T.set k ⟨2,[[.int .i64 4,a0u 0 4294967295]],ak⟩).set l ⟨2,[[.int .i64 8,a6G (IntKind.u8.wrap a)]],al⟩):=fun{k l _ _} nk nl ak al=>by
    obtain⟨ne,nl'⟩:=b7.fresh nl
    have nl2:(T.set k ⟨2,[[.int .i64 4,a0u 0 4294967295]],ak⟩) l=none:=by rw[b7.set_ne _ _ _ ne];exact nl'
    exact hfin nk nl' ((hd.new nk).new nl2) ((w9.new).set nl2) w9.new
   have hB:∀ {k l:Nat} {ak al:List AV},T k=none→(T.set k ⟨2,[[.int .i64 0, .nilFn]],ak⟩) l=none→∀ak al,u7 E w0 (d9 E (fun v S'=>∃t,v=c4N (H7 bs (p:Int)) t∧Grw S t ((H7 bs (p:Int)).1.2.2.2.map a2w) 2 S')) (.ptr k4 0) (.ptr k7 0) (.ptr k10 0) (.ptr l 0) (.ptr k 0)
     ((T.set k ⟨2,[[.int .i64 8,a6G (IntKind.u8.wrap a)]],ak⟩).set l ⟨2,[[.int .i64 4,a0u 0 4294967295]],al⟩):=fun{k l _ _} nk nl ak al=>by
    obtain⟨ne,nl'⟩:=b7.fresh nl
    have nl2:(T.set k ⟨2,[[.int .i64 8,a6G (IntKind.u8.wrap a)]],ak⟩) l=none:=by rw[b7.set_ne _ _ _ ne];exact nl'
    exact hfin nl' nk ((hd.new nk).new nl2) w9.new ((w9.new).set nl2)
   have l0:∀ {k:Nat} {o:L7},T k=none→(T.set k o) k7=T k7:=fun nk=>b7.set_ne _ _ _ (d7 nk)
   simp only[I3,oD,ld1,cvI]
   repeat' (refine And.intro ?_ ?_)
   all_goals (repeat (first|refine F9.use ?_|refine a1o.use ?_|refine⟨fwR _ _, ?_⟩|rw[a4k (b3u _ _),oD]|rw[a4k (c1s _),oD]))
   all_goals (intro k ak nk)
   all_goals (have f1:=l0 (o:=⟨2,[[.int .i64 0, .nilFn]],ak⟩) nk)
   all_goals (repeat (first|refine F9.use ?_|refine a1o.use ?_|rw[a4k (b3u _ _),oD]|rw[a4k (c1s _),oD]|refine⟨f1, ?_⟩))
   all_goals (intro l' al nl)
   all_goals (have f2:∀ {o:L7},((T.set k ⟨2,[[.int .i64 0, .nilFn]],ak⟩).set l' o) k7=T k7:=fun{o}=>by rw[b7.set_ne _ _ _ (d7 (b7.fresh nl).2)];exact f1)
   all_goals (have ne:k≠l':=Ne.symm (b7.fresh nl).1)
   all_goals (repeat (first|refine F9.use ?_|refine a1o.use ?_|rw[a4k (b3u _ _),oD]|rw[a4k (c1s _),oD]|refine⟨f2, ?_⟩))
   all_goals (first
    |refine stP (k:=k) (cs:=[.int .i64 0, .nilFn]) (b7.set_ne _ _ _ ne |>.trans (b7.set_same _ _ _)) (clA _) ⟨rfl,by decide,by simp⟩ fun a1=> ?_
    |refine stP (k:=l') (cs:=[.int .i64 0, .nilFn]) (b7.set_same _ _ _) (clA _) ⟨rfl,by decide,by simp⟩ fun a1=> ?_)
   all_goals (first
    |refine stP (k:=l') (cs:=[.int .i64 0, .nilFn]) ((b7.set_ne _ _ _ (Ne.symm ne)).trans (b7.set_same _ _ _)) (clA _) ⟨rfl,by decide,by simp⟩ fun a2=> ?_
    |refine stP (k:=k) (cs:=[.int .i64 0, .nilFn]) (((b7.set_ne _ _ _ ne).trans (b7.set_ne _ _ _ ne)).trans (b7.set_same _ _ _)) (clA _) ⟨rfl,by decide,by simp⟩ fun a2=> ?_)
   all_goals (first|rw[d6n _ ne]|rw[d6k _ ne])
   all_goals (first|exact hA (al:=al) nk nl _ _|exact hB (al:=al) nk nl _ _)
  ·have h49:¬op=49:=by simpa using h49
   have edX:b7t bs p=((op,a,b,[]),s):=by unfold b7t;rw[egd,if_neg h49,hgd, ←hfold]
   refine c9r hd.h4 hd.h7 hd.h10 rfl rfl fun S'' hS''=> ?_
   have hle:S.le S'':=fun i o e=>by rw[hS'' i (fun e'=>by rw[e',hd.n4]at e;cases e)];exact hd.le _ _ e
   refine d9.less hle (d9.here ⟨.nilSlc, ?_, ?_⟩)
   ·by_cases he:s.2=0
    ·rw[if_pos he,edT,edS,edX,if_neg (by simp[he])]
     unfold c4N;rw[he]
    ·rw[if_neg he,edT,edS,edX,if_pos (by simpa using he)];rfl
   ·rw[edT,edS,edX]
    by_cases he:s.2=0
    ·rw[if_neg (by simp[he])];exact Grw.nil _ _
    ·rw[if_pos (by simpa using he)];exact Grw.nil _ _
end
end Go.Proofs.Ytchnpgddpaonhaa.d
end
section
namespace Go.Am
def ob:D→List Nat
 | .raw k _ _ _ _ _=>[k]
 |_=>[]
section
variable{S T:b7}{av:List Nat}{t u:D}{rows rows':List (List D)}{sz sz':Nat}
theorem GrA.ob_some(h:GrA S av t rows sz T):∀j∈ob t,T j≠Option.none:=by
 rcases h with ⟨rfl,_⟩|⟨k,acs,_,_,rfl,h3⟩
 ·simp[ob]
 ·simp[ob,h3]
theorem GrA.ob_av(h:GrA S av t rows sz T):∀j∈ob t,j ∉ av:=by
 rcases h with ⟨rfl,_⟩|⟨k,acs,_,h1,rfl,_⟩
 ·simp[ob]
 ·simpa [ob]using h1
theorem GrA.apart(h:GrA S av t rows sz T){T':b7}{av':List Nat}(e:∀j∈ob t,T' j=T j)(ha:∀j∈ob t,j ∉ av'):GrA S av' t rows sz T':=by
 rcases h with h|⟨k,acs,h0,h1,rfl,h3⟩
 ·exact .inl h
 ·exact .inr ⟨k,acs,h0,ha k (by simp[ob]),rfl,by rw[e k (by simp[ob])];exact h3⟩
theorem d9.grA{E:m6}{Q:D→b7→Prop}{pre post:List D}(h:GrA S av t rows sz T)(hle:S.le T)(hQ:∀T',S.le T'→(∀j,j ∉ ob t→T' j=T j)→d9 E Q (.tup (pre++ .lst rows sz::post)) T'):d9 E Q (.tup (pre++t::post)) T:=by
 rcases h with ⟨rfl,rfl⟩|⟨k,acs,h0,h1,rfl,h3⟩
 ·exact d9.nilT (hQ T hle fun _ _=>rfl)
 ·refine d9.freezeT h3 rfl (by simp) (Nat.le_refl _) ?_
  simpa using hQ (T.erase k) (b7.le_erase hle h0) fun j hj=>b7.erase_ne _ _ (by simpa [ob]using hj)
def GrP(S:b7)(av:List Nat)(t:D)(rows:List (List D))(sz:Nat)(u:D)(rows':List (List D))(sz':Nat)(T:b7):Prop:=
 S.le T∧(∀j∈av,T j≠Option.none)∧GrA S (ob u++av) t rows sz T∧GrA S (ob t++av) u rows' sz' T
theorem GrP.nil:GrP S [] .nilSlc [] sz .nilSlc [] sz' S:=⟨b7.le_refl _,by simp,GrA.nil,GrA.nil⟩
theorem GrP.swap(h:GrP S av t rows sz u rows' sz' T):GrP S av u rows' sz' t rows sz T:=⟨h.1,h.2.1,h.2.2.2,h.2.2.1⟩
theorem GrP.push(h:GrP S av t rows sz u rows' sz' T){bytes:Nat}{v:D}{news:List (List D)}(hv:rowsS T sz v=some news)(hn:news≠[])(hb:0<bytes∧(2*(rows.length+news.length)+768)*bytes≤2^47){K:D→b7→Prop}
  (hK:∀t' T',(∀j∈av,T' j=T j)→GrP S av t' (rows++news) sz u rows' sz' T'→K t' T'):y9 T sz bytes t v K:=by
 obtain⟨h1,h2,h3,h4⟩:=h
 refine h3.push h1 (fun j hj=> ?_) hv hn hb fun t' T' hle he hg=>hK t' T' (fun j hj=>he j (List.mem_append_right _ hj)) ⟨hle,fun j hj=> ?_,hg, ?_⟩
 ·rcases List.mem_append.1 hj with hj|hj
  ·exact h4.ob_some j hj
  ·exact h2 j hj
 ·rw[he j (List.mem_append_right _ hj)];exact h2 j hj
 ·refine h4.apart (fun j hj=>he j (List.mem_append_left _ hj)) fun j hj hm=> ?_
  rcases List.mem_append.1 hm with hm|hm
  ·exact hg.ob_av j hm (List.mem_append_left _ hj)
  ·exact h4.ob_av j hj (List.mem_append_right _ hm)
theorem GrP.set(h:GrP S av t rows sz u rows' sz' T){l:Nat}{o:L7}(hl:T l=Option.none):GrP S av t rows sz u rows' sz' (T.set l o):=by
 obtain⟨h1,h2,h3,h4⟩:=h
 exact⟨b7.le_set h1 (b7.none_of h1 hl),fun j hj=>(by rw[b7.set_ne _ _ _ (fun e=>h2 j hj (by rw[e];exact hl))];exact h2 j hj),h3.set (.inr hl),h4.set (.inr hl)⟩
theorem GrP.more(h:GrP S av t rows sz u rows' sz' T){l:Nat}{o:L7}(hl:T l=Option.none):GrP S (l::av) t rows sz u rows' sz' (T.set l o):=by
 have hs:=h.set (o:=o) hl
 have n1:∀j∈ob t,j≠l:=fun j hj e=>h.2.2.1.ob_some j hj (e▸hl)
 have n2:∀j∈ob u,j≠l:=fun j hj e=>h.2.2.2.ob_some j hj (e▸hl)
 refine⟨hs.1,fun j hj=> ?_,hs.2.2.1.apart (fun _ _=>rfl) fun j hj hm=> ?_,hs.2.2.2.apart (fun _ _=>rfl) fun j hj hm=> ?_⟩
 ·rcases List.mem_cons.1 hj with rfl|hj
  ·rw[b7.set_same];simp
  ·exact hs.2.1 j hj
 ·rcases List.mem_append.1 hm with hm|hm
  ·exact hs.2.2.1.ob_av j hj (List.mem_append_left _ hm)
  ·rcases List.mem_cons.1 hm with rfl|hm
   ·exact n1 _ hj rfl
   ·exact hs.2.2.1.ob_av j hj (List.mem_append_right _ hm)
 ·rcases List.mem_append.1 hm with hm|hm
  ·exact hs.2.2.2.ob_av j hj (List.mem_append_left _ hm)
  ·rcases List.mem_cons.1 hm with rfl|hm
   ·exact n2 _ hj rfl
   ·exact hs.2.2.2.ob_av j hj (List.mem_append_right _ hm)
theorem GrP.fin{E:m6}{Q:D→b7→Prop}{post:List D}(h:GrP S av t rows sz u rows' sz' T)(hQ:d9 E Q (.tup (.lst rows sz:: .lst rows' sz'::post)) S):d9 E Q (.tup (t::u::post)) T:=by
 obtain⟨h1,h2,h3,h4⟩:=h
 refine d9.grA (pre:=[]) h3 h1 fun T' hle he=> ?_
 have h4':GrA S (ob t++av) u rows' sz' T':=h4.apart (fun j hj=>he j fun hm=>h3.ob_av j hm (List.mem_append_left _ hj)) fun j hj hm=>h4.ob_av j hj hm
 exact d9.grA (pre:=[.lst rows sz]) h4' hle fun T2 hle2 _=>d9.less hle2 hQ
end
end Go.Am
end
section
open Go.Proofs Go Go.Am Go.Op
namespace Go.Proofs.Ytchnpgddpaonhaa.d
section
section
variable{E:m6}{w0:o3}
theorem d0P(m:Mo):(moC m)[0]? =some (b2X m.types)∧(moC m)[1]? =some (b0L m.texts)∧(moC m)[2]? =some (b2O m.funcs):=⟨rfl,rfl,rfl⟩
theorem b4I{b:Bool}{s N:Int}{K:D→Prop}(h:K (.bool (b&&decide (s≤N)))):a9 (j9 (d6 (.bool b) true) (some (.int .i64 s))) fun v17=>a9 (j9 (d6 (.bool b) true) (some (.int .i64 N))) fun v18=>a9 (j9 (d6 (.bool b) true) (d8 .leq v17 v18)) fun v19=>a9 (z2 (.bool b) v19 (.bool false)) fun v20=>K v20:=by
 cases b<;>simpa using h
structure Mo.Small (m:Mo) (N:Nat):Prop where
 types:m.types.length≤N
 texts:m.texts.length≤N
 funcs:m.funcs.length≤N
 fields:∀t∈m.types,t.fields.length≤N
 params:∀r∈m.funcs,r.params.length≤N∧r.results.length≤N∧r.code.length≤N
end
end
section
@[simp] theorem d4q(S:b7)(l:List (Tx×Int)):rowsS S 2 (a3e l)=some (l.map a0d):=by simp[a3e,rowsS,J5]
@[simp] theorem d4I(S:b7)(l:List Tx):rowsS S 1 (b0L l)=some (u4 (l.map D.str)):=by simp[b0L,rowsS,J5]
theorem Grw.cells{S0 S:b7}{t:D}{rows:List (List D)}{sz:Nat}(g:Grw S0 t rows sz S):r7 t=some [t]:=by rcases g with ⟨rfl,_⟩|⟨_,_,_,rfl,_⟩<;>rfl
structure Mo.Fits (m:Mo):Prop where
 ok:m.Ok
 types:m.types.length<2^30
 texts:m.texts.length<2^30
 funcs:m.funcs.length<2^30
 fields:∀t∈m.types,t.fields.length<2^30
 params:∀r∈m.funcs,r.params.length<2^30∧r.results.length<2^30∧r.code.length<2^30
section
variable{E:m6}{w0:o3}
end
end
section
def Y7(P:Program)(E:m6)(w0:o3)(f:FuncId)(ds:List D)(d:D):Prop:=∀S,o4 P E w0 f ds S fun d' S'=>d'=d∧S'=S
theorem Y7.use{P:Program}{E:m6}{w0:o3}{f:FuncId}{ds:List D}{d:D}(h:Y7 P E w0 f ds d){S:b7}{K:D→b7→Prop}(hk:K d S):o4 P E w0 f ds S K:=(h S).use fun d' S' ⟨a,b⟩=>by subst a b;exact hk
section
variable{E:m6}{w0:o3}
end
end
section
def b2R(d:Dat):In:=⟨d.1,d.2.1,d.2.2.1,d.2.2.2⟩
theorem d2i(d:Dat):(b2R d).dat=d:=rfl
def b9T(l:List In):D:= .lst (l.map inC) 4
def d2v(r:Dat×(Nat×Int)):D:= .tup [inD (b2R r.1), .int .i64 (r.2.1:Int), .int .i64 r.2.2]
def b4T(l:List (Dat×Nat)):List In:=l.map fun x=>b2R x.1
def b5i(l:List (Dat×Nat)):List Int:=l.map fun x=>(x.2:Int)
def d2Z(r:Except Int (List (Dat×Nat))):D:=match r with
 | .ok l=> .tup [b9T (b4T l),iD (b5i l), .int .i64 0]
 | .error e=> .tup [b9T [],iD [], .int .i64 e]
abbrev b9i(bs:List Int):Except Int (List (Dat×Nat)):=b8N bs (bs.length+1) 0
theorem c2J{bs:List Int}{n p:Nat}(hp:p<bs.length):b8N bs (n+1) p=if(H7 bs p).2.2=0 then(match b8N bs n (H7 bs p).2.1 with| .ok l=> .ok (((H7 bs p).1,p)::l)| .error e=> .error e) else .error (H7 bs p).2.2:=by
 rw[b8N,if_neg (by omega)]
 all_goals rfl
theorem d0C{done:List (Dat×Nat)}{x:Dat×Nat}(r:Except Int (List (Dat×Nat))):d0z done (match r with| .ok l=> .ok (x::l)| .error e=> .error e)=d0z (done++[x]) r:=by
 cases r with
 |error e=>rfl
 |ok l=>simp[d0z]
theorem c6B{bs:List Int}(hb:∀b∈bs,H6 b){p:Nat}(h:(H7 bs (p:Int)).2.2=0):(b2R (H7 bs p).1).Ok∧p<(H7 bs p).2.1∧(H7 bs p).2.1≤bs.length:=by
 obtain⟨_,_,h3,_,hsg,hnx⟩:=d2X hb h (d2i _)
 rw[Int.toNat_natCast]at hnx hsg
 have:=d2t (b2R (H7 bs p).1)
 have:=hsg.1
 exact⟨h3,by omega,by omega⟩
section
variable{E:m6}{w0:o3}
theorem c9Y{k sz:Nat}{rows:List (List D)}{acs:List AV}:Am.frz k ⟨sz,rows,acs⟩ (.raw k 0 rows.length rows.length false sz)= .lst rows sz:=by
 rw[c8F (by omega) (Nat.le_refl _),List.drop_zero,List.take_length]
theorem c2l{bs:List Int}(hb:∀b∈bs,H6 b)(hl:bs.length<2^30){n:Int}:Y7 Try.prog E w0 a5d [bD bs, .int .i64 n] (d2v (H7 bs n)):=fun S=>
 (c1h hb hl).fin fun v S' ⟨t,ev,g⟩=>by
  subst ev
  rcases g with ⟨rfl,e,rfl⟩|⟨k,acs,h0,rfl,rfl⟩
  ·refine d9.weak (d':=d2v (H7 bs n)) ?_ d9.pure
   refine Wk.tup ⟨Wk.agg ⟨Wk.refl _,Wk.refl _,Wk.refl _, ?_,trivial⟩,Wk.refl _,Wk.refl _,trivial⟩
   have:b6V (b2R (H7 bs n).1).arms= .lst [] 2:=by unfold b6V;rw[show(b2R (H7 bs n).1).arms=(H7 bs n).1.2.2.2 from rfl,e]
   rw[this]
   exact Wk.nil 2
  ·refine d9.frz h0 ?_
   have:Am.frz k ⟨2,(H7 bs n).1.2.2.2.map a2w,acs⟩ (c4N (H7 bs n) (.raw k 0 ((H7 bs n).1.2.2.2.map a2w).length ((H7 bs n).1.2.2.2.map a2w).length false 2))=d2v (H7 bs n):=by
    have e:∀(o:L7) (a b c d e:Int) (tt:D),Am.frz k o (.tup [.agg [.int .u8 a, .int .i64 b, .int .i64 c,tt], .int .i64 d, .int .i64 e])= .tup [.agg [.int .u8 a, .int .i64 b, .int .i64 c,Am.frz k o tt], .int .i64 d, .int .i64 e]:=by
     intros;simp only[Am.frz,Am.c0w]
    unfold c4N a1j
    rw[e,c9Y]
    rfl
   rw[this]
   exact d9.pure
theorem c8o{bs:List Int}(hb:∀b∈bs,H6 b)(hl:bs.length<2^30):Y7 Try.prog E w0 b6M [bD bs] (d2Z (b9i bs)):=fun S=>by
 refine c4c ?_
 unfold c3b
 refine b9C (I:=fun n x0 x5 x6 x7 T=>x0=bD bs∧∃(p:Nat) (done:List (Dat×Nat)),x7= .int .i64 (p:Int)∧p≤bs.length∧bs.length<p+n∧done.length≤p∧GrP S [] x5 ((b4T done).map inC) 4 x6 (iC (b5i done)) 1 T∧b9i bs=d0z done (b8N bs n p)) ?_ (n:=bs.length+1)
  ⟨rfl,0,[],rfl,by omega,by omega,by simp,GrP.nil,by unfold b9i;cases b8N bs (bs.length+1) 0<;>rfl⟩
 rintro n _ x5 x6 _ T ⟨rfl,p,done,rfl,hp,hpn,hdl,hg,hrun⟩
 unfold b2b
 rw[L9,oD,K3,oD,M6]
 obtain⟨n,rfl⟩:∃m,n=m+1:=⟨n - 1,by omega⟩
 refine⟨fun hlt=> ?_,fun hge=> ?_⟩
 ·have hlt:p<bs.length:=by omega
  rw[c2J hlt]at hrun
  refine(c2l hb hl).use ?_
  unfold d2v
  simp only[exD,List.getElem?_cons_zero,List.getElem?_cons_succ,oD]
  intro k a nk
  refine(w9.new (sz:=4) (c:=[.int .u8 0, .int .i64 0, .int .i64 0, .nilSlc])).st (ds:=inC (b2R (H7 bs p).1)) (clA _) ⟨rfl,by decide,by decide⟩ fun a'=> ?_
  rw[b7.set_set,show o8 [.int .u8 0, .int .i64 0, .int .i64 0, .nilSlc] 0 (inC (b2R (H7 bs p).1))=inC (b2R (H7 bs p).1) from rfl,b4F,oD,d3a,M6]
  have hg2:=hg.set (o:=⟨4,[inC (b2R (H7 bs p).1)],a'⟩) nk
  refine⟨fun he=> ?_,fun he=> ?_⟩
  ·rw[if_neg he]at hrun
   rw[hrun]
   refine d9.less hg2.1 (d9.weak (d':= .tup [b9T [],iD [], .int .i64 (H7 bs p).2.2]) (Wk.tup ⟨Wk.nil 4,Wk.nil 1,Wk.refl _,trivial⟩) d9.pure)
  ·have he:(H7 bs p).2.2=0:=Classical.not_not.1 he
   obtain⟨_,h1,h2⟩:=c6B hb he
   rw[if_pos he,d0C]at hrun
   rw[(w9.new).all (n:=4) (by decide) rfl,oD,show p9 4 (List.replicate 1 [(D.int .u8 0),(.int .i64 0),(.int .i64 0), .nilSlc]) [(0, .agg (inC (b2R (H7 bs p).1)))]=some [inC (b2R (H7 bs p).1)]from rfl]
   refine M7 rfl ?_
   refine hg2.push (news:=[inC (b2R (H7 bs p).1)]) (by simp[rowsS,J5]) (by simp) (by simp[b4T];omega) fun t' T' _ hg3=> ?_
   rw[show p9 1 (List.replicate 1 [D.int .i64 0]) [(0, .int .i64 (p:Int))]=some (iC [(p:Int)]) from rfl]
   refine M7 rfl ?_
   refine hg3.swap.push (news:=iC [(p:Int)]) (by simp[rowsS,J5]) (by simp[iC,u4]) (by simp[b5i];omega) fun u' T2 _ hg4=> ?_
   refine⟨n,by omega,by trivial,(H7 bs p).2.1,done++[((H7 bs p).1,p)],rfl,h2,by omega,by simp;omega, ?_,hrun⟩
   have e1:(b4T (done++[((H7 bs p).1,p)])).map inC=(b4T done).map inC++[inC (b2R (H7 bs p).1)]:=by simp[b4T]
   have e2:iC (b5i (done++[((H7 bs p).1,p)]))=iC (b5i done)++iC [(p:Int)]:=by rw[←c3j];simp[b5i]
   rw[e1,e2]
   exact hg4.swap
 ·have e0:b8N bs (n+1) p= .ok []:=by rw[b8N,if_pos (by omega)]
  rw[e0]at hrun
  rw[hrun]
  refine hg.fin ?_
  have:d2Z (d0z done (.ok []))= .tup [.lst ((b4T done).map inC) 4, .lst (iC (b5i done)) 1, .int .i64 0]:=by simp[d2Z,d0z,b9T,iD]
  rw[this]
  exact d9.pure
end
theorem c6K{bs:List Int}(hb:∀b∈bs,H6 b):∀(n p:Nat) (l:List (Dat×Nat)),b8N bs n p= .ok l→p≤bs.length→l.length+p≤bs.length∧∀x∈l,(b2R x.1).Ok
 |0,p,l,h,hp=>by cases h;exact⟨by simpa using hp,by simp⟩
 |n+1,p,l,h,hp=>by
  by_cases hlt:p<bs.length
  ·rw[c2J hlt]at h
   split at h
   ·rename_i he
    obtain⟨h1,h2,h3⟩:=c6B hb he
    split at h
    ·rename_i l' e
     cases h
     obtain⟨g1,g2⟩:=c6K hb n _ l' e h3
     refine⟨by simp only[List.length_cons];omega,fun x hx=> ?_⟩
     rcases List.mem_cons.1 hx with rfl|hx
     ·exact h1
     ·exact g2 x hx
    ·cases h
   ·cases h
  ·have e0:b8N bs (n+1) p= .ok []:=by rw[b8N,if_pos (by omega)]
   rw[e0]at h
   cases h
   exact⟨by simpa using hp,by simp⟩
def b2W(r:Except Int (List (Dat×Nat))):List In×List Int×Int:=match r with
 | .ok l=>(b4T l,b5i l,0)
 | .error e=>([],[],e)
theorem d2r(r:Except Int (List (Dat×Nat))):d2Z r= .tup [b9T (b2W r).1,iD (b2W r).2.1, .int .i64 (b2W r).2.2]:=by cases r<;>rfl
theorem d2u{bs:List Int}(hb:∀b∈bs,H6 b):(∀y∈(b2W (b9i bs)).1,y.Ok)∧(b2W (b9i bs)).1.length≤bs.length∧(b2W (b9i bs)).2.1.length≤bs.length:=by
 cases h:b9i bs with
 |error e=>exact⟨by simp[b2W],by simp[b2W],by simp[b2W]⟩
 |ok l=>
  obtain⟨h1,h2⟩:=c6K hb _ 0 l h (Nat.zero_le _)
  refine⟨fun y hy=> ?_,by simp[b2W,b4T];omega,by simp[b2W,b5i];omega⟩
  obtain⟨x,hx,rfl⟩:=List.mem_map.1 hy
  exact h2 x hx
end
end Go.Proofs.Ytchnpgddpaonhaa.d
end
