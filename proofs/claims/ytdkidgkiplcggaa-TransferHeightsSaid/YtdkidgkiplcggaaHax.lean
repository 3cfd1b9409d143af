/-
  TransferHeightsSaid: part Hax of its proof.
-/
import Derived.Test.YtdkidgkiplcggaaHaw
import Derived.Test.YtdkidgkiplcggaaHau
import Derived.Test.YtdkidgkiplcggaaHav
set_option linter.unusedVariables false
set_option linter.unusedSimpArgs false
set_option maxRecDepth 100000
section
open Go.Proofs Go Go.Am Go.Op
namespace Go.Proofs.Ytdkidgkiplcggaa.d
section
variable{E:j3}{w0:j8}
theorem d6s(T:b8){k l:Nat}(h:k≠l)(z z' A B:D2):(((T.set k z).set l z').set k A).set l B=(T.set k A).set l B:=by
 rw[b8.set_in _ h,b8.set_set]
theorem d6w(T:b8){k l:Nat}(h:k≠l)(z z' A B:D2):(((T.set k z).set l z').set l B).set k A=(T.set k A).set l B:=by
 rw[b8.set_set,b8.set_in _ h]
theorem c7A{bs:List Int}{j:Nat}{a b:Int}{s:Nat×Int}{f:Fld}{l:List Fld}(h:l[j]? =some f):c1K bs j a b s (l.drop j)=c1K bs (j+1) (if j=0 then(F6 bs f s).1 else a) (if j=0 then b else(F6 bs f s).1) (F6 bs f s).2 (l.drop (j+1)):=by
 obtain⟨hj,rfl⟩:=List.getElem?_eq_some_iff.1 h
 rw[List.drop_eq_getElem_cons hj,c1K]
theorem c0O{bs:List Int}(hb:∀b∈bs,a0J b)(hl:bs.length<2^30){n:Int}{S:b8}:l8 Try.prog E w0 a4W [bD bs, .int .i64 n] S fun v S'=>∃t,v=c5c (E6 bs n) t∧Grw S t ((E6 bs n).1.2.2.2.map a0j) 2 S':=by
 refine b8q ?_
 unfold b5a
 intro k4 a4 n4
 have h4:u7 (S.set k4 ⟨4,[zC],a4⟩) k4 4 zC:=u7.new
 change b7 _ _
 have le4:S.le (S.set k4 ⟨4,[zC],a4⟩):=b8.le_new n4
 by_cases hn:n<0∨n≥bs.length
 ·have e:E6 bs n=(c7W,(0,2)):=by unfold E6;rw[if_pos hn]
  have fin:(b7 (D3 (s0 [(D.int .u8 0),(.int .i64 0),(.int .i64 0), .nilSlc] [])) fun v8=>i7 (S.set k4 ⟨4,[zC],a4⟩) 4 (.ptr k4 0) v8 fun v9 S10=>b7 (i6 S10 4 (.ptr k4 0)) fun v11=>i4 E (fun v S'=>∃t,v=c5c (E6 bs n) t∧Grw S t ((E6 bs n).1.2.2.2.map a0j) 2 S') (.tup [v11,(.int .i64 0),(.int .i64 2)]) S10):=by
   rw[fiN,agS,oD]
   refine h4.st (Q8 _) ⟨rfl,by decide,by decide⟩ fun a=> ?_
   rw[(u7.new).all (n:=4) (by decide) rfl,oD,b8.set_set]
   refine i4.drop n4 (i4.here ⟨.nilSlc, ?_, ?_⟩)
   ·rw[e];rfl
   ·rw[e];exact Grw.nil _ _
  rw[H6,oD]
  by_cases h1:n<0
  ·rw[decide_eq_true h1]
   simp only[K7,vdF,oD,L7,if_true,cdT,show((true==false)=false) from rfl]
   exact fin
  ·have h2:decide (n≥(bs.length:Int))=true:=decide_eq_true (hn.resolve_left h1)
   rw[decide_eq_false h1]
   simp only[K7,vdT,oD,L7,Bool.false_eq_true,if_false,a1M,a7X,h2,cdT,show((false==false)=true) from rfl]
   exact fin
 have hn0:¬n<0:=fun h=>hn (.inl h)
 have hn1:¬n≥(bs.length:Int):=fun h=>hn (.inr h)
 obtain⟨p,rfl⟩:∃p:Nat,n=(p:Int):=⟨n.toNat,by omega⟩
 have hp:p<bs.length:=by omega
 have edT:E6 bs (p:Int)=c2I bs p:=by unfold E6;rw[if_neg hn];rfl
 obtain⟨op,hop⟩:∃op,op=bs[p]:=⟨_,rfl⟩
 have hj:bs[p]? =some op:=by rw[List.getElem?_eq_getElem hp,hop]
 have hbop:a0J op:=hb op (by rw[hop];exact List.getElem_mem _)
 have egd:bs.getD p 0=op:=by rw[List.getD_eq_getElem?_getD,hj];rfl
 rw[H6,oD,decide_eq_false hn0]
 simp only[K7,vdT,oD,L7,Bool.false_eq_true,if_false,a1M,a7X,decide_eq_false hn1,cdF,show((false==false)=true) from rfl]
 rw[c9P hj,oD,lsE,List.getElem?_cons_zero,oD]
 have hag:D3 (s0 [(D.int .u8 0),(.int .i64 0),(.int .i64 0), .nilSlc] [(0,1, .int .u8 op)])=some (.agg (a0H op 0 0 .nilSlc)):=rfl
 rw[hag,oD]
 intro k7 a7 n7
 have d47:k4≠k7:=h4.none n7
 have n7':S k7=none:=b8.none_of le4 n7
 have h7z:u7 ((S.set k4 ⟨4,[zC],a4⟩).set k7 ⟨4,[zC],a7⟩) k7 4 zC:=u7.new
 refine h7z.st (ds:=a0H op 0 0 .nilSlc) (Q8 _) ⟨rfl,by decide,by decide⟩ fun a7=> ?_
 rw[b8.set_set,show j9 zC 0 (a0H op 0 0 .nilSlc)=a0H op 0 0 .nilSlc from rfl]
 have h7:u7 ((S.set k4 ⟨4,[zC],a4⟩).set k7 ⟨4,[a0H op 0 0 .nilSlc],a7⟩) k7 4 (a0H op 0 0 .nilSlc):=u7.new
 have h4':=h4.set (o:=⟨4,[a0H op 0 0 .nilSlc],a7⟩) n7
 have le7:S.le ((S.set k4 ⟨4,[zC],a4⟩).set k7 ⟨4,[a0H op 0 0 .nilSlc],a7⟩):=b8.le_set le4 n7'
 generalize (S.set k4 ⟨4,[zC],a4⟩).set k7 ⟨4,[a0H op 0 0 .nilSlc],a7⟩=T7 at*
 rw[D8,oD,h7.ld,show(a0H op 0 0 .nilSlc)[0+0]? =some (.int .u8 op) from rfl,oD]
 refine b3j.use ?_
 simp only[exD,List.getElem?_cons_zero,List.getElem?_cons_succ,oD,unN]
 cases hlay:lay op with
 |none=>
  rw[show(!(none:Option (List Fld)).isSome)=true from rfl,cdT,fiN,agS,oD]
  have e:E6 bs (p:Int)=(c7W,(0,120)):=by rw[edT];unfold c2I;rw[egd,if_pos hlay]
  refine h4'.st (Q8 _) ⟨rfl,by decide,by decide⟩ fun a=> ?_
  rw[(u7.new).all (n:=4) (by decide) rfl,oD]
  refine i4.less (b8.le_set le7 n4) (i4.here ⟨.nilSlc, ?_, ?_⟩)
  ·rw[e];rfl
  ·rw[e];exact Grw.nil _ _
 |some l=>
 rw[show(!(some l).isSome)=false from rfl,cdF,D5,oD,l7 (by omega) (by omega)]
 have hag2:D3 (s0 [.nilSlc,(D.int .i64 0),(.int .i64 0)] [(0,1,bD bs),(1,1, .int .i64 ((p:Int)+1))])=some (.agg (rdC bs (p+1,0))):=rfl
 rw[hag2,oD,Q8,oD]
 intro k10 a10 n10
 have hst:a0A S k4 k7 k10 (a0H op 0 0 .nilSlc) bs (p+1,0) (T7.set k10 ⟨3,[rdC bs (p+1,0)],a10⟩):=
  ⟨b8.le_set le7 (b8.none_of le7 n10),n4,n7',b8.none_of le7 n10,d47,h4'.set n10,h7.set n10,u7.new⟩
 have hl2:l.length≤2:=by have:=b4a (op:=op);rw[hlay]at this;exact this
 have hgood:∀f∈l,b1t f:=by have:=b6A op;rw[hlay]at this;exact this
 have hgd:(lay op).getD []=l:=by rw[hlay];rfl
 rw[lnL,oD,a5b,hgd]
 have hl60:bs.length<2^60:=by omega
 have edS:c2I bs p=if(b7p bs p).2.2≠0 then(c7W,(0,(b7p bs p).2.2)) else b7p bs p:=by
  unfold c2I;rw[egd,if_neg (by rw[hlay];simp)]
 refine b4V (I:=fun n x4 x7 x10 x45 x46 x47 T=>x4= .ptr k4 0∧x7= .ptr k7 0∧x10= .ptr k10 0∧x45= .lst (a4i op) 2∧x46= .int .i64 (l.length:Int)∧∃(j:Nat) (a b:Int) (s:Nat×Int),x47= .int .i64 (j:Int)∧j+n=l.length∧
   a0A S k4 k7 k10 (a0H op a b .nilSlc) bs s T∧s.1≤bs.length∧c1K bs j a b s (l.drop j)=W4 bs l (p+1,0)) ?_ (n:=l.length)
  ⟨rfl,rfl,rfl,rfl,rfl,0,0,0,(p+1,0),rfl,by omega,hst,by show p+1≤bs.length;omega,d1v hl2⟩
 rintro n _ _ _ _ _ _ T ⟨rfl,rfl,rfl,rfl,rfl,j,a,b,s,rfl,hjn,hd,hs,hfold⟩
 unfold a5t
 rw[H6,oD,K0]
 refine⟨fun hlt=> ?_,fun hge=> ?_⟩
 ·have hlt:j<l.length:=by omega
  obtain⟨f,hf⟩:∃f,f=l[j]:=⟨_,rfl⟩
  have hjf:l[j]? =some f:=by rw[List.getElem?_eq_getElem hlt,hf]
  obtain⟨row,hrow,hfd⟩:=c6v (op:=op) (i:=j) (f:=f) (by rw[hgd];exact hjf)
  have hg:=hgood f (by rw[hf];exact List.getElem_mem _)
  have hg1:=hg.1
  have hg8:=a5K hg
  have hrl:=hfd.len
  rw[b3J hrow,oD,laE,if_pos ⟨by decide,by omega⟩,oD,List.drop_zero,List.take_of_length_le (by omega)]
  intro k ak nk
  refine(u7.new (sz:=2) (c:=[D.int .i64 0, .nilFn])).st (ds:=row) (Q8 _) ⟨hrl,by decide,by simp⟩ fun ak=> ?_
  rw[b8.set_set,d3j hfd]
  have hd2:=hd.new (o:=⟨2,[row],ak⟩) nk
  have hc:u7 (T.set k ⟨2,[row],ak⟩) k 2 row:=u7.new
  change b7 _ _
  rw[c7A hjf]at hfold
  have hI:=c4L (f:=f) hs
  rw[a7k,oD,cdB]
  refine⟨fun h0=> ?_,fun h0=> ?_⟩
  ·have h0:j=0:=by have:(j:Int)=0:=by simpa using h0
                   omega
   rw[if_pos h0,if_pos h0]at hfold
   rw[hc.all (n:=2) (by decide) hrl.symm,oD]
   refine(a7P hd2 hb hl60 hs hfd hg1 hg8).use ?_
   rintro v T2 ⟨rfl,hd3,_⟩
   rw[D8,oD]
   refine hd3.h7.st (clI _ _) ⟨rfl,by decide,by simp[a0H]⟩ fun a7=> ?_
   rw[D5,oD,l7 (by omega) (by omega)]
   exact⟨n - 1,by omega,rfl,rfl,rfl,rfl,rfl,j+1,_,b,_,rfl,by omega,hd3.set7 (c:=a0H op (F6 bs f s).1 b .nilSlc),hI,hfold⟩
  ·have h0:¬j=0:=by have:¬(j:Int)=0:=by simpa using h0
                    omega
   rw[if_neg h0,if_neg h0]at hfold
   rw[hc.all (n:=2) (by decide) hrl.symm,oD]
   refine(a7P hd2 hb hl60 hs hfd hg1 hg8).use ?_
   rintro v T2 ⟨rfl,hd3,_⟩
   rw[D8,oD]
   refine hd3.h7.st (clI _ _) ⟨rfl,by decide,by simp[a0H]⟩ fun a7=> ?_
   rw[D5,oD,l7 (by omega) (by omega)]
   exact⟨n - 1,by omega,rfl,rfl,rfl,rfl,rfl,j+1,a,_,_,rfl,by omega,hd3.set7 (c:=a0H op a (F6 bs f s).1 .nilSlc),hI,hfold⟩
 ·have hj':j=l.length:=by omega
  subst hj'
  rw[List.drop_length,c1K]at hfold
  rw[D8,oD,hd.h7.ld,show(a0H op a b .nilSlc)[0+0]? =some (.int .u8 op) from rfl,oD,a7k,oD,cdB]
  refine⟨fun h49=> ?_,fun h49=> ?_⟩
  ·have h49:op=49:=by simpa using h49
   have hb0:b=0:=by
    have hl1:=d3L hlay h49
    rw[hl1]at hfold
    exact congrArg (fun q:Int×Int×(Nat×Int)=>q.2.1) hfold
   subst hb0
   have edX:b7p bs p=a8g bs 49 a s:=by unfold b7p;rw[egd,if_pos h49,hgd, ←hfold]
   have d7:∀ {k:Nat},T k=none→k7≠k:=fun hk=>hd.h7.none hk
   have hfin:∀ {k l:Nat} {T':b8},T k=none→T l=none→a0A S k4 k7 k10 (a0H op a 0 .nilSlc) bs s T'→u7 T' k 2 [.int .i64 4,Z7 0 4294967295]→u7 T' l 2 [.int .i64 8,a6F (IntKind.u8.wrap a)]→
     s5 E w0 (i4 E (fun v S'=>∃t,v=c5c (E6 bs (p:Int)) t∧Grw S t ((E6 bs (p:Int)).1.2.2.2.map a0j) 2 S')) (.ptr k4 0) (.ptr k7 0) (.ptr k10 0) (.ptr k 0) (.ptr l 0) T':=fun{k l T'} nk nl hd' c1 c2=>by
    refine d4O hb hl hd' hs c1 c2 (b8.none_of hd.le nk) (b8.none_of hd.le nl) ⟨d7 nk,d7 nl⟩ fun t S' hg=> ?_
    rw[h49]
    rw[h49]at hg
    by_cases he:(a8g bs 49 a s).2.2=0
    ·rw[if_pos he]
     have e:E6 bs (p:Int)=a8g bs 49 a s:=by rw[edT,edS,edX,if_neg (by simp[he])]
     refine i4.here ⟨t, ?_,by rw[e];exact hg⟩
     rw[e]
     unfold c5c
     rw[he]
     rfl
    ·rw[if_neg he]
     have e:E6 bs (p:Int)=(c7W,(0,(a8g bs 49 a s).2.2)):=by rw[edT,edS,edX,if_pos he]
     refine i4.less hg.le (i4.here ⟨.nilSlc, ?_,by rw[e];exact Grw.nil _ _⟩)
     rw[e];rfl
   have ld1:c9 T (.ptr k7 (0+1))=some (.int .i64 a):=hd.h7.ld 1
   have hA:∀ {k l:Nat} {ak al:List AV},T k=none→(T.set k ⟨2,[[.int .i64 0, .nilFn]],ak⟩) l=none→∀ak al,s5 E w0 (i4 E (fun v S'=>∃t,v=c5c (E6 bs (p:Int)) t∧Grw S t ((E6 bs (p:Int)).1.2.2.2.map a0j) 2 S')) (.ptr k4 0) (.ptr k7 0) (.ptr k10 0) (.ptr k 0) (.ptr l 0)
     ((T.set k ⟨2,[[.int .i64 4,Z7 0 4294967295]],ak⟩).set l ⟨2,[[.int .i64 8,a6F (IntKind.u8.wrap a)]],al⟩):=fun{k l _ _} nk nl ak al=>by
    obtain⟨ne,nl'⟩:=b8.fresh nl
    have nl2:(T.set k ⟨2,[[.int .i64 4,Z7 0 4294967295]],ak⟩) l=none:=by rw[b8.set_ne _ _ _ ne];exact nl'
    exact hfin nk nl' ((hd.new nk).new nl2) ((u7.new).set nl2) u7.new
   have hB:∀ {k l:Nat} {ak al:List AV},T k=none→(T.set k ⟨2,[[.int .i64 0, .nilFn]],ak⟩) l=none→∀ak al,s5 E w0 (i4 E (fun v S'=>∃t,v=c5c (E6 bs (p:Int)) t∧Grw S t ((E6 bs (p:Int)).1.2.2.2.map a0j) 2 S')) (.ptr k4 0) (.ptr k7 0) (.ptr k10 0) (.ptr l 0) (.ptr k 0)
     ((T.set k ⟨2,[[.int .i64 8,a6F (IntKind.u8.wrap a)]],ak⟩).set l ⟨2,[[.int .i64 4,Z7 0 4294967295]],al⟩):=fun{k l _ _} nk nl ak al=>by
    obtain⟨ne,nl'⟩:=b8.fresh nl
    have nl2:(T.set k ⟨2,[[.int .i64 8,a6F (IntKind.u8.wrap a)]],ak⟩) l=none:=by rw[b8.set_ne _ _ _ ne];exact nl'
    exact hfin nl' nk ((hd.new nk).new nl2) u7.new ((u7.new).set nl2)
   have l0:∀ {k:Nat} {o:D2},T k=none→(T.set k o) k7=T k7:=fun nk=>b8.set_ne _ _ _ (d7 nk)
   simp only[D8,oD,ld1,cvI]
   repeat' (refine And.intro ?_ ?_)
   all_goals (repeat (first|refine D9.use ?_|refine a0E.use ?_|refine⟨fwR _ _, ?_⟩|rw[a4a (b3s _ _),oD]|rw[a4a (c0I _),oD]))
   all_goals (intro k ak nk)
   all_goals (have f1:=l0 (o:=⟨2,[[.int .i64 0, .nilFn]],ak⟩) nk)
   all_goals (repeat (first|refine D9.use ?_|refine a0E.use ?_|rw[a4a (b3s _ _),oD]|rw[a4a (c0I _),oD]|refine⟨f1, ?_⟩))
   all_goals (intro l' al nl)
   all_goals (have f2:∀ {o:D2},((T.set k ⟨2,[[.int .i64 0, .nilFn]],ak⟩).set l' o) k7=T k7:=fun{o}=>by rw[b8.set_ne _ _ _ (d7 (b8.fresh nl).2)];exact f1)
   all_goals (have ne:k≠l':=Ne.symm (b8.fresh nl).1)
   all_goals (repeat (first|refine D9.use ?_|refine a0E.use ?_|rw[a4a (b3s _ _),oD]|rw[a4a (c0I _),oD]|refine⟨f2, ?_⟩))
   all_goals (first
    |refine stP (k:=k) (cs:=[.int .i64 0, .nilFn]) (b8.set_ne _ _ _ ne |>.trans (b8.set_same _ _ _)) (Q8 _) ⟨rfl,by decide,by simp⟩ fun a1=> ?_
    |refine stP (k:=l') (cs:=[.int .i64 0, .nilFn]) (b8.set_same _ _ _) (Q8 _) ⟨rfl,by decide,by simp⟩ fun a1=> ?_)
   all_goals (first
    |refine stP (k:=l') (cs:=[.int .i64 0, .nilFn]) ((b8.set_ne _ _ _ (Ne.symm ne)).trans (b8.set_same _ _ _)) (Q8 _) ⟨rfl,by decide,by simp⟩ fun a2=> ?_
    |refine stP (k:=k) (cs:=[.int .i64 0, .nilFn]) (((b8.set_ne _ _ _ ne).trans (b8.set_ne _ _ _ ne)).trans (b8.set_same _ _ _)) (Q8 _) ⟨rfl,by decide,by simp⟩ fun a2=> ?_)
   all_goals (first|rw[d6s _ ne]|rw[d6w _ ne])
   all_goals (first|exact hA (al:=al) nk nl _ _|exact hB (al:=al) nk nl _ _)
  ·have h49:¬op=49:=by simpa using h49
   have edX:b7p bs p=((op,a,b,[]),s):=by unfold b7p;rw[egd,if_neg h49,hgd, ←hfold]
   refine c9n hd.h4 hd.h7 hd.h10 rfl rfl fun S'' hS''=> ?_
   have hle:S.le S'':=fun i o e=>by rw[hS'' i (fun e'=>by rw[e',hd.n4]at e;cases e)];exact hd.le _ _ e
   refine i4.less hle (i4.here ⟨.nilSlc, ?_, ?_⟩)
   ·by_cases he:s.2=0
    ·rw[if_pos he,edT,edS,edX,if_neg (by simp[he])]
     unfold c5c;rw[he]
    ·rw[if_neg he,edT,edS,edX,if_pos (by simpa using he)];rfl
   ·rw[edT,edS,edX]
    by_cases he:s.2=0
    ·rw[if_neg (by simp[he])];exact Grw.nil _ _
    ·rw[if_pos (by simpa using he)];exact Grw.nil _ _
end
end Go.Proofs.Ytdkidgkiplcggaa.d
end
section
namespace Go.Am
def ob:D→List Nat
 | .raw k _ _ _ _ _=>[k]
 |_=>[]
section
variable{S T:b8}{av:List Nat}{t u:D}{rows rows':List (List D)}{sz sz':Nat}
theorem GrA.ob_some(h:GrA S av t rows sz T):∀j∈ob t,T j≠Option.none:=by
 rcases h with ⟨rfl,_⟩|⟨k,acs,_,_,rfl,h3⟩
 ·simp[ob]
 ·simp[ob,h3]
theorem GrA.ob_av(h:GrA S av t rows sz T):∀j∈ob t,j ∉ av:=by
 rcases h with ⟨rfl,_⟩|⟨k,acs,_,h1,rfl,_⟩
 ·simp[ob]
 ·simpa [ob]using h1
theorem GrA.apart(h:GrA S av t rows sz T){T':b8}{av':List Nat}(e:∀j∈ob t,T' j=T j)(ha:∀j∈ob t,j ∉ av'):GrA S av' t rows sz T':=by
 rcases h with h|⟨k,acs,h0,h1,rfl,h3⟩
 ·exact .inl h
 ·exact .inr ⟨k,acs,h0,ha k (by simp[ob]),rfl,by rw[e k (by simp[ob])];exact h3⟩
theorem i4.grA{E:j3}{Q:D→b8→Prop}{pre post:List D}(h:GrA S av t rows sz T)(hle:S.le T)(hQ:∀T',S.le T'→(∀j,j ∉ ob t→T' j=T j)→i4 E Q (.tup (pre++ .lst rows sz::post)) T'):i4 E Q (.tup (pre++t::post)) T:=by
 rcases h with ⟨rfl,rfl⟩|⟨k,acs,h0,h1,rfl,h3⟩
 ·exact i4.nilT (hQ T hle fun _ _=>rfl)
 ·refine i4.freezeT h3 rfl (by simp) (Nat.le_refl _) ?_
  simpa using hQ (T.erase k) (b8.le_erase hle h0) fun j hj=>b8.erase_ne _ _ (by simpa [ob]using hj)
def GrP(S:b8)(av:List Nat)(t:D)(rows:List (List D))(sz:Nat)(u:D)(rows':List (List D))(sz':Nat)(T:b8):Prop:=
 S.le T∧(∀j∈av,T j≠Option.none)∧GrA S (ob u++av) t rows sz T∧GrA S (ob t++av) u rows' sz' T
theorem GrP.nil:GrP S [] .nilSlc [] sz .nilSlc [] sz' S:=⟨b8.le_refl _,by simp,GrA.nil,GrA.nil⟩
theorem GrP.swap(h:GrP S av t rows sz u rows' sz' T):GrP S av u rows' sz' t rows sz T:=⟨h.1,h.2.1,h.2.2.2,h.2.2.1⟩
theorem GrP.push(h:GrP S av t rows sz u rows' sz' T){bytes:Nat}{v:D}{news:List (List D)}(hv:rowsS T sz v=some news)(hn:news≠[])(hb:0<bytes∧(2*(rows.length+news.length)+768)*bytes≤2^47){K:D→b8→Prop}
  (hK:∀t' T',(∀j∈av,T' j=T j)→GrP S av t' (rows++news) sz u rows' sz' T'→K t' T'):u9 T sz bytes t v K:=by
 obtain⟨h1,h2,h3,h4⟩:=h
 refine h3.push h1 (fun j hj=> ?_) hv hn hb fun t' T' hle he hg=>hK t' T' (fun j hj=>he j (List.mem_append_right _ hj)) ⟨hle,fun j hj=> ?_,hg, ?_⟩
 ·rcases List.mem_append.1 hj with hj|hj
  ·exact h4.ob_some j hj
  ·exact h2 j hj
 ·rw[he j (List.mem_append_right _ hj)];exact h2 j hj
 ·refine h4.apart (fun j hj=>he j (List.mem_append_left _ hj)) fun j hj hm=> ?_
  rcases List.mem_append.1 hm with hm|hm
  ·exact hg.ob_av j hm (List.mem_append_left _ hj)
  ·exact h4.ob_av j hj (List.mem_append_right _ hm)
theorem GrP.set(h:GrP S av t rows sz u rows' sz' T){l:Nat}{o:D2}(hl:T l=Option.none):GrP S av t rows sz u rows' sz' (T.set l o):=by
 obtain⟨h1,h2,h3,h4⟩:=h
 exact⟨b8.le_set h1 (b8.none_of h1 hl),fun j hj=>(by rw[b8.set_ne _ _ _ (fun e=>h2 j hj (by rw[e];exact hl))];exact h2 j hj),h3.set (.inr hl),h4.set (.inr hl)⟩
theorem GrP.more(h:GrP S av t rows sz u rows' sz' T){l:Nat}{o:D2}(hl:T l=Option.none):GrP S (l::av) t rows sz u rows' sz' (T.set l o):=by
 have hs:=h.set (o:=o) hl
 have n1:∀j∈ob t,j≠l:=fun j hj e=>h.2.2.1.ob_some j hj (e▸hl)
 have n2:∀j∈ob u,j≠l:=fun j hj e=>h.2.2.2.ob_some j hj (e▸hl)
 refine⟨hs.1,fun j hj=> ?_,hs.2.2.1.apart (fun _ _=>rfl) fun j hj hm=> ?_,hs.2.2.2.apart (fun _ _=>rfl) fun j hj hm=> ?_⟩
 ·rcases List.mem_cons.1 hj with rfl|hj
  ·rw[b8.set_same];simp
  ·exact hs.2.1 j hj
 ·rcases List.mem_append.1 hm with hm|hm
  ·exact hs.2.2.1.ob_av j hj (List.mem_append_left _ hm)
  ·rcases List.mem_cons.1 hm with rfl|hm
   ·exact n1 _ hj rfl
   ·exact hs.2.2.1.ob_av j hj (List.mem_append_right _ hm)
 ·rcases List.mem_append.1 hm with hm|hm
  ·exact hs.2.2.2.ob_av j hj (List.mem_append_left _ hm)
  ·rcases List.mem_cons.1 hm with rfl|hm
   ·exact n2 _ hj rfl
   ·exact hs.2.2.2.ob_av j hj (List.mem_append_right _ hm)
theorem GrP.fin{E:j3}{Q:D→b8→Prop}{post:List D}(h:GrP S av t rows sz u rows' sz' T)(hQ:i4 E Q (.tup (.lst rows sz:: .lst rows' sz'::post)) S):i4 E Q (.tup (t::u::post)) T:=by
 obtain⟨h1,h2,h3,h4⟩:=h
 refine i4.grA (pre:=[]) h3 h1 fun T' hle he=> ?_
 have h4':GrA S (ob t++av) u rows' sz' T':=h4.apart (fun j hj=>he j fun hm=>h3.ob_av j hm (List.mem_append_left _ hj)) fun j hj hm=>h4.ob_av j hj hm
 exact i4.grA (pre:=[.lst rows sz]) h4' hle fun T2 hle2 _=>i4.less hle2 hQ
end
end Go.Am
end
section
open Go.Proofs Go Go.Am Go.Op
namespace Go.Proofs.Ytdkidgkiplcggaa.d
section
section
variable{E:j3}{w0:j8}
theorem d2B(m:Mo):(K5 m)[0]? =some (a8S m.types)∧(K5 m)[1]? =some (b0c m.texts)∧(K5 m)[2]? =some (a5s m.funcs):=⟨rfl,rfl,rfl⟩
theorem b6n{b:Bool}{s N:Int}{K:D→Prop}(h:K (.bool (b&&decide (s≤N)))):b7 (d9 (d6 (.bool b) true) (some (.int .i64 s))) fun v17=>b7 (d9 (d6 (.bool b) true) (some (.int .i64 N))) fun v18=>b7 (d9 (d6 (.bool b) true) (i5 .leq v17 v18)) fun v19=>b7 (q7 (.bool b) v19 (.bool false)) fun v20=>K v20:=by
 cases b<;>simpa using h
structure Mo.Small (m:Mo) (N:Nat):Prop where
 types:m.types.length≤N
 texts:m.texts.length≤N
 funcs:m.funcs.length≤N
 fields:∀t∈m.types,t.fields.length≤N
 params:∀r∈m.funcs,r.params.length≤N∧r.results.length≤N∧r.code.length≤N
theorem c7r{m:Mo}(hm:m.Ok){N:Nat}(hN:N<2^40){S:b8}:l8 Try.prog E w0 a8Q [moD m, .int .i64 (N:Int)] S fun d S'=>S'=S∧∃b:Int,d= .int .i64 b∧(b≤N→m.Small N):=by
 refine c2p ?_
 unfold b9X
 rw[moD,Q8,oD]
 intro k c n
 have h0:(S.set k ⟨3,[K5 m],c⟩) k=some ⟨3,[K5 m],c⟩:=b8.set_same _ _ _
 have hle:S.le (S.set k ⟨3,[K5 m],c⟩):=b8.le_new n
 have e3:(K5 m).length=3:=rfl
 rw[e3]
 generalize S.set k ⟨3,[K5 m],c⟩=S3 at h0 hle ⊢
 obtain⟨xa0,xa1,xa2⟩:=d2B m
 have:=hm.types;have:=hm.texts;have:=hm.funcs
 simp only[D8,oD,ldP h0,Nat.zero_add,xa0,xa1,xa2,a6h,a8a,a4p,D5]
 rw[show IntKind.i64.wrap ((m.types.length:Int)+m.texts.length)=_ from l7 (by omega) (by omega),show IntKind.i64.wrap ((m.types.length:Int)+m.texts.length+m.funcs.length)=_ from l7 (by omega) (by omega)]
 refine b8n (I:=fun n x1 x2 x5 x6 S'=>S3=S'∧x1= .int .i64 (N:Int)∧x2= .ptr k 0∧∃(i:Nat) (s:Int),x6= .int .i64 (i:Int)∧x5= .int .i64 s∧i+n=m.types.length∧m.types.length≤s∧m.texts.length≤s∧m.funcs.length≤s∧s<2^50∧∀t∈m.types.take i,(t.fields.length:Int)≤s) ?_ (n:=m.types.length)
  ⟨rfl,rfl,rfl,0,_,rfl,rfl,by omega,by omega,by omega,by omega,by omega,by simp⟩
 rintro n _ _ _ _ _ ⟨rfl,rfl,rfl,i,s,rfl,rfl,hi,s1,s2,s3,s4,hs⟩
 unfold a8u
 simp only[D8,oD,ldP h0,Nat.zero_add,xa0,a6h,H6]
 refine b6n ?_
 rw[←Bool.decide_and,K0]
 refine⟨fun⟨hlt,hsN⟩=> ?_,fun hge=> ?_⟩
 ·have hlt:i<m.types.length:=by omega
  obtain⟨t,ht⟩:∃t,t=m.types[i]:=⟨_,rfl⟩
  have ea:m.types[i]? =some t:=by rw[List.getElem?_eq_getElem hlt,ht]
  have htk:=hm.ty t (by rw[ht];exact List.getElem_mem _)
  have l1:=htk.name
  have l2:=htk.fields
  simp only[b4F ea,oD,ofE,lsE,show(V0 t)[0+1]? =some (.str t.name) from rfl,show(V0 t)[0+2]? =some (a2N t.fields) from rfl,show(V0 t)[1]? =some (.str t.name) from rfl,show(V0 t)[2]? =some (a2N t.fields) from rfl,Nat.zero_add,lnS,a1c,D5]
  rw[show IntKind.i64.wrap (s+t.name.length)=_ from l7 (by omega) (by omega),show IntKind.i64.wrap (s+t.name.length+t.fields.length)=_ from l7 (by omega) (by omega)]
  refine b9b (I:=fun n' x1 x2 x5 x6 x7 S'=>S3=S'∧x1= .int .i64 (N:Int)∧x2= .ptr k 0∧x6= .int .i64 (i:Int)∧∃(j:Nat) (q:Int),x7= .int .i64 (j:Int)∧x5= .int .i64 q∧j+n'=t.fields.length∧s≤q∧t.fields.length≤q∧q<2^50) ?_ (n:=t.fields.length)
   ⟨rfl,rfl,rfl,rfl,0,_,rfl,rfl,by omega,by omega,by omega,by omega⟩
  rintro n' _ _ _ _ _ _ ⟨rfl,rfl,rfl,rfl,j,q,rfl,rfl,hj,q1,q2,q3⟩
  unfold a8m
  simp only[D8,oD,ldP h0,Nat.zero_add,xa0,b4F ea,ofE,lsE,show(V0 t)[2]? =some (a2N t.fields) from rfl,a1c,H6]
  refine b6n ?_
  rw[←Bool.decide_and,K0]
  refine⟨fun⟨hlt',hqN⟩=> ?_,fun hge=> ?_⟩
  ·have hlt':j<t.fields.length:=by omega
   obtain⟨f,hf⟩:∃f,f=t.fields[j]:=⟨_,rfl⟩
   have eb:t.fields[j]? =some f:=by rw[List.getElem?_eq_getElem hlt',hf]
   have l3:=(htk.names f (by rw[hf];exact List.getElem_mem _)).1
   simp only[b0Y eb,oD,ofE,lsE,Nat.zero_add,show(a1a f)[0]? =some (.str f.1) from rfl,lnS,D5]
   rw[show IntKind.i64.wrap (q+f.1.length)=_ from l7 (by omega) (by omega),show IntKind.i64.wrap ((j:Int)+1)=_ from l7 (by omega) (by omega)]
   exact⟨n' - 1,by omega,by trivial,by trivial,by trivial,by trivial,j+1,_,rfl,rfl,by omega,by omega,by omega,by omega⟩
  ·rw[D5,oD,l7 (by omega) (by omega)]
   refine⟨n - 1,by omega,by trivial,by trivial,by trivial,i+1,q,rfl,rfl,by omega,by omega,by omega,by omega,by omega,fun t' ht'=> ?_⟩
   rw[List.take_add_one,ea,Option.toList_some]at ht'
   rcases List.mem_append.1 ht' with h|h
   ·have:=hs t' h;omega
   ·rw[List.mem_singleton.1 h];exact q2
 have hs:s≤N→∀t∈m.types,(t.fields.length:Int)≤s:=fun h=>by
  have:i=m.types.length:=by
   by_cases c:i<m.types.length
   ·exact(hge ⟨by omega,h⟩).elim
   ·omega
  rw[this,List.take_length]at hs
  exact hs
 clear hge hi
 refine b8Z (I:=fun n x1 x2 x5 x6 S'=>S3=S'∧x1= .int .i64 (N:Int)∧x2= .ptr k 0∧∃(i:Nat) (q:Int),x6= .int .i64 (i:Int)∧x5= .int .i64 q∧i+n=m.texts.length∧s≤q∧q<2^50) ?_ (n:=m.texts.length)
  ⟨rfl,rfl,rfl,0,_,rfl,rfl,by omega,by omega,by omega⟩
 rintro n _ _ _ _ _ ⟨rfl,rfl,rfl,i,q,rfl,rfl,hi,q1,q2⟩
 unfold a9a
 simp only[D8,oD,ldP h0,Nat.zero_add,xa1,a8a,H6]
 refine b6n ?_
 rw[←Bool.decide_and,K0]
 refine⟨fun⟨hlt,hsN⟩=> ?_,fun hge=> ?_⟩
 ·have hlt:i<m.texts.length:=by omega
  obtain⟨t,ht⟩:∃t,t=m.texts[i]:=⟨_,rfl⟩
  have ea:m.texts[i]? =some t:=by rw[List.getElem?_eq_getElem hlt,ht]
  have l1:=hm.tx t (by rw[ht];exact List.getElem_mem _)
  simp only[c4B ea,oD,lsE,List.getElem?_cons_zero,lnS,D5]
  rw[show IntKind.i64.wrap (q+t.length)=_ from l7 (by omega) (by omega),show IntKind.i64.wrap ((i:Int)+1)=_ from l7 (by omega) (by omega)]
  exact⟨n - 1,by omega,by trivial,by trivial,by trivial,i+1,_,rfl,rfl,by omega,by omega,by omega⟩
 clear hge hi
 refine b8l (I:=fun n x1 x2 x5 x6 S'=>S3.le S'∧x1= .int .i64 (N:Int)∧x2= .ptr k 0∧∃(i:Nat) (p:Int),x6= .int .i64 (i:Int)∧x5= .int .i64 p∧i+n=m.funcs.length∧q≤p∧p<2^50∧∀r∈m.funcs.take i,(r.params.length:Int)≤p∧r.results.length≤p∧r.code.length≤p) ?_ (n:=m.funcs.length)
  ⟨b8.le_refl _,rfl,rfl,0,_,rfl,rfl,by omega,by omega,by omega,by simp⟩
 rintro n _ _ _ _ S4 ⟨hle4,rfl,rfl,i,p,rfl,rfl,hi,p1,p2,hp⟩
 have h04:=hle4 _ _ h0
 unfold a9D
 simp only[D8,oD,ldP h04,Nat.zero_add,xa2,a4p,H6]
 refine b6n ?_
 rw[←Bool.decide_and,K0]
 refine⟨fun⟨hlt,hsN⟩=> ?_,fun hge=> ?_⟩
 ·have hlt:i<m.funcs.length:=by omega
  obtain⟨r,hr⟩:∃r,r=m.funcs[i]:=⟨_,rfl⟩
  have ea:m.funcs[i]? =some r:=by rw[List.getElem?_eq_getElem hlt,hr]
  have hrk:=hm.ro r (by rw[hr];exact List.getElem_mem _)
  have l1:=hrk.name;have l2:=hrk.params;have l3:=hrk.results;have l4:=hrk.code
  simp only[a9c ea,oD,d4f]
  intro k5 a5 n5
  refine stP (ds:=K1 r) (b8.set_same _ _ _) (Q8 _) ⟨rfl,by decide,by simp[K1]⟩ fun a6=> ?_
  rw[b8.set_set]
  have h5:∀j,c9 (S4.set k5 ⟨[D.str [], .nilSlc, .nilSlc, .int .i64 0, .int .i64 0, .nilSlc].length,[j9 [D.str [], .nilSlc, .nilSlc, .int .i64 0, .int .i64 0, .nilSlc] 0 (K1 r)],a6⟩) (.ptr k5 j)=(K1 r)[j]? :=fun j=>ldP (b8.set_same _ _ _)
  simp only[D8,oD,h5,Nat.zero_add,show(K1 r)[0]? =some (.str r.name) from rfl,show(K1 r)[1]? =some (iD r.params) from rfl,show(K1 r)[2]? =some (iD r.results) from rfl,show(K1 r)[5]? =some (bD r.code) from rfl,lnS,Y7,a1M,D5]
  rw[show IntKind.i64.wrap (p+r.name.length)=_ from l7 (by omega) (by omega),show IntKind.i64.wrap (p+r.name.length+r.params.length)=_ from l7 (by omega) (by omega),show IntKind.i64.wrap (p+r.name.length+r.params.length+r.results.length)=_ from l7 (by omega) (by omega),show IntKind.i64.wrap (p+r.name.length+r.params.length+r.results.length+r.code.length)=_ from l7 (by omega) (by omega),show IntKind.i64.wrap ((i:Int)+1)=_ from l7 (by omega) (by omega)]
  refine⟨n - 1,by omega,b8.le_trans hle4 (b8.le_new n5),by trivial,by trivial,i+1,_,rfl,rfl,by omega,by omega,by omega,fun r' hr'=> ?_⟩
  rw[List.take_add_one,ea,Option.toList_some]at hr'
  rcases List.mem_append.1 hr' with h|h
  ·have:=hp r' h;omega
  ·rw[List.mem_singleton.1 h];omega
 ·refine i4.less (b8.le_trans hle hle4) (i4.here ⟨rfl,p,rfl,fun hpN=> ?_⟩)
  have:i=m.funcs.length:=by
   by_cases c:i<m.funcs.length
   ·exact(hge ⟨by omega,hpN⟩).elim
   ·omega
  rw[this,List.take_length]at hp
  exact⟨by omega,by omega,by omega,fun t ht=>by have:=hs (by omega) t ht;omega,fun r hr=>by have:=hp r hr;omega⟩
end
end
section
@[simp] theorem d4H(S:b8)(l:List (Tx×Int)):rowsS S 2 (a2N l)=some (l.map a1a):=by simp[a2N,rowsS,K3]
@[simp] theorem d5u(S:b8)(l:List Tx):rowsS S 1 (b0c l)=some (C6 (l.map D.str)):=by simp[b0c,rowsS,K3]
theorem Grw.cells{S0 S:b8}{t:D}{rows:List (List D)}{sz:Nat}(g:Grw S0 t rows sz S):o5 t=some [t]:=by rcases g with ⟨rfl,_⟩|⟨_,_,_,rfl,_⟩<;>rfl
structure Mo.Fits (m:Mo):Prop where
 ok:m.Ok
 types:m.types.length<2^30
 texts:m.texts.length<2^30
 funcs:m.funcs.length<2^30
 fields:∀t∈m.types,t.fields.length<2^30
 params:∀r∈m.funcs,r.params.length<2^30∧r.results.length<2^30∧r.code.length<2^30
section
variable{E:j3}{w0:j8}
end
end
section
def U1(P:Program)(E:j3)(w0:j8)(f:FuncId)(ds:List D)(d:D):Prop:=∀S,l8 P E w0 f ds S fun d' S'=>d'=d∧S'=S
theorem U1.use{P:Program}{E:j3}{w0:j8}{f:FuncId}{ds:List D}{d:D}(h:U1 P E w0 f ds d){S:b8}{K:D→b8→Prop}(hk:K d S):l8 P E w0 f ds S K:=(h S).use fun d' S' ⟨a,b⟩=>by subst a b;exact hk
section
variable{E:j3}{w0:j8}
end
end
section
def b2K(d:Dat):In:=⟨d.1,d.2.1,d.2.2.1,d.2.2.2⟩
theorem d1d(d:Dat):(b2K d).dat=d:=rfl
def b5J(l:List In):D:= .lst (l.map O2) 4
def d3i(r:Dat×(Nat×Int)):D:= .tup [inD (b2K r.1), .int .i64 (r.2.1:Int), .int .i64 r.2.2]
def a2W(l:List (Dat×Nat)):List In:=l.map fun x=>b2K x.1
def a0f(l:List (Dat×Nat)):List Int:=l.map fun x=>(x.2:Int)
def d5J(r:Except Int (List (Dat×Nat))):D:=match r with
 | .ok l=> .tup [b5J (a2W l),iD (a0f l), .int .i64 0]
 | .error e=> .tup [b5J [],iD [], .int .i64 e]
abbrev a6D(bs:List Int):Except Int (List (Dat×Nat)):=b0m bs (bs.length+1) 0
theorem b2g{bs:List Int}{n p:Nat}(hp:p<bs.length):b0m bs (n+1) p=if(E6 bs p).2.2=0 then(match b0m bs n (E6 bs p).2.1 with| .ok l=> .ok (((E6 bs p).1,p)::l)| .error e=> .error e) else .error (E6 bs p).2.2:=by
 rw[b0m,if_neg (by omega)]
 all_goals rfl
theorem d0B{done:List (Dat×Nat)}{x:Dat×Nat}(r:Except Int (List (Dat×Nat))):d0D done (match r with| .ok l=> .ok (x::l)| .error e=> .error e)=d0D (done++[x]) r:=by
 cases r with
 |error e=>rfl
 |ok l=>simp[d0D]
theorem c1m{bs:List Int}(hb:∀b∈bs,a0J b){p:Nat}(h:(E6 bs (p:Int)).2.2=0):(b2K (E6 bs p).1).Ok∧p<(E6 bs p).2.1∧(E6 bs p).2.1≤bs.length:=by
 obtain⟨_,_,h3,_,hsg,hnx⟩:=d2K hb h (d1d _)
 rw[Int.toNat_natCast]at hnx hsg
 have:=d3y (b2K (E6 bs p).1)
 have:=hsg.1
 exact⟨h3,by omega,by omega⟩
section
variable{E:j3}{w0:j8}
theorem c9W{k sz:Nat}{rows:List (List D)}{acs:List AV}:Am.frz k ⟨sz,rows,acs⟩ (.raw k 0 rows.length rows.length false sz)= .lst rows sz:=by
 rw[c9E (by omega) (Nat.le_refl _),List.drop_zero,List.take_length]
theorem c2Y{bs:List Int}(hb:∀b∈bs,a0J b)(hl:bs.length<2^30){n:Int}:U1 Try.prog E w0 a4W [bD bs, .int .i64 n] (d3i (E6 bs n)):=fun S=>
 (c0O hb hl).fin fun v S' ⟨t,ev,g⟩=>by
  subst ev
  rcases g with ⟨rfl,e,rfl⟩|⟨k,acs,h0,rfl,rfl⟩
  ·refine i4.weak (d':=d3i (E6 bs n)) ?_ i4.pure
   refine Wk.tup ⟨Wk.agg ⟨Wk.refl _,Wk.refl _,Wk.refl _, ?_,trivial⟩,Wk.refl _,Wk.refl _,trivial⟩
   have:b3T (b2K (E6 bs n).1).arms= .lst [] 2:=by unfold b3T;rw[show(b2K (E6 bs n).1).arms=(E6 bs n).1.2.2.2 from rfl,e]
   rw[this]
   exact Wk.nil 2
  ·refine i4.frz h0 ?_
   have:Am.frz k ⟨2,(E6 bs n).1.2.2.2.map a0j,acs⟩ (c5c (E6 bs n) (.raw k 0 ((E6 bs n).1.2.2.2.map a0j).length ((E6 bs n).1.2.2.2.map a0j).length false 2))=d3i (E6 bs n):=by
    have e:∀(o:D2) (a b c d e:Int) (tt:D),Am.frz k o (.tup [.agg [.int .u8 a, .int .i64 b, .int .i64 c,tt], .int .i64 d, .int .i64 e])= .tup [.agg [.int .u8 a, .int .i64 b, .int .i64 c,Am.frz k o tt], .int .i64 d, .int .i64 e]:=by
     intros;simp only[Am.frz,Am.b8X]
    unfold c5c a0H
    rw[e,c9W]
    rfl
   rw[this]
   exact i4.pure
def d4i(S:b8)(r:Except Int (List (Dat×Nat)))(v:D)(T:b8):Prop:=match r with
 | .ok l=>∃t u,v= .tup [t,u, .int .i64 0]∧GrP S [] t ((a2W l).map O2) 4 u (iC (a0f l)) 1 T
 | .error e=>v= .tup [.nilSlc, .nilSlc, .int .i64 e]∧T=S
theorem b7V{bs:List Int}(hb:∀b∈bs,a0J b)(hl:bs.length<2^30){S:b8}:l8 Try.prog E w0 a5k [bD bs] S (d4i S (a6D bs)):=by
 refine c3Y ?_
 unfold c3M
 refine c0r (I:=fun n x0 x5 x6 x7 T=>x0=bD bs∧∃(p:Nat) (done:List (Dat×Nat)),x7= .int .i64 (p:Int)∧p≤bs.length∧bs.length<p+n∧done.length≤p∧GrP S [] x5 ((a2W done).map O2) 4 x6 (iC (a0f done)) 1 T∧a6D bs=d0D done (b0m bs n p)) ?_ (n:=bs.length+1)
  ⟨rfl,0,[],rfl,by omega,by omega,by simp,GrP.nil,by unfold a6D;cases b0m bs (bs.length+1) 0<;>rfl⟩
 rintro n _ x5 x6 _ T ⟨rfl,p,done,rfl,hp,hpn,hdl,hg,hrun⟩
 unfold b0X
 rw[a1M,oD,H6,oD,K0]
 obtain⟨n,rfl⟩:∃m,n=m+1:=⟨n - 1,by omega⟩
 refine⟨fun hlt=> ?_,fun hge=> ?_⟩
 ·have hlt:p<bs.length:=by omega
  rw[b2g hlt]at hrun
  refine(c2Y hb hl).use ?_
  unfold d3i
  simp only[exD,List.getElem?_cons_zero,List.getElem?_cons_succ,oD]
  intro k a nk
  refine(u7.new (sz:=4) (c:=[.int .u8 0, .int .i64 0, .int .i64 0, .nilSlc])).st (ds:=O2 (b2K (E6 bs p).1)) (Q8 _) ⟨rfl,by decide,by decide⟩ fun a'=> ?_
  rw[b8.set_set,show j9 [.int .u8 0, .int .i64 0, .int .i64 0, .nilSlc] 0 (O2 (b2K (E6 bs p).1))=O2 (b2K (E6 bs p).1) from rfl,c2K,oD,d2P,K0]
  have hg2:=hg.set (o:=⟨4,[O2 (b2K (E6 bs p).1)],a'⟩) nk
  refine⟨fun he=> ?_,fun he=> ?_⟩
  ·rw[if_neg he]at hrun
   rw[hrun]
   exact i4.less hg2.1 (i4.here ⟨rfl,rfl⟩)
  ·have he:(E6 bs p).2.2=0:=Classical.not_not.1 he
   obtain⟨_,h1,h2⟩:=c1m hb he
   rw[if_pos he,d0B]at hrun
   rw[(u7.new).all (n:=4) (by decide) rfl,oD,show m9 4 (List.replicate 1 [(D.int .u8 0),(.int .i64 0),(.int .i64 0), .nilSlc]) [(0, .agg (O2 (b2K (E6 bs p).1)))]=some [O2 (b2K (E6 bs p).1)]from rfl]
   refine F3 rfl ?_
   refine hg2.push (news:=[O2 (b2K (E6 bs p).1)]) (by simp[rowsS,K3]) (by simp) (by simp[a2W];omega) fun t' T' _ hg3=> ?_
   rw[show m9 1 (List.replicate 1 [D.int .i64 0]) [(0, .int .i64 (p:Int))]=some (iC [(p:Int)]) from rfl]
   refine F3 rfl ?_
   refine hg3.swap.push (news:=iC [(p:Int)]) (by simp[rowsS,K3]) (by simp[iC,C6]) (by simp[a0f];omega) fun u' T2 _ hg4=> ?_
   refine⟨n,by omega,by trivial,(E6 bs p).2.1,done++[((E6 bs p).1,p)],rfl,h2,by omega,by simp;omega, ?_,hrun⟩
   have e1:(a2W (done++[((E6 bs p).1,p)])).map O2=(a2W done).map O2++[O2 (b2K (E6 bs p).1)]:=by simp[a2W]
   have e2:iC (a0f (done++[((E6 bs p).1,p)]))=iC (a0f done)++iC [(p:Int)]:=by rw[←a3A];simp[a0f]
   rw[e1,e2]
   exact hg4.swap
 ·have e0:b0m bs (n+1) p= .ok []:=by rw[b0m,if_pos (by omega)]
  rw[e0]at hrun
  rw[hrun]
  have:d0D done (.ok [])= .ok done:=by simp[d0D]
  rw[this]
  exact i4.here ⟨_,_,rfl,hg⟩
theorem c8c{bs:List Int}(hb:∀b∈bs,a0J b)(hl:bs.length<2^30):U1 Try.prog E w0 a5k [bD bs] (d5J (a6D bs)):=fun S=>
 (b7V hb hl).fin fun v T h=>by
  cases hr:a6D bs with
  |error e=>
   rw[hr]at h
   obtain⟨rfl,rfl⟩:=h
   exact i4.weak (d':= .tup [b5J [],iD [], .int .i64 e]) (Wk.tup ⟨Wk.nil 4,Wk.nil 1,Wk.refl _,trivial⟩) i4.pure
  |ok l=>
   rw[hr]at h
   obtain⟨t,u,rfl,hg⟩:=h
   exact hg.fin i4.pure
end
theorem c1k{bs:List Int}(hb:∀b∈bs,a0J b):∀(n p:Nat) (l:List (Dat×Nat)),b0m bs n p= .ok l→p≤bs.length→l.length+p≤bs.length∧∀x∈l,(b2K x.1).Ok
 |0,p,l,h,hp=>by cases h;exact⟨by simpa using hp,by simp⟩
 |n+1,p,l,h,hp=>by
  by_cases hlt:p<bs.length
  ·rw[b2g hlt]at h
   split at h
   ·rename_i he
    obtain⟨h1,h2,h3⟩:=c1m hb he
    split at h
    ·rename_i l' e
     cases h
     obtain⟨g1,g2⟩:=c1k hb n _ l' e h3
     refine⟨by simp only[List.length_cons];omega,fun x hx=> ?_⟩
     rcases List.mem_cons.1 hx with rfl|hx
     ·exact h1
     ·exact g2 x hx
    ·cases h
   ·cases h
  ·have e0:b0m bs (n+1) p= .ok []:=by rw[b0m,if_pos (by omega)]
   rw[e0]at h
   cases h
   exact⟨by simpa using hp,by simp⟩
def a7K(r:Except Int (List (Dat×Nat))):List In×List Int×Int:=match r with
 | .ok l=>(a2W l,a0f l,0)
 | .error e=>([],[],e)
theorem d3z(r:Except Int (List (Dat×Nat))):d5J r= .tup [b5J (a7K r).1,iD (a7K r).2.1, .int .i64 (a7K r).2.2]:=by cases r<;>rfl
theorem d3x{bs:List Int}(hb:∀b∈bs,a0J b):(∀y∈(a7K (a6D bs)).1,y.Ok)∧(a7K (a6D bs)).1.length≤bs.length∧(a7K (a6D bs)).2.1.length≤bs.length:=by
 cases h:a6D bs with
 |error e=>exact⟨by simp[a7K],by simp[a7K],by simp[a7K]⟩
 |ok l=>
  obtain⟨h1,h2⟩:=c1k hb _ 0 l h (Nat.zero_le _)
  refine⟨fun y hy=> ?_,by simp[a7K,a2W];omega,by simp[a7K,a0f];omega⟩
  obtain⟨x,hx,rfl⟩:=List.mem_map.1 hy
  exact h2 x hx
end
end Go.Proofs.Ytdkidgkiplcggaa.d
end
