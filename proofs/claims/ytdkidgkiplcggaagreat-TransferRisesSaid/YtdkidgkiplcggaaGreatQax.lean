/-
  TransferRisesSaid: part Qax of its proof.
-/
import Derived.Test.YtdkidgkiplcggaaGreatQaw
import Derived.Test.YtdkidgkiplcggaaGreatQau
import Derived.Test.YtdkidgkiplcggaaGreatQav
set_option linter.unusedVariables false
set_option linter.unusedSimpArgs false
set_option maxRecDepth 100000
section
open Go.Proofs Go Go.Am Go.Op
namespace Go.Proofs.YtdkidgkiplcggaaGreat.d
section
variable{E:j2}{w0:j9}
theorem d8S(T:b8){k l:Nat}(h:k≠l)(z z' A B:D5):(((T.set k z).set l z').set k A).set l B=(T.set k A).set l B:=by
 rw[b8.set_in _ h,b8.set_set]
theorem d9j(T:b8){k l:Nat}(h:k≠l)(z z' A B:D5):(((T.set k z).set l z').set l B).set k A=(T.set k A).set l B:=by
 rw[b8.set_set,b8.set_in _ h]
theorem d0h{bs:List Int}{j:Nat}{a b:Int}{s:Nat×Int}{f:Fld}{l:List Fld}(h:l[j]? =some f):c1E bs j a b s (l.drop j)=c1E bs (j+1) (if j=0 then(G7 bs f s).1 else a) (if j=0 then b else(G7 bs f s).1) (G7 bs f s).2 (l.drop (j+1)):=by
 obtain⟨hj,rfl⟩:=List.getElem?_eq_some_iff.1 h
 rw[List.drop_eq_getElem_cons hj,c1E]
theorem c1B{bs:List Int}(hb:∀b∈bs,a1m b)(hl:bs.length<2^30){n:Int}{S:b8}:j8 Tryz.prog E w0 a5H [bD bs, .int .i64 n] S fun v S'=>∃t,v=c6B (F8 bs n) t∧Grw S t ((F8 bs n).1.2.2.2.map a0J) 2 S':=by
 refine c0B ?_
 unfold b6p
 intro k4 a4 n4
 have h4:u9 (S.set k4 ⟨4,[zC],a4⟩) k4 4 zC:=u9.new
 change b7 _ _
 have le4:S.le (S.set k4 ⟨4,[zC],a4⟩):=b8.le_new n4
 by_cases hn:n<0∨n≥bs.length
 ·have e:F8 bs n=(d0v,(0,2)):=by unfold F8;rw[if_pos hn]
  have fin:(b7 (E1 (r6 [(D.int .u8 0),(.int .i64 0),(.int .i64 0), .nilSlc] [])) fun v8=>i7 (S.set k4 ⟨4,[zC],a4⟩) 4 (.ptr k4 0) v8 fun v9 S10=>b7 (i5 S10 4 (.ptr k4 0)) fun v11=>d9 E (fun v S'=>∃t,v=c6B (F8 bs n) t∧Grw S t ((F8 bs n).1.2.2.2.map a0J) 2 S') (.tup [v11,(.int .i64 0),(.int .i64 2)]) S10):=by
   rw[fiN,agS,oD]
   refine h4.st (U9 _) ⟨rfl,by decide,by decide⟩ fun a=> ?_
   rw[(u9.new).all (n:=4) (by decide) rfl,oD,b8.set_set]
   refine d9.drop n4 (d9.here ⟨.nilSlc, ?_, ?_⟩)
   ·rw[e];rfl
   ·rw[e];exact Grw.nil _ _
  rw[H7,oD]
  by_cases h1:n<0
  ·rw[decide_eq_true h1]
   simp only[M4,vdF,oD,M8,if_true,cdT,show((true==false)=false) from rfl]
   exact fin
  ·have h2:decide (n≥(bs.length:Int))=true:=decide_eq_true (hn.resolve_left h1)
   rw[decide_eq_false h1]
   simp only[M4,vdT,oD,M8,Bool.false_eq_true,if_false,a2C,a8S,h2,cdT,show((false==false)=true) from rfl]
   exact fin
 have hn0:¬n<0:=fun h=>hn (.inl h)
 have hn1:¬n≥(bs.length:Int):=fun h=>hn (.inr h)
 obtain⟨p,rfl⟩:∃p:Nat,n=(p:Int):=⟨n.toNat,by omega⟩
 have hp:p<bs.length:=by omega
 have edT:F8 bs (p:Int)=c4O bs p:=by unfold F8;rw[if_neg hn];rfl
 obtain⟨op,hop⟩:∃op,op=bs[p]:=⟨_,rfl⟩
 have hj:bs[p]? =some op:=by rw[List.getElem?_eq_getElem hp,hop]
 have hbop:a1m op:=hb op (by rw[hop];exact List.getElem_mem _)
 have egd:bs.getD p 0=op:=by rw[List.getD_eq_getElem?_getD,hj];rfl
 rw[H7,oD,decide_eq_false hn0]
 simp only[M4,vdT,oD,M8,Bool.false_eq_true,if_false,a2C,a8S,decide_eq_false hn1,cdF,show((false==false)=true) from rfl]
 rw[d1J hj,oD,lsE,List.getElem?_cons_zero,oD]
 have hag:E1 (r6 [(D.int .u8 0),(.int .i64 0),(.int .i64 0), .nilSlc] [(0,1, .int .u8 op)])=some (.agg (a1r op 0 0 .nilSlc)):=rfl
 rw[hag,oD]
 intro k7 a7 n7
 have d47:k4≠k7:=h4.none n7
 have n7':S k7=none:=b8.none_of le4 n7
 have h7z:u9 ((S.set k4 ⟨4,[zC],a4⟩).set k7 ⟨4,[zC],a7⟩) k7 4 zC:=u9.new
 refine h7z.st (ds:=a1r op 0 0 .nilSlc) (U9 _) ⟨rfl,by decide,by decide⟩ fun a7=> ?_
 rw[b8.set_set,show l7 zC 0 (a1r op 0 0 .nilSlc)=a1r op 0 0 .nilSlc from rfl]
 have h7:u9 ((S.set k4 ⟨4,[zC],a4⟩).set k7 ⟨4,[a1r op 0 0 .nilSlc],a7⟩) k7 4 (a1r op 0 0 .nilSlc):=u9.new
 have h4':=h4.set (o:=⟨4,[a1r op 0 0 .nilSlc],a7⟩) n7
 have le7:S.le ((S.set k4 ⟨4,[zC],a4⟩).set k7 ⟨4,[a1r op 0 0 .nilSlc],a7⟩):=b8.le_set le4 n7'
 generalize (S.set k4 ⟨4,[zC],a4⟩).set k7 ⟨4,[a1r op 0 0 .nilSlc],a7⟩=T7 at*
 rw[E2,oD,h7.ld,show(a1r op 0 0 .nilSlc)[0+0]? =some (.int .u8 op) from rfl,oD]
 refine b4B.use ?_
 simp only[exD,List.getElem?_cons_zero,List.getElem?_cons_succ,oD,unN]
 cases hlay:lay op with
 |none=>
  rw[show(!(none:Option (List Fld)).isSome)=true from rfl,cdT,fiN,agS,oD]
  have e:F8 bs (p:Int)=(d0v,(0,120)):=by rw[edT];unfold c4O;rw[egd,if_pos hlay]
  refine h4'.st (U9 _) ⟨rfl,by decide,by decide⟩ fun a=> ?_
  rw[(u9.new).all (n:=4) (by decide) rfl,oD]
  refine d9.less (b8.le_set le7 n4) (d9.here ⟨.nilSlc, ?_, ?_⟩)
  ·rw[e];rfl
  ·rw[e];exact Grw.nil _ _
 |some l=>
 rw[show(!(some l).isSome)=false from rfl,cdF,D7,oD,l8 (by omega) (by omega)]
 have hag2:E1 (r6 [.nilSlc,(D.int .i64 0),(.int .i64 0)] [(0,1,bD bs),(1,1, .int .i64 ((p:Int)+1))])=some (.agg (rdC bs (p+1,0))):=rfl
 rw[hag2,oD,U9,oD]
 intro k10 a10 n10
 have hst:a1c S k4 k7 k10 (a1r op 0 0 .nilSlc) bs (p+1,0) (T7.set k10 ⟨3,[rdC bs (p+1,0)],a10⟩):=
  ⟨b8.le_set le7 (b8.none_of le7 n10),n4,n7',b8.none_of le7 n10,d47,h4'.set n10,h7.set n10,u9.new⟩
 have hl2:l.length≤2:=by have:=b5K (op:=op);rw[hlay]at this;exact this
 have hgood:∀f∈l,b2z f:=by have:=b8d op;rw[hlay]at this;exact this
 have hgd:(lay op).getD []=l:=by rw[hlay];rfl
 rw[lnL,oD,a5L,hgd]
 have hl60:bs.length<2^60:=by omega
 have edS:c4O bs p=if(b8Q bs p).2.2≠0 then(d0v,(0,(b8Q bs p).2.2)) else b8Q bs p:=by
  unfold c4O;rw[egd,if_neg (by rw[hlay];simp)]
 refine b7C (I:=fun n x4 x7 x10 x45 x46 x47 T=>x4= .ptr k4 0∧x7= .ptr k7 0∧x10= .ptr k10 0∧x45= .lst (a5c op) 2∧x46= .int .i64 (l.length:Int)∧∃(j:Nat) (a b:Int) (s:Nat×Int),x47= .int .i64 (j:Int)∧j+n=l.length∧
   a1c S k4 k7 k10 (a1r op a b .nilSlc) bs s T∧s.1≤bs.length∧c1E bs j a b s (l.drop j)=Y2 bs l (p+1,0)) ?_ (n:=l.length)
  ⟨rfl,rfl,rfl,rfl,rfl,0,0,0,(p+1,0),rfl,by omega,hst,by show p+1≤bs.length;omega,d3R hl2⟩
 rintro n _ _ _ _ _ _ T ⟨rfl,rfl,rfl,rfl,rfl,j,a,b,s,rfl,hjn,hd,hs,hfold⟩
 unfold a6G
 rw[H7,oD,I6]
 refine⟨fun hlt=> ?_,fun hge=> ?_⟩
 ·have hlt:j<l.length:=by omega
  obtain⟨f,hf⟩:∃f,f=l[j]:=⟨_,rfl⟩
  have hjf:l[j]? =some f:=by rw[List.getElem?_eq_getElem hlt,hf]
  obtain⟨row,hrow,hfd⟩:=c8b (op:=op) (i:=j) (f:=f) (by rw[hgd];exact hjf)
  have hg:=hgood f (by rw[hf];exact List.getElem_mem _)
  have hg1:=hg.1
  have hg8:=a6A hg
  have hrl:=hfd.len
  rw[b1X hrow,oD,laE,if_pos ⟨by decide,by omega⟩,oD,List.drop_zero,List.take_of_length_le (by omega)]
  intro k ak nk
  refine(u9.new (sz:=2) (c:=[D.int .i64 0, .nilFn])).st (ds:=row) (U9 _) ⟨hrl,by decide,by simp⟩ fun ak=> ?_
  rw[b8.set_set,d5B hfd]
  have hd2:=hd.new (o:=⟨2,[row],ak⟩) nk
  have hc:u9 (T.set k ⟨2,[row],ak⟩) k 2 row:=u9.new
  change b7 _ _
  rw[d0h hjf]at hfold
  have hI:=c5U (f:=f) hs
  rw[a8b,oD,cdB]
  refine⟨fun h0=> ?_,fun h0=> ?_⟩
  ·have h0:j=0:=by have:(j:Int)=0:=by simpa using h0
                   omega
   rw[if_pos h0,if_pos h0]at hfold
   rw[hc.all (n:=2) (by decide) hrl.symm,oD]
   refine(a8Q hd2 hb hl60 hs hfd hg1 hg8).use ?_
   rintro v T2 ⟨rfl,hd3,_⟩
   rw[E2,oD]
   refine hd3.h7.st (clI _ _) ⟨rfl,by decide,by simp[a1r]⟩ fun a7=> ?_
   rw[D7,oD,l8 (by omega) (by omega)]
   exact⟨n - 1,by omega,rfl,rfl,rfl,rfl,rfl,j+1,_,b,_,rfl,by omega,hd3.set7 (c:=a1r op (G7 bs f s).1 b .nilSlc),hI,hfold⟩
  ·have h0:¬j=0:=by have:¬(j:Int)=0:=by simpa using h0
                    omega
   rw[if_neg h0,if_neg h0]at hfold
   rw[hc.all (n:=2) (by decide) hrl.symm,oD]
   refine(a8Q hd2 hb hl60 hs hfd hg1 hg8).use ?_
   rintro v T2 ⟨rfl,hd3,_⟩
   rw[E2,oD]
   refine hd3.h7.st (clI _ _) ⟨rfl,by decide,by simp[a1r]⟩ fun a7=> ?_
   rw[D7,oD,l8 (by omega) (by omega)]
   exact⟨n - 1,by omega,rfl,rfl,rfl,rfl,rfl,j+1,a,_,_,rfl,by omega,hd3.set7 (c:=a1r op a (G7 bs f s).1 .nilSlc),hI,hfold⟩
 ·have hj':j=l.length:=by omega
  subst hj'
  rw[List.drop_length,c1E]at hfold
  rw[E2,oD,hd.h7.ld,show(a1r op a b .nilSlc)[0+0]? =some (.int .u8 op) from rfl,oD,a8b,oD,cdB]
  refine⟨fun h49=> ?_,fun h49=> ?_⟩
  ·have h49:op=49:=by simpa using h49
   have hb0:b=0:=by
    have hl1:=d6n hlay h49
    rw[hl1]at hfold
    exact congrArg (fun q:Int×Int×(Nat×Int)=>q.2.1) hfold
   subst hb0
   have edX:b8Q bs p=a9b bs 49 a s:=by unfold b8Q;rw[egd,if_pos h49,hgd, ←hfold]
   have d7:∀ {k:Nat},T k=none→k7≠k:=fun hk=>hd.h7.none hk
   have hfin:∀ {k l:Nat} {T':b8},T k=none→T l=none→a1c S k4 k7 k10 (a1r op a 0 .nilSlc) bs s T'→u9 T' k 2 [.int .i64 4,a0y 0 4294967295]→u9 T' l 2 [.int .i64 8,a7r (IntKind.u8.wrap a)]→
     s6 E w0 (d9 E (fun v S'=>∃t,v=c6B (F8 bs (p:Int)) t∧Grw S t ((F8 bs (p:Int)).1.2.2.2.map a0J) 2 S')) (.ptr k4 0) (.ptr k7 0) (.ptr k10 0) (.ptr k 0) (.ptr l 0) T':=fun{k l T'} nk nl hd' c1 c2=>by
    refine d7D hb hl hd' hs c1 c2 (b8.none_of hd.le nk) (b8.none_of hd.le nl) ⟨d7 nk,d7 nl⟩ fun t S' hg=> ?_
    rw[h49]
    rw[h49]at hg
    by_cases he:(a9b bs 49 a s).2.2=0
    ·rw[if_pos he]
     have e:F8 bs (p:Int)=a9b bs 49 a s:=by rw[edT,edS,edX,if_neg (by simp[he])]
     refine d9.here ⟨t, ?_,by rw[e];exact hg⟩
     rw[e]
     unfold c6B
     rw[he]
     rfl
    ·rw[if_neg he]
     have e:F8 bs (p:Int)=(d0v,(0,(a9b bs 49 a s).2.2)):=by rw[edT,edS,edX,if_pos he]
     refine d9.less hg.le (d9.here ⟨.nilSlc, ?_,by rw[e];exact Grw.nil _ _⟩)
     rw[e];rfl
   have ld1:c9 T (.ptr k7 (0+1))=some (.int .i64 a):=hd.h7.ld 1
   have hA:∀ {k l:Nat} {ak al:List AV},T k=none→(T.set k ⟨2,[[.int .i64 0, .nilFn]],ak⟩) l=none→∀ak al,s6 E w0 (d9 E (fun v S'=>∃t,v=c6B (F8 bs (p:Int)) t∧Grw S t ((F8 bs (p:Int)).1.2.2.2.map a0J) 2 S')) (.ptr k4 0) (.ptr k7 0) (.ptr k10 0) (.ptr k 0) (.ptr l 0)
     ((T.set k ⟨2,[[.int .i64 4,a0y 0 4294967295]],ak⟩).set l ⟨2,[[.int .i64 8,a7r (IntKind.u8.wrap a)]],al⟩):=fun{k l _ _} nk nl ak al=>by
    obtain⟨ne,nl'⟩:=b8.fresh nl
    have nl2:(T.set k ⟨2,[[.int .i64 4,a0y 0 4294967295]],ak⟩) l=none:=by rw[b8.set_ne _ _ _ ne];exact nl'
    exact hfin nk nl' ((hd.new nk).new nl2) ((u9.new).set nl2) u9.new
   have hB:∀ {k l:Nat} {ak al:List AV},T k=none→(T.set k ⟨2,[[.int .i64 0, .nilFn]],ak⟩) l=none→∀ak al,s6 E w0 (d9 E (fun v S'=>∃t,v=c6B (F8 bs (p:Int)) t∧Grw S t ((F8 bs (p:Int)).1.2.2.2.map a0J) 2 S')) (.ptr k4 0) (.ptr k7 0) (.ptr k10 0) (.ptr l 0) (.ptr k 0)
     ((T.set k ⟨2,[[.int .i64 8,a7r (IntKind.u8.wrap a)]],ak⟩).set l ⟨2,[[.int .i64 4,a0y 0 4294967295]],al⟩):=fun{k l _ _} nk nl ak al=>by
    obtain⟨ne,nl'⟩:=b8.fresh nl
    have nl2:(T.set k ⟨2,[[.int .i64 8,a7r (IntKind.u8.wrap a)]],ak⟩) l=none:=by rw[b8.set_ne _ _ _ ne];exact nl'
    exact hfin nl' nk ((hd.new nk).new nl2) u9.new ((u9.new).set nl2)
   have l0:∀ {k:Nat} {o:D5},T k=none→(T.set k o) k7=T k7:=fun nk=>b8.set_ne _ _ _ (d7 nk)
   simp only[E2,oD,ld1,cvI]
   repeat' (refine And.intro ?_ ?_)
   all_goals (repeat (first|refine F0.use ?_|refine a1w.use ?_|refine⟨fwR _ _, ?_⟩|rw[a4E (b4s _ _),oD]|rw[a4E (c2M _),oD]))
   all_goals (intro k ak nk)
   all_goals (have f1:=l0 (o:=⟨2,[[.int .i64 0, .nilFn]],ak⟩) nk)
   all_goals (repeat (first|refine F0.use ?_|refine a1w.use ?_|rw[a4E (b4s _ _),oD]|rw[a4E (c2M _),oD]|refine⟨f1, ?_⟩))
   all_goals (intro l' al nl)
   all_goals (have f2:∀ {o:D5},((T.set k ⟨2,[[.int .i64 0, .nilFn]],ak⟩).set l' o) k7=T k7:=fun{o}=>by rw[b8.set_ne _ _ _ (d7 (b8.fresh nl).2)];exact f1)
   all_goals (have ne:k≠l':=Ne.symm (b8.fresh nl).1)
   all_goals (repeat (first|refine F0.use ?_|refine a1w.use ?_|rw[a4E (b4s _ _),oD]|rw[a4E (c2M _),oD]|refine⟨f2, ?_⟩))
   all_goals (first
    |refine stP (k:=k) (cs:=[.int .i64 0, .nilFn]) (b8.set_ne _ _ _ ne |>.trans (b8.set_same _ _ _)) (U9 _) ⟨rfl,by decide,by simp⟩ fun a1=> ?_
    |refine stP (k:=l') (cs:=[.int .i64 0, .nilFn]) (b8.set_same _ _ _) (U9 _) ⟨rfl,by decide,by simp⟩ fun a1=> ?_)
   all_goals (first
    |refine stP (k:=l') (cs:=[.int .i64 0, .nilFn]) ((b8.set_ne _ _ _ (Ne.symm ne)).trans (b8.set_same _ _ _)) (U9 _) ⟨rfl,by decide,by simp⟩ fun a2=> ?_
    |refine stP (k:=k) (cs:=[.int .i64 0, .nilFn]) (((b8.set_ne _ _ _ ne).trans (b8.set_ne _ _ _ ne)).trans (b8.set_same _ _ _)) (U9 _) ⟨rfl,by decide,by simp⟩ fun a2=> ?_)
   all_goals (first|rw[d8S _ ne]|rw[d9j _ ne])
   all_goals (first|exact hA (al:=al) nk nl _ _|exact hB (al:=al) nk nl _ _)
  ·have h49:¬op=49:=by simpa using h49
   have edX:b8Q bs p=((op,a,b,[]),s):=by unfold b8Q;rw[egd,if_neg h49,hgd, ←hfold]
   refine d1O hd.h4 hd.h7 hd.h10 rfl rfl fun S'' hS''=> ?_
   have hle:S.le S'':=fun i o e=>by rw[hS'' i (fun e'=>by rw[e',hd.n4]at e;cases e)];exact hd.le _ _ e
   refine d9.less hle (d9.here ⟨.nilSlc, ?_, ?_⟩)
   ·by_cases he:s.2=0
    ·rw[if_pos he,edT,edS,edX,if_neg (by simp[he])]
     unfold c6B;rw[he]
    ·rw[if_neg he,edT,edS,edX,if_pos (by simpa using he)];rfl
   ·rw[edT,edS,edX]
    by_cases he:s.2=0
    ·rw[if_neg (by simp[he])];exact Grw.nil _ _
    ·rw[if_pos (by simpa using he)];exact Grw.nil _ _
end
end Go.Proofs.YtdkidgkiplcggaaGreat.d
end
section
namespace Go.Am
def ob:D→List Nat
 | .raw k _ _ _ _ _=>[k]
 |_=>[]
section
variable{S T:b8}{av:List Nat}{t u:D}{rows rows':List (List D)}{sz sz':Nat}
theorem GrA.ob_some(h:GrA S av t rows sz T):∀j∈ob t,T j≠Option.none:=by
 rcases h with ⟨rfl,_⟩|⟨k,acs,_,_,rfl,h3⟩
 ·simp[ob]
 ·simp[ob,h3]
theorem GrA.ob_av(h:GrA S av t rows sz T):∀j∈ob t,j ∉ av:=by
 rcases h with ⟨rfl,_⟩|⟨k,acs,_,h1,rfl,_⟩
 ·simp[ob]
 ·simpa [ob]using h1
theorem GrA.apart(h:GrA S av t rows sz T){T':b8}{av':List Nat}(e:∀j∈ob t,T' j=T j)(ha:∀j∈ob t,j ∉ av'):GrA S av' t rows sz T':=by
 rcases h with h|⟨k,acs,h0,h1,rfl,h3⟩
 ·exact .inl h
 ·exact .inr ⟨k,acs,h0,ha k (by simp[ob]),rfl,by rw[e k (by simp[ob])];exact h3⟩
theorem d9.grA{E:j2}{Q:D→b8→Prop}{pre post:List D}(h:GrA S av t rows sz T)(hle:S.le T)(hQ:∀T',S.le T'→(∀j,j ∉ ob t→T' j=T j)→d9 E Q (.tup (pre++ .lst rows sz::post)) T'):d9 E Q (.tup (pre++t::post)) T:=by
 rcases h with ⟨rfl,rfl⟩|⟨k,acs,h0,h1,rfl,h3⟩
 ·exact d9.nilT (hQ T hle fun _ _=>rfl)
 ·refine d9.freezeT h3 rfl (by simp) (Nat.le_refl _) ?_
  simpa using hQ (T.erase k) (b8.le_erase hle h0) fun j hj=>b8.erase_ne _ _ (by simpa [ob]using hj)
def GrP(S:b8)(av:List Nat)(t:D)(rows:List (List D))(sz:Nat)(u:D)(rows':List (List D))(sz':Nat)(T:b8):Prop:=
 S.le T∧(∀j∈av,T j≠Option.none)∧GrA S (ob u++av) t rows sz T∧GrA S (ob t++av) u rows' sz' T
theorem GrP.nil:GrP S [] .nilSlc [] sz .nilSlc [] sz' S:=⟨b8.le_refl _,by simp,GrA.nil,GrA.nil⟩
theorem GrP.swap(h:GrP S av t rows sz u rows' sz' T):GrP S av u rows' sz' t rows sz T:=⟨h.1,h.2.1,h.2.2.2,h.2.2.1⟩
theorem GrP.push(h:GrP S av t rows sz u rows' sz' T){bytes:Nat}{v:D}{news:List (List D)}(hv:rowsS T sz v=some news)(hn:news≠[])(hb:0<bytes∧(2*(rows.length+news.length)+768)*bytes≤2^47){K:D→b8→Prop}
  (hK:∀t' T',(∀j∈av,T' j=T j)→GrP S av t' (rows++news) sz u rows' sz' T'→K t' T'):w9 T sz bytes t v K:=by
 obtain⟨h1,h2,h3,h4⟩:=h
 refine h3.push h1 (fun j hj=> ?_) hv hn hb fun t' T' hle he hg=>hK t' T' (fun j hj=>he j (List.mem_append_right _ hj)) ⟨hle,fun j hj=> ?_,hg, ?_⟩
 ·rcases List.mem_append.1 hj with hj|hj
  ·exact h4.ob_some j hj
  ·exact h2 j hj
 ·rw[he j (List.mem_append_right _ hj)];exact h2 j hj
 ·refine h4.apart (fun j hj=>he j (List.mem_append_left _ hj)) fun j hj hm=> ?_
  rcases List.mem_append.1 hm with hm|hm
  ·exact hg.ob_av j hm (List.mem_append_left _ hj)
  ·exact h4.ob_av j hj (List.mem_append_right _ hm)
theorem GrP.set(h:GrP S av t rows sz u rows' sz' T){l:Nat}{o:D5}(hl:T l=Option.none):GrP S av t rows sz u rows' sz' (T.set l o):=by
 obtain⟨h1,h2,h3,h4⟩:=h
 exact⟨b8.le_set h1 (b8.none_of h1 hl),fun j hj=>(by rw[b8.set_ne _ _ _ (fun e=>h2 j hj (by rw[e];exact hl))];exact h2 j hj),h3.set (.inr hl),h4.set (.inr hl)⟩
theorem GrP.more(h:GrP S av t rows sz u rows' sz' T){l:Nat}{o:D5}(hl:T l=Option.none):GrP S (l::av) t rows sz u rows' sz' (T.set l o):=by
 have hs:=h.set (o:=o) hl
 have n1:∀j∈ob t,j≠l:=fun j hj e=>h.2.2.1.ob_some j hj (e▸hl)
 have n2:∀j∈ob u,j≠l:=fun j hj e=>h.2.2.2.ob_some j hj (e▸hl)
 refine⟨hs.1,fun j hj=> ?_,hs.2.2.1.apart (fun _ _=>rfl) fun j hj hm=> ?_,hs.2.2.2.apart (fun _ _=>rfl) fun j hj hm=> ?_⟩
 ·rcases List.mem_cons.1 hj with rfl|hj
  ·rw[b8.set_same];simp
  ·exact hs.2.1 j hj
 ·rcases List.mem_append.1 hm with hm|hm
  ·exact hs.2.2.1.ob_av j hj (List.mem_append_left _ hm)
  ·rcases List.mem_cons.1 hm with rfl|hm
   ·exact n1 _ hj rfl
   ·exact hs.2.2.1.ob_av j hj (List.mem_append_right _ hm)
 ·rcases List.mem_append.1 hm with hm|hm
  ·exact hs.2.2.2.ob_av j hj (List.mem_append_left _ hm)
  ·rcases List.mem_cons.1 hm with rfl|hm
   ·exact n2 _ hj rfl
   ·exact hs.2.2.2.ob_av j hj (List.mem_append_right _ hm)
theorem GrP.fin{E:j2}{Q:D→b8→Prop}{post:List D}(h:GrP S av t rows sz u rows' sz' T)(hQ:d9 E Q (.tup (.lst rows sz:: .lst rows' sz'::post)) S):d9 E Q (.tup (t::u::post)) T:=by
 obtain⟨h1,h2,h3,h4⟩:=h
 refine d9.grA (pre:=[]) h3 h1 fun T' hle he=> ?_
 have h4':GrA S (ob t++av) u rows' sz' T':=h4.apart (fun j hj=>he j fun hm=>h3.ob_av j hm (List.mem_append_left _ hj)) fun j hj hm=>h4.ob_av j hj hm
 exact d9.grA (pre:=[.lst rows sz]) h4' hle fun T2 hle2 _=>d9.less hle2 hQ
end
end Go.Am
end
section
open Go.Proofs Go Go.Am Go.Op
namespace Go.Proofs.YtdkidgkiplcggaaGreat.d
section
section
variable{E:j2}{w0:j9}
theorem d3y(m:Mo):(M3 m)[0]? =some (b0l m.types)∧(M3 m)[1]? =some (b1r m.texts)∧(M3 m)[2]? =some (a9d m.funcs):=⟨rfl,rfl,rfl⟩
theorem b7e{b:Bool}{s N:Int}{K:D→Prop}(h:K (.bool (b&&decide (s≤N)))):b7 (f9 (d6 (.bool b) true) (some (.int .i64 s))) fun v17=>b7 (f9 (d6 (.bool b) true) (some (.int .i64 N))) fun v18=>b7 (f9 (d6 (.bool b) true) (i4 .leq v17 v18)) fun v19=>b7 (q9 (.bool b) v19 (.bool false)) fun v20=>K v20:=by
 cases b<;>simpa using h
structure Mo.Small (m:Mo) (N:Nat):Prop where
 types:m.types.length≤N
 texts:m.texts.length≤N
 funcs:m.funcs.length≤N
 fields:∀t∈m.types,t.fields.length≤N
 params:∀r∈m.funcs,r.params.length≤N∧r.results.length≤N∧r.code.length≤N
theorem c9A{m:Mo}(hm:m.Ok){N:Nat}(hN:N<2^40){S:b8}:j8 Tryz.prog E w0 b0s [moD m, .int .i64 (N:Int)] S fun d S'=>S'=S∧∃b:Int,d= .int .i64 b∧(b≤N→m.Small N):=by
 refine c4h ?_
 unfold c1U
 rw[moD,U9,oD]
 intro k c n
 have h0:(S.set k ⟨3,[M3 m],c⟩) k=some ⟨3,[M3 m],c⟩:=b8.set_same _ _ _
 have hle:S.le (S.set k ⟨3,[M3 m],c⟩):=b8.le_new n
 have e3:(M3 m).length=3:=rfl
 rw[e3]
 generalize S.set k ⟨3,[M3 m],c⟩=S3 at h0 hle ⊢
 obtain⟨xa0,xa1,xa2⟩:=d3y m
 have:=hm.types;have:=hm.texts;have:=hm.funcs
 simp only[E2,oD,ldP h0,Nat.zero_add,xa0,xa1,xa2,a6k,a8N,a6Y,D7]
 rw[show IntKind.i64.wrap ((m.types.length:Int)+m.texts.length)=_ from l8 (by omega) (by omega),show IntKind.i64.wrap ((m.types.length:Int)+m.texts.length+m.funcs.length)=_ from l8 (by omega) (by omega)]
 refine c0T (I:=fun n x1 x2 x5 x6 S'=>S3=S'∧x1= .int .i64 (N:Int)∧x2= .ptr k 0∧∃(i:Nat) (s:Int),x6= .int .i64 (i:Int)∧x5= .int .i64 s∧i+n=m.types.length∧m.types.length≤s∧m.texts.length≤s∧m.funcs.length≤s∧s<2^50∧∀t∈m.types.take i,(t.fields.length:Int)≤s) ?_ (n:=m.types.length)
  ⟨rfl,rfl,rfl,0,_,rfl,rfl,by omega,by omega,by omega,by omega,by omega,by simp⟩
 rintro n _ _ _ _ _ ⟨rfl,rfl,rfl,i,s,rfl,rfl,hi,s1,s2,s3,s4,hs⟩
 unfold a9L
 simp only[E2,oD,ldP h0,Nat.zero_add,xa0,a6k,H7]
 refine b7e ?_
 rw[←Bool.decide_and,I6]
 refine⟨fun⟨hlt,hsN⟩=> ?_,fun hge=> ?_⟩
 ·have hlt:i<m.types.length:=by omega
  obtain⟨t,ht⟩:∃t,t=m.types[i]:=⟨_,rfl⟩
  have ea:m.types[i]? =some t:=by rw[List.getElem?_eq_getElem hlt,ht]
  have htk:=hm.ty t (by rw[ht];exact List.getElem_mem _)
  have l1:=htk.name
  have l2:=htk.fields
  simp only[b6r ea,oD,ofE,lsE,show(W6 t)[0+1]? =some (.str t.name) from rfl,show(W6 t)[0+2]? =some (a3a t.fields) from rfl,show(W6 t)[1]? =some (.str t.name) from rfl,show(W6 t)[2]? =some (a3a t.fields) from rfl,Nat.zero_add,lnS,a1Q,D7]
  rw[show IntKind.i64.wrap (s+t.name.length)=_ from l8 (by omega) (by omega),show IntKind.i64.wrap (s+t.name.length+t.fields.length)=_ from l8 (by omega) (by omega)]
  refine c1c (I:=fun n' x1 x2 x5 x6 x7 S'=>S3=S'∧x1= .int .i64 (N:Int)∧x2= .ptr k 0∧x6= .int .i64 (i:Int)∧∃(j:Nat) (q:Int),x7= .int .i64 (j:Int)∧x5= .int .i64 q∧j+n'=t.fields.length∧s≤q∧t.fields.length≤q∧q<2^50) ?_ (n:=t.fields.length)
   ⟨rfl,rfl,rfl,rfl,0,_,rfl,rfl,by omega,by omega,by omega,by omega⟩
  rintro n' _ _ _ _ _ _ ⟨rfl,rfl,rfl,rfl,j,q,rfl,rfl,hj,q1,q2,q3⟩
  unfold b0z
  simp only[E2,oD,ldP h0,Nat.zero_add,xa0,b6r ea,ofE,lsE,show(W6 t)[2]? =some (a3a t.fields) from rfl,a1Q,H7]
  refine b7e ?_
  rw[←Bool.decide_and,I6]
  refine⟨fun⟨hlt',hqN⟩=> ?_,fun hge=> ?_⟩
  ·have hlt':j<t.fields.length:=by omega
   obtain⟨f,hf⟩:∃f,f=t.fields[j]:=⟨_,rfl⟩
   have eb:t.fields[j]? =some f:=by rw[List.getElem?_eq_getElem hlt',hf]
   have l3:=(htk.names f (by rw[hf];exact List.getElem_mem _)).1
   simp only[b3b eb,oD,ofE,lsE,Nat.zero_add,show(a1F f)[0]? =some (.str f.1) from rfl,lnS,D7]
   rw[show IntKind.i64.wrap (q+f.1.length)=_ from l8 (by omega) (by omega),show IntKind.i64.wrap ((j:Int)+1)=_ from l8 (by omega) (by omega)]
   exact⟨n' - 1,by omega,by trivial,by trivial,by trivial,by trivial,j+1,_,rfl,rfl,by omega,by omega,by omega,by omega⟩
  ·rw[D7,oD,l8 (by omega) (by omega)]
   refine⟨n - 1,by omega,by trivial,by trivial,by trivial,i+1,q,rfl,rfl,by omega,by omega,by omega,by omega,by omega,fun t' ht'=> ?_⟩
   rw[List.take_add_one,ea,Option.toList_some]at ht'
   rcases List.mem_append.1 ht' with h|h
   ·have:=hs t' h;omega
   ·rw[List.mem_singleton.1 h];exact q2
 have hs:s≤N→∀t∈m.types,(t.fields.length:Int)≤s:=fun h=>by
  have:i=m.types.length:=by
   by_cases c:i<m.types.length
   ·exact(hge ⟨by omega,h⟩).elim
   ·omega
  rw[this,List.take_length]at hs
  exact hs
 clear hge hi
 refine c0i (I:=fun n x1 x2 x5 x6 S'=>S3=S'∧x1= .int .i64 (N:Int)∧x2= .ptr k 0∧∃(i:Nat) (q:Int),x6= .int .i64 (i:Int)∧x5= .int .i64 q∧i+n=m.texts.length∧s≤q∧q<2^50) ?_ (n:=m.texts.length)
  ⟨rfl,rfl,rfl,0,_,rfl,rfl,by omega,by omega,by omega⟩
 rintro n _ _ _ _ _ ⟨rfl,rfl,rfl,i,q,rfl,rfl,hi,q1,q2⟩
 unfold a9X
 simp only[E2,oD,ldP h0,Nat.zero_add,xa1,a8N,H7]
 refine b7e ?_
 rw[←Bool.decide_and,I6]
 refine⟨fun⟨hlt,hsN⟩=> ?_,fun hge=> ?_⟩
 ·have hlt:i<m.texts.length:=by omega
  obtain⟨t,ht⟩:∃t,t=m.texts[i]:=⟨_,rfl⟩
  have ea:m.texts[i]? =some t:=by rw[List.getElem?_eq_getElem hlt,ht]
  have l1:=hm.tx t (by rw[ht];exact List.getElem_mem _)
  simp only[c5Z ea,oD,lsE,List.getElem?_cons_zero,lnS,D7]
  rw[show IntKind.i64.wrap (q+t.length)=_ from l8 (by omega) (by omega),show IntKind.i64.wrap ((i:Int)+1)=_ from l8 (by omega) (by omega)]
  exact⟨n - 1,by omega,by trivial,by trivial,by trivial,i+1,_,rfl,rfl,by omega,by omega,by omega⟩
 clear hge hi
 refine c0F (I:=fun n x1 x2 x5 x6 S'=>S3.le S'∧x1= .int .i64 (N:Int)∧x2= .ptr k 0∧∃(i:Nat) (p:Int),x6= .int .i64 (i:Int)∧x5= .int .i64 p∧i+n=m.funcs.length∧q≤p∧p<2^50∧∀r∈m.funcs.take i,(r.params.length:Int)≤p∧r.results.length≤p∧r.code.length≤p) ?_ (n:=m.funcs.length)
  ⟨b8.le_refl _,rfl,rfl,0,_,rfl,rfl,by omega,by omega,by omega,by simp⟩
 rintro n _ _ _ _ S4 ⟨hle4,rfl,rfl,i,p,rfl,rfl,hi,p1,p2,hp⟩
 have h04:=hle4 _ _ h0
 unfold a9r
 simp only[E2,oD,ldP h04,Nat.zero_add,xa2,a6Y,H7]
 refine b7e ?_
 rw[←Bool.decide_and,I6]
 refine⟨fun⟨hlt,hsN⟩=> ?_,fun hge=> ?_⟩
 ·have hlt:i<m.funcs.length:=by omega
  obtain⟨r,hr⟩:∃r,r=m.funcs[i]:=⟨_,rfl⟩
  have ea:m.funcs[i]? =some r:=by rw[List.getElem?_eq_getElem hlt,hr]
  have hrk:=hm.ro r (by rw[hr];exact List.getElem_mem _)
  have l1:=hrk.name;have l2:=hrk.params;have l3:=hrk.results;have l4:=hrk.code
  simp only[b3O ea,oD,d7m]
  intro k5 a5 n5
  refine stP (ds:=L8 r) (b8.set_same _ _ _) (U9 _) ⟨rfl,by decide,by simp[L8]⟩ fun a6=> ?_
  rw[b8.set_set]
  have h5:∀j,c9 (S4.set k5 ⟨[D.str [], .nilSlc, .nilSlc, .int .i64 0, .int .i64 0, .nilSlc].length,[l7 [D.str [], .nilSlc, .nilSlc, .int .i64 0, .int .i64 0, .nilSlc] 0 (L8 r)],a6⟩) (.ptr k5 j)=(L8 r)[j]? :=fun j=>ldP (b8.set_same _ _ _)
  simp only[E2,oD,h5,Nat.zero_add,show(L8 r)[0]? =some (.str r.name) from rfl,show(L8 r)[1]? =some (iD r.params) from rfl,show(L8 r)[2]? =some (iD r.results) from rfl,show(L8 r)[5]? =some (bD r.code) from rfl,lnS,Y7,a2C,D7]
  rw[show IntKind.i64.wrap (p+r.name.length)=_ from l8 (by omega) (by omega),show IntKind.i64.wrap (p+r.name.length+r.params.length)=_ from l8 (by omega) (by omega),show IntKind.i64.wrap (p+r.name.length+r.params.length+r.results.length)=_ from l8 (by omega) (by omega),show IntKind.i64.wrap (p+r.name.length+r.params.length+r.results.length+r.code.length)=_ from l8 (by omega) (by omega),show IntKind.i64.wrap ((i:Int)+1)=_ from l8 (by omega) (by omega)]
  refine⟨n - 1,by omega,b8.le_trans hle4 (b8.le_new n5),by trivial,by trivial,i+1,_,rfl,rfl,by omega,by omega,by omega,fun r' hr'=> ?_⟩
  rw[List.take_add_one,ea,Option.toList_some]at hr'
  rcases List.mem_append.1 hr' with h|h
  ·have:=hp r' h;omega
  ·rw[List.mem_singleton.1 h];omega
 ·refine d9.less (b8.le_trans hle hle4) (d9.here ⟨rfl,p,rfl,fun hpN=> ?_⟩)
  have:i=m.funcs.length:=by
   by_cases c:i<m.funcs.length
   ·exact(hge ⟨by omega,hpN⟩).elim
   ·omega
  rw[this,List.take_length]at hp
  exact⟨by omega,by omega,by omega,fun t ht=>by have:=hs (by omega) t ht;omega,fun r hr=>by have:=hp r hr;omega⟩
end
end
section
@[simp] theorem d6Q(S:b8)(l:List (Tx×Int)):rowsS S 2 (a3a l)=some (l.map a1F):=by simp[a3a,rowsS,L5]
@[simp] theorem d7K(S:b8)(l:List Tx):rowsS S 1 (b1r l)=some (B4 (l.map D.str)):=by simp[b1r,rowsS,L5]
theorem Grw.cells{S0 S:b8}{t:D}{rows:List (List D)}{sz:Nat}(g:Grw S0 t rows sz S):o3 t=some [t]:=by rcases g with ⟨rfl,_⟩|⟨_,_,_,rfl,_⟩<;>rfl
structure Mo.Fits (m:Mo):Prop where
 ok:m.Ok
 types:m.types.length<2^30
 texts:m.texts.length<2^30
 funcs:m.funcs.length<2^30
 fields:∀t∈m.types,t.fields.length<2^30
 params:∀r∈m.funcs,r.params.length<2^30∧r.results.length<2^30∧r.code.length<2^30
section
variable{E:j2}{w0:j9}
end
end
section
def K9(P:Program)(E:j2)(w0:j9)(f:FuncId)(ds:List D)(d:D):Prop:=∀S,j8 P E w0 f ds S fun d' S'=>d'=d∧S'=S
theorem K9.use{P:Program}{E:j2}{w0:j9}{f:FuncId}{ds:List D}{d:D}(h:K9 P E w0 f ds d){S:b8}{K:D→b8→Prop}(hk:K d S):j8 P E w0 f ds S K:=(h S).use fun d' S' ⟨a,b⟩=>by subst a b;exact hk
section
variable{E:j2}{w0:j9}
end
end
section
def b3Y(d:Dat):In:=⟨d.1,d.2.1,d.2.2.1,d.2.2.2⟩
theorem d4G(d:Dat):(b3Y d).dat=d:=rfl
def b7y(l:List In):D:= .lst (l.map P8) 4
def d5r(r:Dat×(Nat×Int)):D:= .tup [inD (b3Y r.1), .int .i64 (r.2.1:Int), .int .i64 r.2.2]
def a3Q(l:List (Dat×Nat)):List In:=l.map fun x=>b3Y x.1
def a0C(l:List (Dat×Nat)):List Int:=l.map fun x=>(x.2:Int)
def d7V(r:Except Int (List (Dat×Nat))):D:=match r with
 | .ok l=> .tup [b7y (a3Q l),iD (a0C l), .int .i64 0]
 | .error e=> .tup [b7y [],iD [], .int .i64 e]
abbrev a7y(bs:List Int):Except Int (List (Dat×Nat)):=b1v bs (bs.length+1) 0
theorem b3E{bs:List Int}{n p:Nat}(hp:p<bs.length):b1v bs (n+1) p=if(F8 bs p).2.2=0 then(match b1v bs n (F8 bs p).2.1 with| .ok l=> .ok (((F8 bs p).1,p)::l)| .error e=> .error e) else .error (F8 bs p).2.2:=by
 rw[b1v,if_neg (by omega)]
 all_goals rfl
theorem d2C{done:List (Dat×Nat)}{x:Dat×Nat}(r:Except Int (List (Dat×Nat))):d2G done (match r with| .ok l=> .ok (x::l)| .error e=> .error e)=d2G (done++[x]) r:=by
 cases r with
 |error e=>rfl
 |ok l=>simp[d2G]
theorem c1J{bs:List Int}(hb:∀b∈bs,a1m b){p:Nat}(h:(F8 bs (p:Int)).2.2=0):(b3Y (F8 bs p).1).Ok∧p<(F8 bs p).2.1∧(F8 bs p).2.1≤bs.length:=by
 obtain⟨_,_,h3,_,hsg,hnx⟩:=d5R hb h (d4G _)
 rw[Int.toNat_natCast]at hnx hsg
 have:=d5S (b3Y (F8 bs p).1)
 have:=hsg.1
 exact⟨h3,by omega,by omega⟩
section
variable{E:j2}{w0:j9}
theorem d2A{k sz:Nat}{rows:List (List D)}{acs:List AV}:Am.frz k ⟨sz,rows,acs⟩ (.raw k 0 rows.length rows.length false sz)= .lst rows sz:=by
 rw[d1f (by omega) (Nat.le_refl _),List.drop_zero,List.take_length]
theorem c4i{bs:List Int}(hb:∀b∈bs,a1m b)(hl:bs.length<2^30){n:Int}:K9 Tryz.prog E w0 a5H [bD bs, .int .i64 n] (d5r (F8 bs n)):=fun S=>
 (c1B hb hl).fin fun v S' ⟨t,ev,g⟩=>by
  subst ev
  rcases g with ⟨rfl,e,rfl⟩|⟨k,acs,h0,rfl,rfl⟩
  ·refine d9.weak (d':=d5r (F8 bs n)) ?_ d9.pure
   refine Wk.tup ⟨Wk.agg ⟨Wk.refl _,Wk.refl _,Wk.refl _, ?_,trivial⟩,Wk.refl _,Wk.refl _,trivial⟩
   have:b5q (b3Y (F8 bs n).1).arms= .lst [] 2:=by unfold b5q;rw[show(b3Y (F8 bs n).1).arms=(F8 bs n).1.2.2.2 from rfl,e]
   rw[this]
   exact Wk.nil 2
  ·refine d9.frz h0 ?_
   have:Am.frz k ⟨2,(F8 bs n).1.2.2.2.map a0J,acs⟩ (c6B (F8 bs n) (.raw k 0 ((F8 bs n).1.2.2.2.map a0J).length ((F8 bs n).1.2.2.2.map a0J).length false 2))=d5r (F8 bs n):=by
    have e:∀(o:D5) (a b c d e:Int) (tt:D),Am.frz k o (.tup [.agg [.int .u8 a, .int .i64 b, .int .i64 c,tt], .int .i64 d, .int .i64 e])= .tup [.agg [.int .u8 a, .int .i64 b, .int .i64 c,Am.frz k o tt], .int .i64 d, .int .i64 e]:=by
     intros;simp only[Am.frz,Am.c0E]
    unfold c6B a1r
    rw[e,d2A]
    rfl
   rw[this]
   exact d9.pure
def d6Y(S:b8)(r:Except Int (List (Dat×Nat)))(v:D)(T:b8):Prop:=match r with
 | .ok l=>∃t u,v= .tup [t,u, .int .i64 0]∧GrP S [] t ((a3Q l).map P8) 4 u (iC (a0C l)) 1 T
 | .error e=>v= .tup [.nilSlc, .nilSlc, .int .i64 e]∧T=S
theorem b9S{bs:List Int}(hb:∀b∈bs,a1m b)(hl:bs.length<2^30){S:b8}:j8 Tryz.prog E w0 a5X [bD bs] S (d6Y S (a7y bs)):=by
 refine c7h ?_
 unfold c5i
 refine c3q (I:=fun n x0 x5 x6 x7 T=>x0=bD bs∧∃(p:Nat) (done:List (Dat×Nat)),x7= .int .i64 (p:Int)∧p≤bs.length∧bs.length<p+n∧done.length≤p∧GrP S [] x5 ((a3Q done).map P8) 4 x6 (iC (a0C done)) 1 T∧a7y bs=d2G done (b1v bs n p)) ?_ (n:=bs.length+1)
  ⟨rfl,0,[],rfl,by omega,by omega,by simp,GrP.nil,by unfold a7y;cases b1v bs (bs.length+1) 0<;>rfl⟩
 rintro n _ x5 x6 _ T ⟨rfl,p,done,rfl,hp,hpn,hdl,hg,hrun⟩
 unfold b1I
 rw[a2C,oD,H7,oD,I6]
 obtain⟨n,rfl⟩:∃m,n=m+1:=⟨n - 1,by omega⟩
 refine⟨fun hlt=> ?_,fun hge=> ?_⟩
 ·have hlt:p<bs.length:=by omega
  rw[b3E hlt]at hrun
  refine(c4i hb hl).use ?_
  unfold d5r
  simp only[exD,List.getElem?_cons_zero,List.getElem?_cons_succ,oD]
  intro k a nk
  refine(u9.new (sz:=4) (c:=[.int .u8 0, .int .i64 0, .int .i64 0, .nilSlc])).st (ds:=P8 (b3Y (F8 bs p).1)) (U9 _) ⟨rfl,by decide,by decide⟩ fun a'=> ?_
  rw[b8.set_set,show l7 [.int .u8 0, .int .i64 0, .int .i64 0, .nilSlc] 0 (P8 (b3Y (F8 bs p).1))=P8 (b3Y (F8 bs p).1) from rfl,c4H,oD,d6a,I6]
  have hg2:=hg.set (o:=⟨4,[P8 (b3Y (F8 bs p).1)],a'⟩) nk
  refine⟨fun he=> ?_,fun he=> ?_⟩
  ·rw[if_neg he]at hrun
   rw[hrun]
   exact d9.less hg2.1 (d9.here ⟨rfl,rfl⟩)
  ·have he:(F8 bs p).2.2=0:=Classical.not_not.1 he
   obtain⟨_,h1,h2⟩:=c1J hb he
   rw[if_pos he,d2C]at hrun
   rw[(u9.new).all (n:=4) (by decide) rfl,oD,show m8 4 (List.replicate 1 [(D.int .u8 0),(.int .i64 0),(.int .i64 0), .nilSlc]) [(0, .agg (P8 (b3Y (F8 bs p).1)))]=some [P8 (b3Y (F8 bs p).1)]from rfl]
   refine G6 rfl ?_
   refine hg2.push (news:=[P8 (b3Y (F8 bs p).1)]) (by simp[rowsS,L5]) (by simp) (by simp[a3Q];omega) fun t' T' _ hg3=> ?_
   rw[show m8 1 (List.replicate 1 [D.int .i64 0]) [(0, .int .i64 (p:Int))]=some (iC [(p:Int)]) from rfl]
   refine G6 rfl ?_
   refine hg3.swap.push (news:=iC [(p:Int)]) (by simp[rowsS,L5]) (by simp[iC,B4]) (by simp[a0C];omega) fun u' T2 _ hg4=> ?_
   refine⟨n,by omega,by trivial,(F8 bs p).2.1,done++[((F8 bs p).1,p)],rfl,h2,by omega,by simp;omega, ?_,hrun⟩
   have e1:(a3Q (done++[((F8 bs p).1,p)])).map P8=(a3Q done).map P8++[P8 (b3Y (F8 bs p).1)]:=by simp[a3Q]
   have e2:iC (a0C (done++[((F8 bs p).1,p)]))=iC (a0C done)++iC [(p:Int)]:=by rw[←a4n];simp[a0C]
   rw[e1,e2]
   exact hg4.swap
 ·have e0:b1v bs (n+1) p= .ok []:=by rw[b1v,if_pos (by omega)]
  rw[e0]at hrun
  rw[hrun]
  have:d2G done (.ok [])= .ok done:=by simp[d2G]
  rw[this]
  exact d9.here ⟨_,_,rfl,hg⟩
theorem d0a{bs:List Int}(hb:∀b∈bs,a1m b)(hl:bs.length<2^30):K9 Tryz.prog E w0 a5X [bD bs] (d7V (a7y bs)):=fun S=>
 (b9S hb hl).fin fun v T h=>by
  cases hr:a7y bs with
  |error e=>
   rw[hr]at h
   obtain⟨rfl,rfl⟩:=h
   exact d9.weak (d':= .tup [b7y [],iD [], .int .i64 e]) (Wk.tup ⟨Wk.nil 4,Wk.nil 1,Wk.refl _,trivial⟩) d9.pure
  |ok l=>
   rw[hr]at h
   obtain⟨t,u,rfl,hg⟩:=h
   exact hg.fin d9.pure
end
theorem c2b{bs:List Int}(hb:∀b∈bs,a1m b):∀(n p:Nat) (l:List (Dat×Nat)),b1v bs n p= .ok l→p≤bs.length→l.length+p≤bs.length∧∀x∈l,(b3Y x.1).Ok
 |0,p,l,h,hp=>by cases h;exact⟨by simpa using hp,by simp⟩
 |n+1,p,l,h,hp=>by
  by_cases hlt:p<bs.length
  ·rw[b3E hlt]at h
   split at h
   ·rename_i he
    obtain⟨h1,h2,h3⟩:=c1J hb he
    split at h
    ·rename_i l' e
     cases h
     obtain⟨g1,g2⟩:=c2b hb n _ l' e h3
     refine⟨by simp only[List.length_cons];omega,fun x hx=> ?_⟩
     rcases List.mem_cons.1 hx with rfl|hx
     ·exact h1
     ·exact g2 x hx
    ·cases h
   ·cases h
  ·have e0:b1v bs (n+1) p= .ok []:=by rw[b1v,if_pos (by omega)]
   rw[e0]at h
   cases h
   exact⟨by simpa using hp,by simp⟩
def a8O(r:Except Int (List (Dat×Nat))):List In×List Int×Int:=match r with
 | .ok l=>(a3Q l,a0C l,0)
 | .error e=>([],[],e)
theorem d5y(r:Except Int (List (Dat×Nat))):d7V r= .tup [b7y (a8O r).1,iD (a8O r).2.1, .int .i64 (a8O r).2.2]:=by cases r<;>rfl
theorem d5s{bs:List Int}(hb:∀b∈bs,a1m b):(∀y∈(a8O (a7y bs)).1,y.Ok)∧(a8O (a7y bs)).1.length≤bs.length∧(a8O (a7y bs)).2.1.length≤bs.length:=by
 cases h:a7y bs with
 |error e=>exact⟨by simp[a8O],by simp[a8O],by simp[a8O]⟩
 |ok l=>
  obtain⟨h1,h2⟩:=c2b hb _ 0 l h (Nat.zero_le _)
  refine⟨fun y hy=> ?_,by simp[a8O,a3Q];omega,by simp[a8O,a0C];omega⟩
  obtain⟨x,hx,rfl⟩:=List.mem_map.1 hy
  exact h2 x hx
end
end Go.Proofs.YtdkidgkiplcggaaGreat.d
end
