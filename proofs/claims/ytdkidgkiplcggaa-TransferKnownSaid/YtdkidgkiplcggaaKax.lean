/-
  TransferKnownSaid: part Kax of its proof.
-/
import Derived.Test.YtdkidgkiplcggaaKaw
import Derived.Test.YtdkidgkiplcggaaKau
import Derived.Test.YtdkidgkiplcggaaKav
set_option linter.unusedVariables false
set_option linter.unusedSimpArgs false
set_option maxRecDepth 100000
section
open Go.Proofs Go Go.Am Go.Op
namespace Go.Proofs.Ytdkidgkiplcggaa.d
section
variable{E:i9}{w0:j7}
theorem d6v(T:b8){k l:Nat}(h:k≠l)(z z' A B:D6):(((T.set k z).set l z').set k A).set l B=(T.set k A).set l B:=by
 rw[b8.set_in _ h,b8.set_set]
theorem d6L(T:b8){k l:Nat}(h:k≠l)(z z' A B:D6):(((T.set k z).set l z').set l B).set k A=(T.set k A).set l B:=by
 rw[b8.set_set,b8.set_in _ h]
theorem c8x{bs:List Int}{j:Nat}{a b:Int}{s:Nat×Int}{f:Fld}{l:List Fld}(h:l[j]? =some f):c0i bs j a b s (l.drop j)=c0i bs (j+1) (if j=0 then(G3 bs f s).1 else a) (if j=0 then b else(G3 bs f s).1) (G3 bs f s).2 (l.drop (j+1)):=by
 obtain⟨hj,rfl⟩:=List.getElem?_eq_some_iff.1 h
 rw[List.drop_eq_getElem_cons hj,c0i]
theorem c1X{bs:List Int}(hb:∀b∈bs,F5 b)(hl:bs.length<2^30){n:Int}{S:b8}:j6 Try.prog E w0 a5l [bD bs, .int .i64 n] S fun v S'=>∃t,v=c3S (F0 bs n) t∧Grw S t ((F0 bs n).1.2.2.2.map a0x) 2 S':=by
 refine b8X ?_
 unfold b6l
 intro k4 a4 n4
 have h4:z7 (S.set k4 ⟨4,[zC],a4⟩) k4 4 zC:=z7.new
 change b7 _ _
 have le4:S.le (S.set k4 ⟨4,[zC],a4⟩):=b8.le_new n4
 by_cases hn:n<0∨n≥bs.length
 ·have e:F0 bs n=(c7E,(0,2)):=by unfold F0;rw[if_pos hn]
  have fin:(b7 (C3 (o8 [(D.int .u8 0),(.int .i64 0),(.int .i64 0), .nilSlc] [])) fun v8=>i7 (S.set k4 ⟨4,[zC],a4⟩) 4 (.ptr k4 0) v8 fun v9 S10=>b7 (i4 S10 4 (.ptr k4 0)) fun v11=>d9 E (fun v S'=>∃t,v=c3S (F0 bs n) t∧Grw S t ((F0 bs n).1.2.2.2.map a0x) 2 S') (.tup [v11,(.int .i64 0),(.int .i64 2)]) S10):=by
   rw[fiN,agS,oD]
   refine h4.st (W3 _) ⟨rfl,by decide,by decide⟩ fun a=> ?_
   rw[(z7.new).all (n:=4) (by decide) rfl,oD,b8.set_set]
   refine d9.drop n4 (d9.here ⟨.nilSlc, ?_, ?_⟩)
   ·rw[e];rfl
   ·rw[e];exact Grw.nil _ _
  rw[L7,oD]
  by_cases h1:n<0
  ·rw[decide_eq_true h1]
   simp only[N6,vdF,oD,P0,if_true,cdT,show((true==false)=false) from rfl]
   exact fin
  ·have h2:decide (n≥(bs.length:Int))=true:=decide_eq_true (hn.resolve_left h1)
   rw[decide_eq_false h1]
   simp only[N6,vdT,oD,P0,Bool.false_eq_true,if_false,a2E,a9G,h2,cdT,show((false==false)=true) from rfl]
   exact fin
 have hn0:¬n<0:=fun h=>hn (.inl h)
 have hn1:¬n≥(bs.length:Int):=fun h=>hn (.inr h)
 obtain⟨p,rfl⟩:∃p:Nat,n=(p:Int):=⟨n.toNat,by omega⟩
 have hp:p<bs.length:=by omega
 have edT:F0 bs (p:Int)=c2v bs p:=by unfold F0;rw[if_neg hn];rfl
 obtain⟨op,hop⟩:∃op,op=bs[p]:=⟨_,rfl⟩
 have hj:bs[p]? =some op:=by rw[List.getElem?_eq_getElem hp,hop]
 have hbop:F5 op:=hb op (by rw[hop];exact List.getElem_mem _)
 have egd:bs.getD p 0=op:=by rw[List.getD_eq_getElem?_getD,hj];rfl
 rw[L7,oD,decide_eq_false hn0]
 simp only[N6,vdT,oD,P0,Bool.false_eq_true,if_false,a2E,a9G,decide_eq_false hn1,cdF,show((false==false)=true) from rfl]
 rw[c8Z hj,oD,lsE,List.getElem?_cons_zero,oD]
 have hag:C3 (o8 [(D.int .u8 0),(.int .i64 0),(.int .i64 0), .nilSlc] [(0,1, .int .u8 op)])=some (.agg (a1a op 0 0 .nilSlc)):=rfl
 rw[hag,oD]
 intro k7 a7 n7
 have d47:k4≠k7:=h4.none n7
 have n7':S k7=none:=b8.none_of le4 n7
 have h7z:z7 ((S.set k4 ⟨4,[zC],a4⟩).set k7 ⟨4,[zC],a7⟩) k7 4 zC:=z7.new
 refine h7z.st (ds:=a1a op 0 0 .nilSlc) (W3 _) ⟨rfl,by decide,by decide⟩ fun a7=> ?_
 rw[b8.set_set,show l7 zC 0 (a1a op 0 0 .nilSlc)=a1a op 0 0 .nilSlc from rfl]
 have h7:z7 ((S.set k4 ⟨4,[zC],a4⟩).set k7 ⟨4,[a1a op 0 0 .nilSlc],a7⟩) k7 4 (a1a op 0 0 .nilSlc):=z7.new
 have h4':=h4.set (o:=⟨4,[a1a op 0 0 .nilSlc],a7⟩) n7
 have le7:S.le ((S.set k4 ⟨4,[zC],a4⟩).set k7 ⟨4,[a1a op 0 0 .nilSlc],a7⟩):=b8.le_set le4 n7'
 generalize (S.set k4 ⟨4,[zC],a4⟩).set k7 ⟨4,[a1a op 0 0 .nilSlc],a7⟩=T7 at*
 rw[F8,oD,h7.ld,show(a1a op 0 0 .nilSlc)[0+0]? =some (.int .u8 op) from rfl,oD]
 refine b3k.use ?_
 simp only[exD,List.getElem?_cons_zero,List.getElem?_cons_succ,oD,unN]
 cases hlay:lay op with
 |none=>
  rw[show(!(none:Option (List Fld)).isSome)=true from rfl,cdT,fiN,agS,oD]
  have e:F0 bs (p:Int)=(c7E,(0,120)):=by rw[edT];unfold c2v;rw[egd,if_pos hlay]
  refine h4'.st (W3 _) ⟨rfl,by decide,by decide⟩ fun a=> ?_
  rw[(z7.new).all (n:=4) (by decide) rfl,oD]
  refine d9.less (b8.le_set le7 n4) (d9.here ⟨.nilSlc, ?_, ?_⟩)
  ·rw[e];rfl
  ·rw[e];exact Grw.nil _ _
 |some l=>
 rw[show(!(some l).isSome)=false from rfl,cdF,H7,oD,m7 (by omega) (by omega)]
 have hag2:C3 (o8 [.nilSlc,(D.int .i64 0),(.int .i64 0)] [(0,1,bD bs),(1,1, .int .i64 ((p:Int)+1))])=some (.agg (rdC bs (p+1,0))):=rfl
 rw[hag2,oD,W3,oD]
 intro k10 a10 n10
 have hst:a0G S k4 k7 k10 (a1a op 0 0 .nilSlc) bs (p+1,0) (T7.set k10 ⟨3,[rdC bs (p+1,0)],a10⟩):=
  ⟨b8.le_set le7 (b8.none_of le7 n10),n4,n7',b8.none_of le7 n10,d47,h4'.set n10,h7.set n10,z7.new⟩
 have hl2:l.length≤2:=by have:=b4x (op:=op);rw[hlay]at this;exact this
 have hgood:∀f∈l,b2a f:=by have:=b6Z op;rw[hlay]at this;exact this
 have hgd:(lay op).getD []=l:=by rw[hlay];rfl
 rw[lnL,oD,a5a,hgd]
 have hl60:bs.length<2^60:=by omega
 have edS:c2v bs p=if(b7j bs p).2.2≠0 then(c7E,(0,(b7j bs p).2.2)) else b7j bs p:=by
  unfold c2v;rw[egd,if_neg (by rw[hlay];simp)]
 refine b6i (I:=fun n x4 x7 x10 x45 x46 x47 T=>x4= .ptr k4 0∧x7= .ptr k7 0∧x10= .ptr k10 0∧x45= .lst (a4d op) 2∧x46= .int .i64 (l.length:Int)∧∃(j:Nat) (a b:Int) (s:Nat×Int),x47= .int .i64 (j:Int)∧j+n=l.length∧
   a0G S k4 k7 k10 (a1a op a b .nilSlc) bs s T∧s.1≤bs.length∧c0i bs j a b s (l.drop j)=V7 bs l (p+1,0)) ?_ (n:=l.length)
  ⟨rfl,rfl,rfl,rfl,rfl,0,0,0,(p+1,0),rfl,by omega,hst,by show p+1≤bs.length;omega,d1h hl2⟩
 rintro n _ _ _ _ _ _ T ⟨rfl,rfl,rfl,rfl,rfl,j,a,b,s,rfl,hjn,hd,hs,hfold⟩
 unfold a6j
 rw[L7,oD,M0]
 refine⟨fun hlt=> ?_,fun hge=> ?_⟩
 ·have hlt:j<l.length:=by omega
  obtain⟨f,hf⟩:∃f,f=l[j]:=⟨_,rfl⟩
  have hjf:l[j]? =some f:=by rw[List.getElem?_eq_getElem hlt,hf]
  obtain⟨row,hrow,hfd⟩:=c6R (op:=op) (i:=j) (f:=f) (by rw[hgd];exact hjf)
  have hg:=hgood f (by rw[hf];exact List.getElem_mem _)
  have hg1:=hg.1
  have hg8:=a6z hg
  have hrl:=hfd.len
  rw[b6m hrow,oD,laE,if_pos ⟨by decide,by omega⟩,oD,List.drop_zero,List.take_of_length_le (by omega)]
  intro k ak nk
  refine(z7.new (sz:=2) (c:=[D.int .i64 0, .nilFn])).st (ds:=row) (W3 _) ⟨hrl,by decide,by simp⟩ fun ak=> ?_
  rw[b8.set_set,d3H hfd]
  have hd2:=hd.new (o:=⟨2,[row],ak⟩) nk
  have hc:z7 (T.set k ⟨2,[row],ak⟩) k 2 row:=z7.new
  change b7 _ _
  rw[c8x hjf]at hfold
  have hI:=c5g (f:=f) hs
  rw[a7J,oD,cdB]
  refine⟨fun h0=> ?_,fun h0=> ?_⟩
  ·have h0:j=0:=by have:(j:Int)=0:=by simpa using h0
                   omega
   rw[if_pos h0,if_pos h0]at hfold
   rw[hc.all (n:=2) (by decide) hrl.symm,oD]
   refine(a8o hd2 hb hl60 hs hfd hg1 hg8).use ?_
   rintro v T2 ⟨rfl,hd3,_⟩
   rw[F8,oD]
   refine hd3.h7.st (clI _ _) ⟨rfl,by decide,by simp[a1a]⟩ fun a7=> ?_
   rw[H7,oD,m7 (by omega) (by omega)]
   exact⟨n - 1,by omega,rfl,rfl,rfl,rfl,rfl,j+1,_,b,_,rfl,by omega,hd3.set7 (c:=a1a op (G3 bs f s).1 b .nilSlc),hI,hfold⟩
  ·have h0:¬j=0:=by have:¬(j:Int)=0:=by simpa using h0
                    omega
   rw[if_neg h0,if_neg h0]at hfold
   rw[hc.all (n:=2) (by decide) hrl.symm,oD]
   refine(a8o hd2 hb hl60 hs hfd hg1 hg8).use ?_
   rintro v T2 ⟨rfl,hd3,_⟩
   rw[F8,oD]
   refine hd3.h7.st (clI _ _) ⟨rfl,by decide,by simp[a1a]⟩ fun a7=> ?_
   rw[H7,oD,m7 (by omega) (by omega)]
   exact⟨n - 1,by omega,rfl,rfl,rfl,rfl,rfl,j+1,a,_,_,rfl,by omega,hd3.set7 (c:=a1a op a (G3 bs f s).1 .nilSlc),hI,hfold⟩
 ·have hj':j=l.length:=by omega
  subst hj'
  rw[List.drop_length,c0i]at hfold
  rw[F8,oD,hd.h7.ld,show(a1a op a b .nilSlc)[0+0]? =some (.int .u8 op) from rfl,oD,a7J,oD,cdB]
  refine⟨fun h49=> ?_,fun h49=> ?_⟩
  ·have h49:op=49:=by simpa using h49
   have hb0:b=0:=by
    have hl1:=d3Z hlay h49
    rw[hl1]at hfold
    exact congrArg (fun q:Int×Int×(Nat×Int)=>q.2.1) hfold
   subst hb0
   have edX:b7j bs p=a7Z bs 49 a s:=by unfold b7j;rw[egd,if_pos h49,hgd, ←hfold]
   have d7:∀ {k:Nat},T k=none→k7≠k:=fun hk=>hd.h7.none hk
   have hfin:∀ {k l:Nat} {T':b8},T k=none→T l=none→a0G S k4 k7 k10 (a1a op a 0 .nilSlc) bs s T'→z7 T' k 2 [.int .i64 4,a0f 0 4294967295]→z7 T' l 2 [.int .i64 8,a6V (IntKind.u8.wrap a)]→
     r9 E w0 (d9 E (fun v S'=>∃t,v=c3S (F0 bs (p:Int)) t∧Grw S t ((F0 bs (p:Int)).1.2.2.2.map a0x) 2 S')) (.ptr k4 0) (.ptr k7 0) (.ptr k10 0) (.ptr k 0) (.ptr l 0) T':=fun{k l T'} nk nl hd' c1 c2=>by
    refine d4q hb hl hd' hs c1 c2 (b8.none_of hd.le nk) (b8.none_of hd.le nl) ⟨d7 nk,d7 nl⟩ fun t S' hg=> ?_
    rw[h49]
    rw[h49]at hg
    by_cases he:(a7Z bs 49 a s).2.2=0
    ·rw[if_pos he]
     have e:F0 bs (p:Int)=a7Z bs 49 a s:=by rw[edT,edS,edX,if_neg (by simp[he])]
     refine d9.here ⟨t, ?_,by rw[e];exact hg⟩
     rw[e]
     unfold c3S
     rw[he]
     rfl
    ·rw[if_neg he]
     have e:F0 bs (p:Int)=(c7E,(0,(a7Z bs 49 a s).2.2)):=by rw[edT,edS,edX,if_pos he]
     refine d9.less hg.le (d9.here ⟨.nilSlc, ?_,by rw[e];exact Grw.nil _ _⟩)
     rw[e];rfl
   have ld1:d0 T (.ptr k7 (0+1))=some (.int .i64 a):=hd.h7.ld 1
   have hA:∀ {k l:Nat} {ak al:List AV},T k=none→(T.set k ⟨2,[[.int .i64 0, .nilFn]],ak⟩) l=none→∀ak al,r9 E w0 (d9 E (fun v S'=>∃t,v=c3S (F0 bs (p:Int)) t∧Grw S t ((F0 bs (p:Int)).1.2.2.2.map a0x) 2 S')) (.ptr k4 0) (.ptr k7 0) (.ptr k10 0) (.ptr k 0) (.ptr l 0)
     ((T.set k ⟨2,[[.int .i64 4,a0f 0 4294967295]],ak⟩).set l ⟨2,[[.int .i64 8,a6V (IntKind.u8.wrap a)]],al⟩):=fun{k l _ _} nk nl ak al=>by
    obtain⟨ne,nl'⟩:=b8.fresh nl
    have nl2:(T.set k ⟨2,[[.int .i64 4,a0f 0 4294967295]],ak⟩) l=none:=by rw[b8.set_ne _ _ _ ne];exact nl'
    exact hfin nk nl' ((hd.new nk).new nl2) ((z7.new).set nl2) z7.new
   have hB:∀ {k l:Nat} {ak al:List AV},T k=none→(T.set k ⟨2,[[.int .i64 0, .nilFn]],ak⟩) l=none→∀ak al,r9 E w0 (d9 E (fun v S'=>∃t,v=c3S (F0 bs (p:Int)) t∧Grw S t ((F0 bs (p:Int)).1.2.2.2.map a0x) 2 S')) (.ptr k4 0) (.ptr k7 0) (.ptr k10 0) (.ptr l 0) (.ptr k 0)
     ((T.set k ⟨2,[[.int .i64 8,a6V (IntKind.u8.wrap a)]],ak⟩).set l ⟨2,[[.int .i64 4,a0f 0 4294967295]],al⟩):=fun{k l _ _} nk nl ak al=>by
    obtain⟨ne,nl'⟩:=b8.fresh nl
    have nl2:(T.set k ⟨2,[[.int .i64 8,a6V (IntKind.u8.wrap a)]],ak⟩) l=none:=by rw[b8.set_ne _ _ _ ne];exact nl'
    exact hfin nl' nk ((hd.new nk).new nl2) z7.new ((z7.new).set nl2)
   have l0:∀ {k:Nat} {o:D6},T k=none→(T.set k o) k7=T k7:=fun nk=>b8.set_ne _ _ _ (d7 nk)
   simp only[F8,oD,ld1,cvI]
   repeat' (refine And.intro ?_ ?_)
   all_goals (repeat (first|refine E3.use ?_|refine a1d.use ?_|refine⟨fwR _ _, ?_⟩|rw[a4t (b3y _ _),oD]|rw[a4t (c0f _),oD]))
   all_goals (intro k ak nk)
   all_goals (have f1:=l0 (o:=⟨2,[[.int .i64 0, .nilFn]],ak⟩) nk)
   all_goals (repeat (first|refine E3.use ?_|refine a1d.use ?_|rw[a4t (b3y _ _),oD]|rw[a4t (c0f _),oD]|refine⟨f1, ?_⟩))
   all_goals (intro l' al nl)
   all_goals (have f2:∀ {o:D6},((T.set k ⟨2,[[.int .i64 0, .nilFn]],ak⟩).set l' o) k7=T k7:=fun{o}=>by rw[b8.set_ne _ _ _ (d7 (b8.fresh nl).2)];exact f1)
   all_goals (have ne:k≠l':=Ne.symm (b8.fresh nl).1)
   all_goals (repeat (first|refine E3.use ?_|refine a1d.use ?_|rw[a4t (b3y _ _),oD]|rw[a4t (c0f _),oD]|refine⟨f2, ?_⟩))
   all_goals (first
    |refine stP (k:=k) (cs:=[.int .i64 0, .nilFn]) (b8.set_ne _ _ _ ne |>.trans (b8.set_same _ _ _)) (W3 _) ⟨rfl,by decide,by simp⟩ fun a1=> ?_
    |refine stP (k:=l') (cs:=[.int .i64 0, .nilFn]) (b8.set_same _ _ _) (W3 _) ⟨rfl,by decide,by simp⟩ fun a1=> ?_)
   all_goals (first
    |refine stP (k:=l') (cs:=[.int .i64 0, .nilFn]) ((b8.set_ne _ _ _ (Ne.symm ne)).trans (b8.set_same _ _ _)) (W3 _) ⟨rfl,by decide,by simp⟩ fun a2=> ?_
    |refine stP (k:=k) (cs:=[.int .i64 0, .nilFn]) (((b8.set_ne _ _ _ ne).trans (b8.set_ne _ _ _ ne)).trans (b8.set_same _ _ _)) (W3 _) ⟨rfl,by decide,by simp⟩ fun a2=> ?_)
   all_goals (first|rw[d6v _ ne]|rw[d6L _ ne])
   all_goals (first|exact hA (al:=al) nk nl _ _|exact hB (al:=al) nk nl _ _)
  ·have h49:¬op=49:=by simpa using h49
   have edX:b7j bs p=((op,a,b,[]),s):=by unfold b7j;rw[egd,if_neg h49,hgd, ←hfold]
   refine c9D hd.h4 hd.h7 hd.h10 rfl rfl fun S'' hS''=> ?_
   have hle:S.le S'':=fun i o e=>by rw[hS'' i (fun e'=>by rw[e',hd.n4]at e;cases e)];exact hd.le _ _ e
   refine d9.less hle (d9.here ⟨.nilSlc, ?_, ?_⟩)
   ·by_cases he:s.2=0
    ·rw[if_pos he,edT,edS,edX,if_neg (by simp[he])]
     unfold c3S;rw[he]
    ·rw[if_neg he,edT,edS,edX,if_pos (by simpa using he)];rfl
   ·rw[edT,edS,edX]
    by_cases he:s.2=0
    ·rw[if_neg (by simp[he])];exact Grw.nil _ _
    ·rw[if_pos (by simpa using he)];exact Grw.nil _ _
end
end Go.Proofs.Ytdkidgkiplcggaa.d
end
section
namespace Go.Am
def ob:D→List Nat
 | .raw k _ _ _ _ _=>[k]
 |_=>[]
section
variable{S T:b8}{av:List Nat}{t u:D}{rows rows':List (List D)}{sz sz':Nat}
theorem GrA.ob_some(h:GrA S av t rows sz T):∀j∈ob t,T j≠Option.none:=by
 rcases h with ⟨rfl,_⟩|⟨k,acs,_,_,rfl,h3⟩
 ·simp[ob]
 ·simp[ob,h3]
theorem GrA.ob_av(h:GrA S av t rows sz T):∀j∈ob t,j ∉ av:=by
 rcases h with ⟨rfl,_⟩|⟨k,acs,_,h1,rfl,_⟩
 ·simp[ob]
 ·simpa [ob]using h1
theorem GrA.apart(h:GrA S av t rows sz T){T':b8}{av':List Nat}(e:∀j∈ob t,T' j=T j)(ha:∀j∈ob t,j ∉ av'):GrA S av' t rows sz T':=by
 rcases h with h|⟨k,acs,h0,h1,rfl,h3⟩
 ·exact .inl h
 ·exact .inr ⟨k,acs,h0,ha k (by simp[ob]),rfl,by rw[e k (by simp[ob])];exact h3⟩
theorem d9.grA{E:i9}{Q:D→b8→Prop}{pre post:List D}(h:GrA S av t rows sz T)(hle:S.le T)(hQ:∀T',S.le T'→(∀j,j ∉ ob t→T' j=T j)→d9 E Q (.tup (pre++ .lst rows sz::post)) T'):d9 E Q (.tup (pre++t::post)) T:=by
 rcases h with ⟨rfl,rfl⟩|⟨k,acs,h0,h1,rfl,h3⟩
 ·exact d9.nilT (hQ T hle fun _ _=>rfl)
 ·refine d9.freezeT h3 rfl (by simp) (Nat.le_refl _) ?_
  simpa using hQ (T.erase k) (b8.le_erase hle h0) fun j hj=>b8.erase_ne _ _ (by simpa [ob]using hj)
def GrP(S:b8)(av:List Nat)(t:D)(rows:List (List D))(sz:Nat)(u:D)(rows':List (List D))(sz':Nat)(T:b8):Prop:=
 S.le T∧(∀j∈av,T j≠Option.none)∧GrA S (ob u++av) t rows sz T∧GrA S (ob t++av) u rows' sz' T
theorem GrP.nil:GrP S [] .nilSlc [] sz .nilSlc [] sz' S:=⟨b8.le_refl _,by simp,GrA.nil,GrA.nil⟩
theorem GrP.swap(h:GrP S av t rows sz u rows' sz' T):GrP S av u rows' sz' t rows sz T:=⟨h.1,h.2.1,h.2.2.2,h.2.2.1⟩
theorem GrP.push(h:GrP S av t rows sz u rows' sz' T){bytes:Nat}{v:D}{news:List (List D)}(hv:rowsS T sz v=some news)(hn:news≠[])(hb:0<bytes∧(2*(rows.length+news.length)+768)*bytes≤2^47){K:D→b8→Prop}
  (hK:∀t' T',(∀j∈av,T' j=T j)→GrP S av t' (rows++news) sz u rows' sz' T'→K t' T'):s8 T sz bytes t v K:=by
 obtain⟨h1,h2,h3,h4⟩:=h
 refine h3.push h1 (fun j hj=> ?_) hv hn hb fun t' T' hle he hg=>hK t' T' (fun j hj=>he j (List.mem_append_right _ hj)) ⟨hle,fun j hj=> ?_,hg, ?_⟩
 ·rcases List.mem_append.1 hj with hj|hj
  ·exact h4.ob_some j hj
  ·exact h2 j hj
 ·rw[he j (List.mem_append_right _ hj)];exact h2 j hj
 ·refine h4.apart (fun j hj=>he j (List.mem_append_left _ hj)) fun j hj hm=> ?_
  rcases List.mem_append.1 hm with hm|hm
  ·exact hg.ob_av j hm (List.mem_append_left _ hj)
  ·exact h4.ob_av j hj (List.mem_append_right _ hm)
theorem GrP.set(h:GrP S av t rows sz u rows' sz' T){l:Nat}{o:D6}(hl:T l=Option.none):GrP S av t rows sz u rows' sz' (T.set l o):=by
 obtain⟨h1,h2,h3,h4⟩:=h
 exact⟨b8.le_set h1 (b8.none_of h1 hl),fun j hj=>(by rw[b8.set_ne _ _ _ (fun e=>h2 j hj (by rw[e];exact hl))];exact h2 j hj),h3.set (.inr hl),h4.set (.inr hl)⟩
theorem GrP.more(h:GrP S av t rows sz u rows' sz' T){l:Nat}{o:D6}(hl:T l=Option.none):GrP S (l::av) t rows sz u rows' sz' (T.set l o):=by
 have hs:=h.set (o:=o) hl
 have n1:∀j∈ob t,j≠l:=fun j hj e=>h.2.2.1.ob_some j hj (e▸hl)
 have n2:∀j∈ob u,j≠l:=fun j hj e=>h.2.2.2.ob_some j hj (e▸hl)
 refine⟨hs.1,fun j hj=> ?_,hs.2.2.1.apart (fun _ _=>rfl) fun j hj hm=> ?_,hs.2.2.2.apart (fun _ _=>rfl) fun j hj hm=> ?_⟩
 ·rcases List.mem_cons.1 hj with rfl|hj
  ·rw[b8.set_same];simp
  ·exact hs.2.1 j hj
 ·rcases List.mem_append.1 hm with hm|hm
  ·exact hs.2.2.1.ob_av j hj (List.mem_append_left _ hm)
  ·rcases List.mem_cons.1 hm with rfl|hm
   ·exact n1 _ hj rfl
   ·exact hs.2.2.1.ob_av j hj (List.mem_append_right _ hm)
 ·rcases List.mem_append.1 hm with hm|hm
  ·exact hs.2.2.2.ob_av j hj (List.mem_append_left _ hm)
  ·rcases List.mem_cons.1 hm with rfl|hm
   ·exact n2 _ hj rfl
   ·exact hs.2.2.2.ob_av j hj (List.mem_append_right _ hm)
theorem GrP.fin{E:i9}{Q:D→b8→Prop}{post:List D}(h:GrP S av t rows sz u rows' sz' T)(hQ:d9 E Q (.tup (.lst rows sz:: .lst rows' sz'::post)) S):d9 E Q (.tup (t::u::post)) T:=by
 obtain⟨h1,h2,h3,h4⟩:=h
 refine d9.grA (pre:=[]) h3 h1 fun T' hle he=> ?_
 have h4':GrA S (ob t++av) u rows' sz' T':=h4.apart (fun j hj=>he j fun hm=>h3.ob_av j hm (List.mem_append_left _ hj)) fun j hj hm=>h4.ob_av j hj hm
 exact d9.grA (pre:=[.lst rows sz]) h4' hle fun T2 hle2 _=>d9.less hle2 hQ
end
end Go.Am
end
section
open Go.Proofs Go Go.Am Go.Op
namespace Go.Proofs.Ytdkidgkiplcggaa.d
section
section
variable{E:i9}{w0:j7}
theorem d4y(m:Mo):(O9 m)[0]? =some (a9a m.types)∧(O9 m)[1]? =some (b0y m.texts)∧(O9 m)[2]? =some (a8v m.funcs):=⟨rfl,rfl,rfl⟩
structure Mo.Small (m:Mo) (N:Nat):Prop where
 types:m.types.length≤N
 texts:m.texts.length≤N
 funcs:m.funcs.length≤N
 fields:∀t∈m.types,t.fields.length≤N
 params:∀r∈m.funcs,r.params.length≤N∧r.results.length≤N∧r.code.length≤N
end
end
section
@[simp] theorem d4H(S:b8)(l:List (Tx×Int)):rowsS S 2 (a6i l)=some (l.map a1z):=by simp[a6i,rowsS,J2]
@[simp] theorem d5r(S:b8)(l:List Tx):rowsS S 1 (b0y l)=some (A9 (l.map D.str)):=by simp[b0y,rowsS,J2]
theorem Grw.cells{S0 S:b8}{t:D}{rows:List (List D)}{sz:Nat}(g:Grw S0 t rows sz S):o4 t=some [t]:=by rcases g with ⟨rfl,_⟩|⟨_,_,_,rfl,_⟩<;>rfl
structure Mo.Fits (m:Mo):Prop where
 ok:m.Ok
 types:m.types.length<2^30
 texts:m.texts.length<2^30
 funcs:m.funcs.length<2^30
 fields:∀t∈m.types,t.fields.length<2^30
 params:∀r∈m.funcs,r.params.length<2^30∧r.results.length<2^30∧r.code.length<2^30
section
variable{E:i9}{w0:j7}
end
end
section
def P9(P:Program)(E:i9)(w0:j7)(f:FuncId)(ds:List D)(d:D):Prop:=∀S,j6 P E w0 f ds S fun d' S'=>d'=d∧S'=S
theorem P9.use{P:Program}{E:i9}{w0:j7}{f:FuncId}{ds:List D}{d:D}(h:P9 P E w0 f ds d){S:b8}{K:D→b8→Prop}(hk:K d S):j6 P E w0 f ds S K:=(h S).use fun d' S' ⟨a,b⟩=>by subst a b;exact hk
section
variable{E:i9}{w0:j7}
end
end
section
def b2z(d:Dat):In:=⟨d.1,d.2.1,d.2.2.1,d.2.2.2⟩
theorem d1a(d:Dat):(b2z d).dat=d:=rfl
def b6q(l:List In):D:= .lst (l.map O2) 4
def d3n(r:Dat×(Nat×Int)):D:= .tup [inD (b2z r.1), .int .i64 (r.2.1:Int), .int .i64 r.2.2]
def a3k(l:List (Dat×Nat)):List In:=l.map fun x=>b2z x.1
def a0h(l:List (Dat×Nat)):List Int:=l.map fun x=>(x.2:Int)
def d5G(r:Except Int (List (Dat×Nat))):D:=match r with
 | .ok l=> .tup [b6q (a3k l),iD (a0h l), .int .i64 0]
 | .error e=> .tup [b6q [],iD [], .int .i64 e]
abbrev a6P(bs:List Int):Except Int (List (Dat×Nat)):=b0u bs (bs.length+1) 0
theorem b2h{bs:List Int}{n p:Nat}(hp:p<bs.length):b0u bs (n+1) p=if(F0 bs p).2.2=0 then(match b0u bs n (F0 bs p).2.1 with| .ok l=> .ok (((F0 bs p).1,p)::l)| .error e=> .error e) else .error (F0 bs p).2.2:=by
 rw[b0u,if_neg (by omega)]
 all_goals rfl
theorem d0y{done:List (Dat×Nat)}{x:Dat×Nat}(r:Except Int (List (Dat×Nat))):c9P done (match r with| .ok l=> .ok (x::l)| .error e=> .error e)=c9P (done++[x]) r:=by
 cases r with
 |error e=>rfl
 |ok l=>simp[c9P]
theorem c1y{bs:List Int}(hb:∀b∈bs,F5 b){p:Nat}(h:(F0 bs (p:Int)).2.2=0):(b2z (F0 bs p).1).Ok∧p<(F0 bs p).2.1∧(F0 bs p).2.1≤bs.length:=by
 obtain⟨_,_,h3,_,hsg,hnx⟩:=d3o hb h (d1a _)
 rw[Int.toNat_natCast]at hnx hsg
 have:=d2P (b2z (F0 bs p).1)
 have:=hsg.1
 exact⟨h3,by omega,by omega⟩
section
variable{E:i9}{w0:j7}
theorem d0N{k sz:Nat}{rows:List (List D)}{acs:List AV}:Am.frz k ⟨sz,rows,acs⟩ (.raw k 0 rows.length rows.length false sz)= .lst rows sz:=by
 rw[c9a (by omega) (Nat.le_refl _),List.drop_zero,List.take_length]
theorem c2L{bs:List Int}(hb:∀b∈bs,F5 b)(hl:bs.length<2^30){n:Int}:P9 Try.prog E w0 a5l [bD bs, .int .i64 n] (d3n (F0 bs n)):=fun S=>
 (c1X hb hl).fin fun v S' ⟨t,ev,g⟩=>by
  subst ev
  rcases g with ⟨rfl,e,rfl⟩|⟨k,acs,h0,rfl,rfl⟩
  ·refine d9.weak (d':=d3n (F0 bs n)) ?_ d9.pure
   refine Wk.tup ⟨Wk.agg ⟨Wk.refl _,Wk.refl _,Wk.refl _, ?_,trivial⟩,Wk.refl _,Wk.refl _,trivial⟩
   have:b3U (b2z (F0 bs n).1).arms= .lst [] 2:=by unfold b3U;rw[show(b2z (F0 bs n).1).arms=(F0 bs n).1.2.2.2 from rfl,e]
   rw[this]
   exact Wk.nil 2
  ·refine d9.frz h0 ?_
   have:Am.frz k ⟨2,(F0 bs n).1.2.2.2.map a0x,acs⟩ (c3S (F0 bs n) (.raw k 0 ((F0 bs n).1.2.2.2.map a0x).length ((F0 bs n).1.2.2.2.map a0x).length false 2))=d3n (F0 bs n):=by
    have e:∀(o:D6) (a b c d e:Int) (tt:D),Am.frz k o (.tup [.agg [.int .u8 a, .int .i64 b, .int .i64 c,tt], .int .i64 d, .int .i64 e])= .tup [.agg [.int .u8 a, .int .i64 b, .int .i64 c,Am.frz k o tt], .int .i64 d, .int .i64 e]:=by
     intros;simp only[Am.frz,Am.b8N]
    unfold c3S a1a
    rw[e,d0N]
    rfl
   rw[this]
   exact d9.pure
def d4p(S:b8)(r:Except Int (List (Dat×Nat)))(v:D)(T:b8):Prop:=match r with
 | .ok l=>∃t u,v= .tup [t,u, .int .i64 0]∧GrP S [] t ((a3k l).map O2) 4 u (iC (a0h l)) 1 T
 | .error e=>v= .tup [.nilSlc, .nilSlc, .int .i64 e]∧T=S
theorem b8q{bs:List Int}(hb:∀b∈bs,F5 b)(hl:bs.length<2^30){S:b8}:j6 Try.prog E w0 a5u [bD bs] S (d4p S (a6P bs)):=by
 refine c4U ?_
 unfold c3d
 refine b9X (I:=fun n x0 x5 x6 x7 T=>x0=bD bs∧∃(p:Nat) (done:List (Dat×Nat)),x7= .int .i64 (p:Int)∧p≤bs.length∧bs.length<p+n∧done.length≤p∧GrP S [] x5 ((a3k done).map O2) 4 x6 (iC (a0h done)) 1 T∧a6P bs=c9P done (b0u bs n p)) ?_ (n:=bs.length+1)
  ⟨rfl,0,[],rfl,by omega,by omega,by simp,GrP.nil,by unfold a6P;cases b0u bs (bs.length+1) 0<;>rfl⟩
 rintro n _ x5 x6 _ T ⟨rfl,p,done,rfl,hp,hpn,hdl,hg,hrun⟩
 unfold b1S
 rw[a2E,oD,L7,oD,M0]
 obtain⟨n,rfl⟩:∃m,n=m+1:=⟨n - 1,by omega⟩
 refine⟨fun hlt=> ?_,fun hge=> ?_⟩
 ·have hlt:p<bs.length:=by omega
  rw[b2h hlt]at hrun
  refine(c2L hb hl).use ?_
  unfold d3n
  simp only[exD,List.getElem?_cons_zero,List.getElem?_cons_succ,oD]
  intro k a nk
  refine(z7.new (sz:=4) (c:=[.int .u8 0, .int .i64 0, .int .i64 0, .nilSlc])).st (ds:=O2 (b2z (F0 bs p).1)) (W3 _) ⟨rfl,by decide,by decide⟩ fun a'=> ?_
  rw[b8.set_set,show l7 [.int .u8 0, .int .i64 0, .int .i64 0, .nilSlc] 0 (O2 (b2z (F0 bs p).1))=O2 (b2z (F0 bs p).1) from rfl,c2E,oD,d3u,M0]
  have hg2:=hg.set (o:=⟨4,[O2 (b2z (F0 bs p).1)],a'⟩) nk
  refine⟨fun he=> ?_,fun he=> ?_⟩
  ·rw[if_neg he]at hrun
   rw[hrun]
   exact d9.less hg2.1 (d9.here ⟨rfl,rfl⟩)
  ·have he:(F0 bs p).2.2=0:=Classical.not_not.1 he
   obtain⟨_,h1,h2⟩:=c1y hb he
   rw[if_pos he,d0y]at hrun
   rw[(z7.new).all (n:=4) (by decide) rfl,oD,show j1 4 (List.replicate 1 [(D.int .u8 0),(.int .i64 0),(.int .i64 0), .nilSlc]) [(0, .agg (O2 (b2z (F0 bs p).1)))]=some [O2 (b2z (F0 bs p).1)]from rfl]
   refine C9 rfl ?_
   refine hg2.push (news:=[O2 (b2z (F0 bs p).1)]) (by simp[rowsS,J2]) (by simp) (by simp[a3k];omega) fun t' T' _ hg3=> ?_
   rw[show j1 1 (List.replicate 1 [D.int .i64 0]) [(0, .int .i64 (p:Int))]=some (iC [(p:Int)]) from rfl]
   refine C9 rfl ?_
   refine hg3.swap.push (news:=iC [(p:Int)]) (by simp[rowsS,J2]) (by simp[iC,A9]) (by simp[a0h];omega) fun u' T2 _ hg4=> ?_
   refine⟨n,by omega,by trivial,(F0 bs p).2.1,done++[((F0 bs p).1,p)],rfl,h2,by omega,by simp;omega, ?_,hrun⟩
   have e1:(a3k (done++[((F0 bs p).1,p)])).map O2=(a3k done).map O2++[O2 (b2z (F0 bs p).1)]:=by simp[a3k]
   have e2:iC (a0h (done++[((F0 bs p).1,p)]))=iC (a0h done)++iC [(p:Int)]:=by rw[←a3w];simp[a0h]
   rw[e1,e2]
   exact hg4.swap
 ·have e0:b0u bs (n+1) p= .ok []:=by rw[b0u,if_pos (by omega)]
  rw[e0]at hrun
  rw[hrun]
  have:c9P done (.ok [])= .ok done:=by simp[c9P]
  rw[this]
  exact d9.here ⟨_,_,rfl,hg⟩
theorem c8h{bs:List Int}(hb:∀b∈bs,F5 b)(hl:bs.length<2^30):P9 Try.prog E w0 a5u [bD bs] (d5G (a6P bs)):=fun S=>
 (b8q hb hl).fin fun v T h=>by
  cases hr:a6P bs with
  |error e=>
   rw[hr]at h
   obtain⟨rfl,rfl⟩:=h
   exact d9.weak (d':= .tup [b6q [],iD [], .int .i64 e]) (Wk.tup ⟨Wk.nil 4,Wk.nil 1,Wk.refl _,trivial⟩) d9.pure
  |ok l=>
   rw[hr]at h
   obtain⟨t,u,rfl,hg⟩:=h
   exact hg.fin d9.pure
end
theorem b9Z{bs:List Int}(hb:∀b∈bs,F5 b):∀(n p:Nat) (l:List (Dat×Nat)),b0u bs n p= .ok l→p≤bs.length→l.length+p≤bs.length∧∀x∈l,(b2z x.1).Ok
 |0,p,l,h,hp=>by cases h;exact⟨by simpa using hp,by simp⟩
 |n+1,p,l,h,hp=>by
  by_cases hlt:p<bs.length
  ·rw[b2h hlt]at h
   split at h
   ·rename_i he
    obtain⟨h1,h2,h3⟩:=c1y hb he
    split at h
    ·rename_i l' e
     cases h
     obtain⟨g1,g2⟩:=b9Z hb n _ l' e h3
     refine⟨by simp only[List.length_cons];omega,fun x hx=> ?_⟩
     rcases List.mem_cons.1 hx with rfl|hx
     ·exact h1
     ·exact g2 x hx
    ·cases h
   ·cases h
  ·have e0:b0u bs (n+1) p= .ok []:=by rw[b0u,if_pos (by omega)]
   rw[e0]at h
   cases h
   exact⟨by simpa using hp,by simp⟩
def a8n(r:Except Int (List (Dat×Nat))):List In×List Int×Int:=match r with
 | .ok l=>(a3k l,a0h l,0)
 | .error e=>([],[],e)
theorem d3p(r:Except Int (List (Dat×Nat))):d5G r= .tup [b6q (a8n r).1,iD (a8n r).2.1, .int .i64 (a8n r).2.2]:=by cases r<;>rfl
theorem d3j{bs:List Int}(hb:∀b∈bs,F5 b):(∀y∈(a8n (a6P bs)).1,y.Ok)∧(a8n (a6P bs)).1.length≤bs.length∧(a8n (a6P bs)).2.1.length≤bs.length:=by
 cases h:a6P bs with
 |error e=>exact⟨by simp[a8n],by simp[a8n],by simp[a8n]⟩
 |ok l=>
  obtain⟨h1,h2⟩:=b9Z hb _ 0 l h (Nat.zero_le _)
  refine⟨fun y hy=> ?_,by simp[a8n,a3k];omega,by simp[a8n,a0h];omega⟩
  obtain⟨x,hx,rfl⟩:=List.mem_map.1 hy
  exact h2 x hx
end
end Go.Proofs.Ytdkidgkiplcggaa.d
end
