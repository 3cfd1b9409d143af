/-
  BlocksReachesSaid: part Mav of its proof.
-/
import Derived.Test.YtdkidgkiplcggaaMau
import Derived.Test.YtdkidgkiplcggaaMat
import Derived.Test.YtdkidgkiplcggaaRows
import Derived.Test.YtdkidgkiplcggaaMar
import Derived.KernelRfl
set_option linter.unusedVariables false
set_option linter.unusedSimpArgs false
set_option maxRecDepth 100000
section
open Go.Proofs Go Go.Am Go.Op
namespace Go.Proofs.Ytdkidgkiplcggaa.d
section
variable{E:d6}{w0:i5}
theorem c7O(T:b4){k l:Nat}(h:k≠l)(z z' A B:u7):(((T.set k z).set l z').set k A).set l B=(T.set k A).set l B:=by
 rw[b4.set_in _ h,b4.set_set]
theorem c7B(T:b4){k l:Nat}(h:k≠l)(z z' A B:u7):(((T.set k z).set l z').set l B).set k A=(T.set k A).set l B:=by
 rw[b4.set_set,b4.set_in _ h]
theorem c0t{bs:List Int}{j:Nat}{a b:Int}{s:Nat×Int}{f:Fld}{l:List Fld}(h:l[j]? =some f):b3x bs j a b s (l.drop j)=b3x bs (j+1) (if j=0 then(B1 bs f s).1 else a) (if j=0 then b else(B1 bs f s).1) (B1 bs f s).2 (l.drop (j+1)):=by
 obtain⟨hj,rfl⟩:=List.getElem?_eq_some_iff.1 h
 rw[List.drop_eq_getElem_cons hj,b3x]
theorem b3Q{bs:List Int}(hb:∀b∈bs,W3 b)(hl:bs.length<2^30){n:Int}{S:b4}:r8 Try.prog E w0 a1M [bD bs, .int .i64 n] S fun v S'=>∃t,v=b6G (A7 bs n) t∧Grw S t ((A7 bs n).1.2.2.2.map a0L) 2 S':=by
 refine b2i ?_
 unfold b0h
 intro k4 a4 n4
 have h4:I1 (S.set k4 ⟨4,[zC],a4⟩) k4 4 zC:=I1.new
 change b5 _ _
 have le4:S.le (S.set k4 ⟨4,[zC],a4⟩):=b4.le_new n4
 by_cases hn:n<0∨n≥bs.length
 ·have e:A7 bs n=(b9Y,(0,2)):=by unfold A7;rw[if_pos hn]
  have fin:(b5 (E4 (s9 [(D.int .u8 0),(.int .i64 0),(.int .i64 0), .nilSlc] [])) fun v8=>j4 (S.set k4 ⟨4,[zC],a4⟩) 4 (.ptr k4 0) v8 fun v9 S10=>b5 (s8 S10 4 (.ptr k4 0)) fun v11=>b9 E (fun v S'=>∃t,v=b6G (A7 bs n) t∧Grw S t ((A7 bs n).1.2.2.2.map a0L) 2 S') (.tup [v11,(.int .i64 0),(.int .i64 2)]) S10):=by
   rw[fiN,agS,oD]
   refine h4.st (clA _) ⟨rfl,by decide,by decide⟩ fun a=> ?_
   rw[(I1.new).all (n:=4) (by decide) rfl,oD,b4.set_set]
   refine b9.drop n4 (b9.here ⟨.nilSlc, ?_, ?_⟩)
   ·rw[e];rfl
   ·rw[e];exact Grw.nil _ _
  rw[V6,oD]
  by_cases h1:n<0
  ·rw[decide_eq_true h1]
   simp only[wdB,vdF,oD,pdB,if_true,cdT,show((true==false)=false) from rfl]
   exact fin
  ·have h2:decide (n≥(bs.length:Int))=true:=decide_eq_true (hn.resolve_left h1)
   rw[decide_eq_false h1]
   simp only[wdB,vdT,oD,pdB,Bool.false_eq_true,if_false,b0y,c4b,h2,cdT,show((false==false)=true) from rfl]
   exact fin
 have hn0:¬n<0:=fun h=>hn (.inl h)
 have hn1:¬n≥(bs.length:Int):=fun h=>hn (.inr h)
 obtain⟨p,rfl⟩:∃p:Nat,n=(p:Int):=⟨n.toNat,by omega⟩
 have hp:p<bs.length:=by omega
 have edT:A7 bs (p:Int)=b5g bs p:=by unfold A7;rw[if_neg hn];rfl
 obtain⟨op,hop⟩:∃op,op=bs[p]:=⟨_,rfl⟩
 have hj:bs[p]? =some op:=by rw[List.getElem?_eq_getElem hp,hop]
 have hbop:W3 op:=hb op (by rw[hop];exact List.getElem_mem _)
 have egd:bs.getD p 0=op:=by rw[List.getD_eq_getElem?_getD,hj];rfl
 rw[V6,oD,decide_eq_false hn0]
 simp only[wdB,vdT,oD,pdB,Bool.false_eq_true,if_false,b0y,c4b,decide_eq_false hn1,cdF,show((false==false)=true) from rfl]
 rw[c3u hj,oD,lsE,List.getElem?_cons_zero,oD]
 have hag:E4 (s9 [(D.int .u8 0),(.int .i64 0),(.int .i64 0), .nilSlc] [(0,1, .int .u8 op)])=some (.agg (P9 op 0 0 .nilSlc)):=rfl
 rw[hag,oD]
 intro k7 a7 n7
 have d47:k4≠k7:=h4.none n7
 have n7':S k7=none:=b4.none_of le4 n7
 have h7z:I1 ((S.set k4 ⟨4,[zC],a4⟩).set k7 ⟨4,[zC],a7⟩) k7 4 zC:=I1.new
 refine h7z.st (ds:=P9 op 0 0 .nilSlc) (clA _) ⟨rfl,by decide,by decide⟩ fun a7=> ?_
 rw[b4.set_set,show o5 zC 0 (P9 op 0 0 .nilSlc)=P9 op 0 0 .nilSlc from rfl]
 have h7:I1 ((S.set k4 ⟨4,[zC],a4⟩).set k7 ⟨4,[P9 op 0 0 .nilSlc],a7⟩) k7 4 (P9 op 0 0 .nilSlc):=I1.new
 have h4':=h4.set (o:=⟨4,[P9 op 0 0 .nilSlc],a7⟩) n7
 have le7:S.le ((S.set k4 ⟨4,[zC],a4⟩).set k7 ⟨4,[P9 op 0 0 .nilSlc],a7⟩):=b4.le_set le4 n7'
 generalize (S.set k4 ⟨4,[zC],a4⟩).set k7 ⟨4,[P9 op 0 0 .nilSlc],a7⟩=T7 at*
 rw[ofP,oD,h7.ld,show(P9 op 0 0 .nilSlc)[0+0]? =some (.int .u8 op) from rfl,oD]
 refine b5y.use ?_
 simp only[exD,List.getElem?_cons_zero,List.getElem?_cons_succ,oD,unN]
 cases hlay:lay op with
 |none=>
  rw[show(!(none:Option (List Fld)).isSome)=true from rfl,cdT,fiN,agS,oD]
  have e:A7 bs (p:Int)=(b9Y,(0,120)):=by rw[edT];unfold b5g;rw[egd,if_pos hlay]
  refine h4'.st (clA _) ⟨rfl,by decide,by decide⟩ fun a=> ?_
  rw[(I1.new).all (n:=4) (by decide) rfl,oD]
  refine b9.less (b4.le_set le7 n4) (b9.here ⟨.nilSlc, ?_, ?_⟩)
  ·rw[e];rfl
  ·rw[e];exact Grw.nil _ _
 |some l=>
 rw[show(!(some l).isSome)=false from rfl,cdF,C6,oD,g9 (by omega) (by omega)]
 have hag2:E4 (s9 [.nilSlc,(D.int .i64 0),(.int .i64 0)] [(0,1,bD bs),(1,1, .int .i64 ((p:Int)+1))])=some (.agg (rdC bs (p+1,0))):=rfl
 rw[hag2,oD,clA,oD]
 intro k10 a10 n10
 have hst:N9 S k4 k7 k10 (P9 op 0 0 .nilSlc) bs (p+1,0) (T7.set k10 ⟨3,[rdC bs (p+1,0)],a10⟩):=
  ⟨b4.le_set le7 (b4.none_of le7 n10),n4,n7',b4.none_of le7 n10,d47,h4'.set n10,h7.set n10,I1.new⟩
 have hl2:l.length≤2:=by have:=b3t (op:=op);rw[hlay]at this;exact this
 have hgood:∀f∈l,a7C f:=by have:=b5Y op;rw[hlay]at this;exact this
 have hgd:(lay op).getD []=l:=by rw[hlay];rfl
 rw[lnL,oD,b6O,hgd]
 have hl60:bs.length<2^60:=by omega
 have edS:b5g bs p=if(b1n bs p).2.2≠0 then(b9Y,(0,(b1n bs p).2.2)) else b1n bs p:=by
  unfold b5g;rw[egd,if_neg (by rw[hlay];simp)]
 refine a8X (I:=fun n x4 x7 x10 x45 x46 x47 T=>x4= .ptr k4 0∧x7= .ptr k7 0∧x10= .ptr k10 0∧x45= .lst (a6h op) 2∧x46= .int .i64 (l.length:Int)∧∃(j:Nat) (a b:Int) (s:Nat×Int),x47= .int .i64 (j:Int)∧j+n=l.length∧
   N9 S k4 k7 k10 (P9 op a b .nilSlc) bs s T∧s.1≤bs.length∧b3x bs j a b s (l.drop j)=J7 bs l (p+1,0)) ?_ (n:=l.length)
  ⟨rfl,rfl,rfl,rfl,rfl,0,0,0,(p+1,0),rfl,by omega,hst,by show p+1≤bs.length;omega,c2T hl2⟩
 rintro n _ _ _ _ _ _ T ⟨rfl,rfl,rfl,rfl,rfl,j,a,b,s,rfl,hjn,hd,hs,hfold⟩
 unfold a2c
 rw[V6,oD,cdI]
 refine⟨fun hlt=> ?_,fun hge=> ?_⟩
 ·have hlt:j<l.length:=by omega
  obtain⟨f,hf⟩:∃f,f=l[j]:=⟨_,rfl⟩
  have hjf:l[j]? =some f:=by rw[List.getElem?_eq_getElem hlt,hf]
  obtain⟨row,hrow,hfd⟩:=c3b (op:=op) (i:=j) (f:=f) (by rw[hgd];exact hjf)
  have hg:=hgood f (by rw[hf];exact List.getElem_mem _)
  have hg1:=hg.1
  have hg8:=a5a hg
  have hrl:=hfd.len
  rw[b5t hrow,oD,laE,if_pos ⟨by decide,by omega⟩,oD,List.drop_zero,List.take_of_length_le (by omega)]
  intro k ak nk
  refine(I1.new (sz:=2) (c:=[D.int .i64 0, .nilFn])).st (ds:=row) (clA _) ⟨hrl,by decide,by simp⟩ fun ak=> ?_
  rw[b4.set_set,c4V hfd]
  have hd2:=hd.new (o:=⟨2,[row],ak⟩) nk
  have hc:I1 (T.set k ⟨2,[row],ak⟩) k 2 row:=I1.new
  change b5 _ _
  rw[c0t hjf]at hfold
  have hI:=b6t (f:=f) hs
  rw[a7j,oD,cdB]
  refine⟨fun h0=> ?_,fun h0=> ?_⟩
  ·have h0:j=0:=by have:(j:Int)=0:=by simpa using h0
                   omega
   rw[if_pos h0,if_pos h0]at hfold
   rw[hc.all (n:=2) (by decide) hrl.symm,oD]
   refine(a4h hd2 hb hl60 hs hfd hg1 hg8).use ?_
   rintro v T2 ⟨rfl,hd3,_⟩
   rw[ofP,oD]
   refine hd3.h7.st (clI _ _) ⟨rfl,by decide,by simp[P9]⟩ fun a7=> ?_
   rw[C6,oD,g9 (by omega) (by omega)]
   exact⟨n - 1,by omega,rfl,rfl,rfl,rfl,rfl,j+1,_,b,_,rfl,by omega,hd3.set7 (c:=P9 op (B1 bs f s).1 b .nilSlc),hI,hfold⟩
  ·have h0:¬j=0:=by have:¬(j:Int)=0:=by simpa using h0
                    omega
   rw[if_neg h0,if_neg h0]at hfold
   rw[hc.all (n:=2) (by decide) hrl.symm,oD]
   refine(a4h hd2 hb hl60 hs hfd hg1 hg8).use ?_
   rintro v T2 ⟨rfl,hd3,_⟩
   rw[ofP,oD]
   refine hd3.h7.st (clI _ _) ⟨rfl,by decide,by simp[P9]⟩ fun a7=> ?_
   rw[C6,oD,g9 (by omega) (by omega)]
   exact⟨n - 1,by omega,rfl,rfl,rfl,rfl,rfl,j+1,a,_,_,rfl,by omega,hd3.set7 (c:=P9 op a (B1 bs f s).1 .nilSlc),hI,hfold⟩
 ·have hj':j=l.length:=by omega
  subst hj'
  rw[List.drop_length,b3x]at hfold
  rw[ofP,oD,hd.h7.ld,show(P9 op a b .nilSlc)[0+0]? =some (.int .u8 op) from rfl,oD,a7j,oD,cdB]
  refine⟨fun h49=> ?_,fun h49=> ?_⟩
  ·have h49:op=49:=by simpa using h49
   have hb0:b=0:=by
    have hl1:=c5l hlay h49
    rw[hl1]at hfold
    exact congrArg (fun q:Int×Int×(Nat×Int)=>q.2.1) hfold
   subst hb0
   have edX:b1n bs p=a4j bs 49 a s:=by unfold b1n;rw[egd,if_pos h49,hgd, ←hfold]
   have d7:∀ {k:Nat},T k=none→k7≠k:=fun hk=>hd.h7.none hk
   have hfin:∀ {k l:Nat} {T':b4},T k=none→T l=none→N9 S k4 k7 k10 (P9 op a 0 .nilSlc) bs s T'→I1 T' k 2 [.int .i64 4,W1 0 4294967295]→I1 T' l 2 [.int .i64 8,a7d (IntKind.u8.wrap a)]→
     k9 E w0 (b9 E (fun v S'=>∃t,v=b6G (A7 bs (p:Int)) t∧Grw S t ((A7 bs (p:Int)).1.2.2.2.map a0L) 2 S')) (.ptr k4 0) (.ptr k7 0) (.ptr k10 0) (.ptr k 0) (.ptr l 0) T':=fun{k l T'} nk nl hd' c1 c2=>by
    refine c5H hb hl hd' hs c1 c2 (b4.none_of hd.le nk) (b4.none_of hd.le nl) ⟨d7 nk,d7 nl⟩ fun t S' hg=> ?_
    rw[h49]
    rw[h49]at hg
    by_cases he:(a4j bs 49 a s).2.2=0
    ·rw[if_pos he]
     have e:A7 bs (p:Int)=a4j bs 49 a s:=by rw[edT,edS,edX,if_neg (by simp[he])]
     refine b9.here ⟨t, ?_,by rw[e];exact hg⟩
     rw[e]
     unfold b6G
     rw[he]
     rfl
    ·rw[if_neg he]
     have e:A7 bs (p:Int)=(b9Y,(0,(a4j bs 49 a s).2.2)):=by rw[edT,edS,edX,if_pos he]
     refine b9.less hg.le (b9.here ⟨.nilSlc, ?_,by rw[e];exact Grw.nil _ _⟩)
     rw[e];rfl
   have ld1:c9 T (.ptr k7 (0+1))=some (.int .i64 a):=hd.h7.ld 1
   have hA:∀ {k l:Nat} {ak al:List AV},T k=none→(T.set k ⟨2,[[.int .i64 0, .nilFn]],ak⟩) l=none→∀ak al,k9 E w0 (b9 E (fun v S'=>∃t,v=b6G (A7 bs (p:Int)) t∧Grw S t ((A7 bs (p:Int)).1.2.2.2.map a0L) 2 S')) (.ptr k4 0) (.ptr k7 0) (.ptr k10 0) (.ptr k 0) (.ptr l 0)
     ((T.set k ⟨2,[[.int .i64 4,W1 0 4294967295]],ak⟩).set l ⟨2,[[.int .i64 8,a7d (IntKind.u8.wrap a)]],al⟩):=fun{k l _ _} nk nl ak al=>by
    obtain⟨ne,nl'⟩:=b4.fresh nl
    have nl2:(T.set k ⟨2,[[.int .i64 4,W1 0 4294967295]],ak⟩) l=none:=by rw[b4.set_ne _ _ _ ne];exact nl'
    exact hfin nk nl' ((hd.new nk).new nl2) ((I1.new).set nl2) I1.new
   have hB:∀ {k l:Nat} {ak al:List AV},T k=none→(T.set k ⟨2,[[.int .i64 0, .nilFn]],ak⟩) l=none→∀ak al,k9 E w0 (b9 E (fun v S'=>∃t,v=b6G (A7 bs (p:Int)) t∧Grw S t ((A7 bs (p:Int)).1.2.2.2.map a0L) 2 S')) (.ptr k4 0) (.ptr k7 0) (.ptr k10 0) (.ptr l 0) (.ptr k 0)
     ((T.set k ⟨2,[[.int .i64 8,a7d (IntKind.u8.wrap a)]],ak⟩).set l ⟨2,[[.int .i64 4,W1 0 4294967295]],al⟩):=fun{k l _ _} nk nl ak al=>by
    obtain⟨ne,nl'⟩:=b4.fresh nl
    have nl2:(T.set k ⟨2,[[.int .i64 8,a7d (IntKind.u8.wrap a)]],ak⟩) l=none:=by rw[b4.set_ne _ _ _ ne];exact nl'
    exact hfin nl' nk ((hd.new nk).new nl2) I1.new ((I1.new).set nl2)
   have l0:∀ {k:Nat} {o:u7},T k=none→(T.set k o) k7=T k7:=fun nk=>b4.set_ne _ _ _ (d7 nk)
   simp only[ofP,oD,ld1,cvI]
   repeat' (refine And.intro ?_ ?_)
   all_goals (repeat (first|refine B8.use ?_|refine Y3.use ?_|refine⟨fwR _ _, ?_⟩|rw[a2N (a9M _ _),oD]|rw[a2N (b5V _),oD]))
   all_goals (intro k ak nk)
   all_goals (have f1:=l0 (o:=⟨2,[[.int .i64 0, .nilFn]],ak⟩) nk)
   all_goals (repeat (first|refine B8.use ?_|refine Y3.use ?_|rw[a2N (a9M _ _),oD]|rw[a2N (b5V _),oD]|refine⟨f1, ?_⟩))
   all_goals (intro l' al nl)
   all_goals (have f2:∀ {o:u7},((T.set k ⟨2,[[.int .i64 0, .nilFn]],ak⟩).set l' o) k7=T k7:=fun{o}=>by rw[b4.set_ne _ _ _ (d7 (b4.fresh nl).2)];exact f1)
   all_goals (have ne:k≠l':=Ne.symm (b4.fresh nl).1)
   all_goals (repeat (first|refine B8.use ?_|refine Y3.use ?_|rw[a2N (a9M _ _),oD]|rw[a2N (b5V _),oD]|refine⟨f2, ?_⟩))
   all_goals (first
    |refine stP (k:=k) (cs:=[.int .i64 0, .nilFn]) (b4.set_ne _ _ _ ne |>.trans (b4.set_same _ _ _)) (clA _) ⟨rfl,by decide,by simp⟩ fun a1=> ?_
    |refine stP (k:=l') (cs:=[.int .i64 0, .nilFn]) (b4.set_same _ _ _) (clA _) ⟨rfl,by decide,by simp⟩ fun a1=> ?_)
   all_goals (first
    |refine stP (k:=l') (cs:=[.int .i64 0, .nilFn]) ((b4.set_ne _ _ _ (Ne.symm ne)).trans (b4.set_same _ _ _)) (clA _) ⟨rfl,by decide,by simp⟩ fun a2=> ?_
    |refine stP (k:=k) (cs:=[.int .i64 0, .nilFn]) (((b4.set_ne _ _ _ ne).trans (b4.set_ne _ _ _ ne)).trans (b4.set_same _ _ _)) (clA _) ⟨rfl,by decide,by simp⟩ fun a2=> ?_)
   all_goals (first|rw[c7O _ ne]|rw[c7B _ ne])
   all_goals (first|exact hA (al:=al) nk nl _ _|exact hB (al:=al) nk nl _ _)
  ·have h49:¬op=49:=by simpa using h49
   have edX:b1n bs p=((op,a,b,[]),s):=by unfold b1n;rw[egd,if_neg h49,hgd, ←hfold]
   refine c0Y hd.h4 hd.h7 hd.h10 rfl rfl fun S'' hS''=> ?_
   have hle:S.le S'':=fun i o e=>by rw[hS'' i (fun e'=>by rw[e',hd.n4]at e;cases e)];exact hd.le _ _ e
   refine b9.less hle (b9.here ⟨.nilSlc, ?_, ?_⟩)
   ·by_cases he:s.2=0
    ·rw[if_pos he,edT,edS,edX,if_neg (by simp[he])]
     unfold b6G;rw[he]
    ·rw[if_neg he,edT,edS,edX,if_pos (by simpa using he)];rfl
   ·rw[edT,edS,edX]
    by_cases he:s.2=0
    ·rw[if_neg (by simp[he])];exact Grw.nil _ _
    ·rw[if_pos (by simpa using he)];exact Grw.nil _ _
end
end Go.Proofs.Ytdkidgkiplcggaa.d
end
section
namespace Go.Am
def ob:D→List Nat
 | .raw k _ _ _ _ _=>[k]
 |_=>[]
section
variable{S T:b4}{av:List Nat}{t u:D}{rows rows':List (List D)}{sz sz':Nat}
theorem Z1.ob_some(h:Z1 S av t rows sz T):∀j∈ob t,T j≠Option.none:=by
 rcases h with ⟨rfl,_⟩|⟨k,acs,_,_,rfl,h3⟩
 ·simp[ob]
 ·simp[ob,h3]
theorem Z1.ob_av(h:Z1 S av t rows sz T):∀j∈ob t,j ∉ av:=by
 rcases h with ⟨rfl,_⟩|⟨k,acs,_,h1,rfl,_⟩
 ·simp[ob]
 ·simpa [ob]using h1
theorem Z1.apart(h:Z1 S av t rows sz T){T':b4}{av':List Nat}(e:∀j∈ob t,T' j=T j)(ha:∀j∈ob t,j ∉ av'):Z1 S av' t rows sz T':=by
 rcases h with h|⟨k,acs,h0,h1,rfl,h3⟩
 ·exact .inl h
 ·exact .inr ⟨k,acs,h0,ha k (by simp[ob]),rfl,by rw[e k (by simp[ob])];exact h3⟩
theorem b9.grA{E:d6}{Q:D→b4→Prop}{pre post:List D}(h:Z1 S av t rows sz T)(hle:S.le T)(hQ:∀T',S.le T'→(∀j,j ∉ ob t→T' j=T j)→b9 E Q (.tup (pre++ .lst rows sz::post)) T'):b9 E Q (.tup (pre++t::post)) T:=by
 rcases h with ⟨rfl,rfl⟩|⟨k,acs,h0,h1,rfl,h3⟩
 ·exact b9.nilT (hQ T hle fun _ _=>rfl)
 ·refine b9.freezeT h3 rfl (by simp) (Nat.le_refl _) ?_
  simpa using hQ (T.erase k) (b4.le_erase hle h0) fun j hj=>b4.erase_ne _ _ (by simpa [ob]using hj)
def GrP(S:b4)(av:List Nat)(t:D)(rows:List (List D))(sz:Nat)(u:D)(rows':List (List D))(sz':Nat)(T:b4):Prop:=
 S.le T∧(∀j∈av,T j≠Option.none)∧Z1 S (ob u++av) t rows sz T∧Z1 S (ob t++av) u rows' sz' T
theorem GrP.nil:GrP S [] .nilSlc [] sz .nilSlc [] sz' S:=⟨b4.le_refl _,by simp,Z1.nil,Z1.nil⟩
theorem GrP.swap(h:GrP S av t rows sz u rows' sz' T):GrP S av u rows' sz' t rows sz T:=⟨h.1,h.2.1,h.2.2.2,h.2.2.1⟩
theorem GrP.push(h:GrP S av t rows sz u rows' sz' T){bytes:Nat}{v:D}{news:List (List D)}(hv:rowsS T sz v=some news)(hn:news≠[])(hb:0<bytes∧(2*(rows.length+news.length)+768)*bytes≤2^47){K:D→b4→Prop}
  (hK:∀t' T',(∀j∈av,T' j=T j)→GrP S av t' (rows++news) sz u rows' sz' T'→K t' T'):s0 T sz bytes t v K:=by
 obtain⟨h1,h2,h3,h4⟩:=h
 refine h3.push h1 (fun j hj=> ?_) hv hn hb fun t' T' hle he hg=>hK t' T' (fun j hj=>he j (List.mem_append_right _ hj)) ⟨hle,fun j hj=> ?_,hg, ?_⟩
 ·rcases List.mem_append.1 hj with hj|hj
  ·exact h4.ob_some j hj
  ·exact h2 j hj
 ·rw[he j (List.mem_append_right _ hj)];exact h2 j hj
 ·refine h4.apart (fun j hj=>he j (List.mem_append_left _ hj)) fun j hj hm=> ?_
  rcases List.mem_append.1 hm with hm|hm
  ·exact hg.ob_av j hm (List.mem_append_left _ hj)
  ·exact h4.ob_av j hj (List.mem_append_right _ hm)
theorem GrP.set(h:GrP S av t rows sz u rows' sz' T){l:Nat}{o:u7}(hl:T l=Option.none):GrP S av t rows sz u rows' sz' (T.set l o):=by
 obtain⟨h1,h2,h3,h4⟩:=h
 exact⟨b4.le_set h1 (b4.none_of h1 hl),fun j hj=>(by rw[b4.set_ne _ _ _ (fun e=>h2 j hj (by rw[e];exact hl))];exact h2 j hj),h3.set (.inr hl),h4.set (.inr hl)⟩
theorem GrP.more(h:GrP S av t rows sz u rows' sz' T){l:Nat}{o:u7}(hl:T l=Option.none):GrP S (l::av) t rows sz u rows' sz' (T.set l o):=by
 have hs:=h.set (o:=o) hl
 have n1:∀j∈ob t,j≠l:=fun j hj e=>h.2.2.1.ob_some j hj (e▸hl)
 have n2:∀j∈ob u,j≠l:=fun j hj e=>h.2.2.2.ob_some j hj (e▸hl)
 refine⟨hs.1,fun j hj=> ?_,hs.2.2.1.apart (fun _ _=>rfl) fun j hj hm=> ?_,hs.2.2.2.apart (fun _ _=>rfl) fun j hj hm=> ?_⟩
 ·rcases List.mem_cons.1 hj with rfl|hj
  ·rw[b4.set_same];simp
  ·exact hs.2.1 j hj
 ·rcases List.mem_append.1 hm with hm|hm
  ·exact hs.2.2.1.ob_av j hj (List.mem_append_left _ hm)
  ·rcases List.mem_cons.1 hm with rfl|hm
   ·exact n1 _ hj rfl
   ·exact hs.2.2.1.ob_av j hj (List.mem_append_right _ hm)
 ·rcases List.mem_append.1 hm with hm|hm
  ·exact hs.2.2.2.ob_av j hj (List.mem_append_left _ hm)
  ·rcases List.mem_cons.1 hm with rfl|hm
   ·exact n2 _ hj rfl
   ·exact hs.2.2.2.ob_av j hj (List.mem_append_right _ hm)
theorem GrP.fin{E:d6}{Q:D→b4→Prop}{post:List D}(h:GrP S av t rows sz u rows' sz' T)(hQ:b9 E Q (.tup (.lst rows sz:: .lst rows' sz'::post)) S):b9 E Q (.tup (t::u::post)) T:=by
 obtain⟨h1,h2,h3,h4⟩:=h
 refine b9.grA (pre:=[]) h3 h1 fun T' hle he=> ?_
 have h4':Z1 S (ob t++av) u rows' sz' T':=h4.apart (fun j hj=>he j fun hm=>h3.ob_av j hm (List.mem_append_left _ hj)) fun j hj hm=>h4.ob_av j hj hm
 exact b9.grA (pre:=[.lst rows sz]) h4' hle fun T2 hle2 _=>b9.less hle2 hQ
end
end Go.Am
end
section
open Go.Proofs Go Go.Am Go.Op
namespace Go.Proofs.Ytdkidgkiplcggaa.d
section
section
variable{E:d6}{w0:i5}
structure Mo.Small (m:Mo) (N:Nat):Prop where
 types:m.types.length≤N
 texts:m.texts.length≤N
 funcs:m.funcs.length≤N
 fields:∀t∈m.types,t.fields.length≤N
 params:∀r∈m.funcs,r.params.length≤N∧r.results.length≤N∧r.code.length≤N
end
end
section
@[simp] theorem c5Z(S:b4)(l:List (Tx×Int)):rowsS S 2 (b7Y l)=some (l.map c4Y):=by simp[b7Y,rowsS,E0]
@[simp] theorem c6w(S:b4)(l:List Tx):rowsS S 1 (c4B l)=some (Z7 (l.map D.str)):=by simp[c4B,rowsS,E0]
theorem Grw.cells{S0 S:b4}{t:D}{rows:List (List D)}{sz:Nat}(g:Grw S0 t rows sz S):s6 t=some [t]:=by rcases g with ⟨rfl,_⟩|⟨_,_,_,rfl,_⟩<;>rfl
structure Mo.Fits (m:Mo):Prop where
 ok:m.Ok
 types:m.types.length<2^30
 texts:m.texts.length<2^30
 funcs:m.funcs.length<2^30
 fields:∀t∈m.types,t.fields.length<2^30
 params:∀r∈m.funcs,r.params.length<2^30∧r.results.length<2^30∧r.code.length<2^30
section
variable{E:d6}{w0:i5}
end
end
section
def a1o(P:Program)(E:d6)(w0:i5)(f:FuncId)(ds:List D)(d:D):Prop:=∀S,r8 P E w0 f ds S fun d' S'=>d'=d∧S'=S
theorem a1o.use{P:Program}{E:d6}{w0:i5}{f:FuncId}{ds:List D}{d:D}(h:a1o P E w0 f ds d){S:b4}{K:D→b4→Prop}(hk:K d S):r8 P E w0 f ds S K:=(h S).use fun d' S' ⟨a,b⟩=>by subst a b;exact hk
section
variable{E:d6}{w0:i5}
end
end
section
def a5z(d:Dat):In:=⟨d.1,d.2.1,d.2.2.1,d.2.2.2⟩
theorem b8B(d:Dat):(a5z d).dat=d:=rfl
def a1k(l:List In):D:= .lst (l.map inC) 4
def c4o(r:Dat×(Nat×Int)):D:= .tup [inD (a5z r.1), .int .i64 (r.2.1:Int), .int .i64 r.2.2]
def F9(l:List (Dat×Nat)):List In:=l.map fun x=>a5z x.1
def L9(l:List (Dat×Nat)):List Int:=l.map fun x=>(x.2:Int)
abbrev b5e(bs:List Int):Except Int (List (Dat×Nat)):=a5u bs (bs.length+1) 0
theorem a6L{bs:List Int}{n p:Nat}(hp:p<bs.length):a5u bs (n+1) p=if(A7 bs p).2.2=0 then(match a5u bs n (A7 bs p).2.1 with| .ok l=> .ok (((A7 bs p).1,p)::l)| .error e=> .error e) else .error (A7 bs p).2.2:=by
 rw[a5u,if_neg (by omega)]
 all_goals rfl
theorem c1H{done:List (Dat×Nat)}{x:Dat×Nat}(r:Except Int (List (Dat×Nat))):c2s done (match r with| .ok l=> .ok (x::l)| .error e=> .error e)=c2s (done++[x]) r:=by
 cases r with
 |error e=>rfl
 |ok l=>simp[c2s]
theorem b8c{bs:List Int}(hb:∀b∈bs,W3 b){p:Nat}(h:(A7 bs (p:Int)).2.2=0):(a5z (A7 bs p).1).Ok∧p<(A7 bs p).2.1∧(A7 bs p).2.1≤bs.length:=by
 obtain⟨_,_,h3,_,hsg,hnx⟩:=c1c hb h (b8B _)
 rw[Int.toNat_natCast]at hnx hsg
 have:=c4w (a5z (A7 bs p).1)
 have:=hsg.1
 exact⟨h3,by omega,by omega⟩
section
variable{E:d6}{w0:i5}
theorem c1U{k sz:Nat}{rows:List (List D)}{acs:List AV}:Am.frz k ⟨sz,rows,acs⟩ (.raw k 0 rows.length rows.length false sz)= .lst rows sz:=by
 rw[b7N (by omega) (Nat.le_refl _),List.drop_zero,List.take_length]
theorem b5a{bs:List Int}(hb:∀b∈bs,W3 b)(hl:bs.length<2^30){n:Int}:a1o Try.prog E w0 a1M [bD bs, .int .i64 n] (c4o (A7 bs n)):=fun S=>
 (b3Q hb hl).fin fun v S' ⟨t,ev,g⟩=>by
  subst ev
  rcases g with ⟨rfl,e,rfl⟩|⟨k,acs,h0,rfl,rfl⟩
  ·refine b9.weak (d':=c4o (A7 bs n)) ?_ b9.pure
   refine Wk.tup ⟨Wk.agg ⟨Wk.refl _,Wk.refl _,Wk.refl _, ?_,trivial⟩,Wk.refl _,Wk.refl _,trivial⟩
   have:b4v (a5z (A7 bs n).1).arms= .lst [] 2:=by unfold b4v;rw[show(a5z (A7 bs n).1).arms=(A7 bs n).1.2.2.2 from rfl,e]
   rw[this]
   exact Wk.nil 2
  ·refine b9.frz h0 ?_
   have:Am.frz k ⟨2,(A7 bs n).1.2.2.2.map a0L,acs⟩ (b6G (A7 bs n) (.raw k 0 ((A7 bs n).1.2.2.2.map a0L).length ((A7 bs n).1.2.2.2.map a0L).length false 2))=c4o (A7 bs n):=by
    have e:∀(o:u7) (a b c d e:Int) (tt:D),Am.frz k o (.tup [.agg [.int .u8 a, .int .i64 b, .int .i64 c,tt], .int .i64 d, .int .i64 e])= .tup [.agg [.int .u8 a, .int .i64 b, .int .i64 c,Am.frz k o tt], .int .i64 d, .int .i64 e]:=by
     intros;simp only[Am.frz,Am.V1]
    unfold b6G P9
    rw[e,c1U]
    rfl
   rw[this]
   exact b9.pure
def c5A(S:b4)(r:Except Int (List (Dat×Nat)))(v:D)(T:b4):Prop:=match r with
 | .ok l=>∃t u,v= .tup [t,u, .int .i64 0]∧GrP S [] t ((F9 l).map inC) 4 u (iC (L9 l)) 1 T
 | .error e=>v= .tup [.nilSlc, .nilSlc, .int .i64 e]∧T=S
theorem b9t{bs:List Int}(hb:∀b∈bs,W3 b)(hl:bs.length<2^30){S:b4}:r8 Try.prog E w0 a6N [bD bs] S (c5A S (b5e bs)):=by
 refine b6A ?_
 unfold b5P
 refine b4k (I:=fun n x0 x5 x6 x7 T=>x0=bD bs∧∃(p:Nat) (done:List (Dat×Nat)),x7= .int .i64 (p:Int)∧p≤bs.length∧bs.length<p+n∧done.length≤p∧GrP S [] x5 ((F9 done).map inC) 4 x6 (iC (L9 done)) 1 T∧b5e bs=c2s done (a5u bs n p)) ?_ (n:=bs.length+1)
  ⟨rfl,0,[],rfl,by omega,by omega,by simp,GrP.nil,by unfold b5e;cases a5u bs (bs.length+1) 0<;>rfl⟩
 rintro n _ x5 x6 _ T ⟨rfl,p,done,rfl,hp,hpn,hdl,hg,hrun⟩
 unfold a6t
 rw[b0y,oD,V6,oD,cdI]
 obtain⟨n,rfl⟩:∃m,n=m+1:=⟨n - 1,by omega⟩
 refine⟨fun hlt=> ?_,fun hge=> ?_⟩
 ·have hlt:p<bs.length:=by omega
  rw[a6L hlt]at hrun
  refine(b5a hb hl).use ?_
  unfold c4o
  simp only[exD,List.getElem?_cons_zero,List.getElem?_cons_succ,oD]
  intro k a nk
  refine(I1.new (sz:=4) (c:=[.int .u8 0, .int .i64 0, .int .i64 0, .nilSlc])).st (ds:=inC (a5z (A7 bs p).1)) (clA _) ⟨rfl,by decide,by decide⟩ fun a'=> ?_
  rw[b4.set_set,show o5 [.int .u8 0, .int .i64 0, .int .i64 0, .nilSlc] 0 (inC (a5z (A7 bs p).1))=inC (a5z (A7 bs p).1) from rfl,a9f,oD,c1J,cdI]
  have hg2:=hg.set (o:=⟨4,[inC (a5z (A7 bs p).1)],a'⟩) nk
  refine⟨fun he=> ?_,fun he=> ?_⟩
  ·rw[if_neg he]at hrun
   rw[hrun]
   exact b9.less hg2.1 (b9.here ⟨rfl,rfl⟩)
  ·have he:(A7 bs p).2.2=0:=Classical.not_not.1 he
   obtain⟨_,h1,h2⟩:=b8c hb he
   rw[if_pos he,c1H]at hrun
   rw[(I1.new).all (n:=4) (by decide) rfl,oD,show s4 4 (List.replicate 1 [(D.int .u8 0),(.int .i64 0),(.int .i64 0), .nilSlc]) [(0, .agg (inC (a5z (A7 bs p).1)))]=some [inC (a5z (A7 bs p).1)]from rfl]
   refine I8 rfl ?_
   refine hg2.push (news:=[inC (a5z (A7 bs p).1)]) (by simp[rowsS,E0]) (by simp) (by simp[F9];omega) fun t' T' _ hg3=> ?_
   rw[show s4 1 (List.replicate 1 [D.int .i64 0]) [(0, .int .i64 (p:Int))]=some (iC [(p:Int)]) from rfl]
   refine I8 rfl ?_
   refine hg3.swap.push (news:=iC [(p:Int)]) (by simp[rowsS,E0]) (by simp[iC,Z7]) (by simp[L9];omega) fun u' T2 _ hg4=> ?_
   refine⟨n,by omega,by trivial,(A7 bs p).2.1,done++[((A7 bs p).1,p)],rfl,h2,by omega,by simp;omega, ?_,hrun⟩
   have e1:(F9 (done++[((A7 bs p).1,p)])).map inC=(F9 done).map inC++[inC (a5z (A7 bs p).1)]:=by simp[F9]
   have e2:iC (L9 (done++[((A7 bs p).1,p)]))=iC (L9 done)++iC [(p:Int)]:=by rw[←J9];simp[L9]
   rw[e1,e2]
   exact hg4.swap
 ·have e0:a5u bs (n+1) p= .ok []:=by rw[a5u,if_pos (by omega)]
  rw[e0]at hrun
  rw[hrun]
  have:c2s done (.ok [])= .ok done:=by simp[c2s]
  rw[this]
  exact b9.here ⟨_,_,rfl,hg⟩
end
theorem b9h{bs:List Int}(hb:∀b∈bs,W3 b):∀(n p:Nat) (l:List (Dat×Nat)),a5u bs n p= .ok l→p≤bs.length→l.length+p≤bs.length∧∀x∈l,(a5z x.1).Ok
 |0,p,l,h,hp=>by cases h;exact⟨by simpa using hp,by simp⟩
 |n+1,p,l,h,hp=>by
  by_cases hlt:p<bs.length
  ·rw[a6L hlt]at h
   split at h
   ·rename_i he
    obtain⟨h1,h2,h3⟩:=b8c hb he
    split at h
    ·rename_i l' e
     cases h
     obtain⟨g1,g2⟩:=b9h hb n _ l' e h3
     refine⟨by simp only[List.length_cons];omega,fun x hx=> ?_⟩
     rcases List.mem_cons.1 hx with rfl|hx
     ·exact h1
     ·exact g2 x hx
    ·cases h
   ·cases h
  ·have e0:a5u bs (n+1) p= .ok []:=by rw[a5u,if_pos (by omega)]
   rw[e0]at h
   cases h
   exact⟨by simpa using hp,by simp⟩
end
end Go.Proofs.Ytdkidgkiplcggaa.d
end
section
open Go.Proofs Go Go.Am
namespace Go.Proofs.Ytdkidgkiplcggaa.d
def a3F:List (Nat×List Nat):=[]
def a3x:List (Nat×List Nat):=[]
def a3E:List (Nat×Arr):=[]
def Y6(E:d6)(w0:i5)(Q:D→b4→Prop)(a0 a1:D)(S:b4):Prop:=
 r8 Try.prog E w0 O7 [a0,a1] S fun v0 S1=>
 b5 (d4 .geq v0 (.int .i64 0)) fun v2=>
 Q v2 S1
theorem a2j{E:d6}{w0:i5}{Q:D→b4→Prop}{a0 a1:D}{S:b4}(h:Y6 E w0 (b9 E Q) a0 a1 S):r8 Try.prog E w0 Y7 [a0,a1] S Q:=
 o6 a3F a3x a3E (fn:=Try.f132) (c:=Try.f132.body.getD .skip) mixed Try.func132 (by kernel_rfl) (by kernel_rfl) h
def M7:List (Nat×List Nat):=[(4,[0,1,7,8])]
def M8:List (Nat×List Nat):=[]
def M4:List (Nat×Arr):=[]
noncomputable def K6:Code:=(f0 [1,0,1,0,0] (Try.f141.body.getD .skip))
def K7(E:d6)(w0:i5)(Q:D→b4→Prop):j2→List D→b4→Prop:=
 (i4 0 (J0 Try.prog E w0 M7 M8 M4 (f0 [1,1] (Try.f141.body.getD .skip)) (E3 Try.prog Try.f141 Q)))
def K5(E:d6)(w0:i5)(N0:D→D→D→D→b4→Prop)(Q:D→b4→Prop)(x0 x1 x7 x8:D)(S:b4):Prop:=
 b5 (d4 .lss x8 x7) fun v1=>
 g8 v1
 (b5 (j5 1 x0 x8) fun v2=>
 b5 (c9 S v2) fun v3=>
 b5 (d4 .eql x1 v3) fun v4=>
 g8 v4
 (Q x8 S)
 (b5 (d4 .add x8 (.int .i64 1)) fun v5=>
 N0 x0 x1 x7 v5 S))
 (Q (.int .i64 (-1)) S)
theorem a2Y{E:d6}{w0:i5}{N0:D→D→D→D→b4→Prop}{Q:D→b4→Prop}{x0 x1 x7 x8:D}{S:b4}(h:K5 E w0 N0 Q x0 x1 x7 x8 S):
  b8 Try.prog E w0 K6 (d8 19 [0,1,7,8] [x0,x1,x7,x8]) S (m9 (fun T S=>N0 (T.getD 0 a8) (T.getD 1 a8) (T.getD 7 a8) (T.getD 8 a8) S) (K7 E w0 Q)):=d5 M7 M8 M4 mixed (by kernel_rfl) h
theorem a2Z{E:d6}{w0:i5}{Q:D→b4→Prop}(I:Nat→D→D→D→D→b4→Prop)
  (step:∀n x0 x1 x7 x8 S,I n x0 x1 x7 x8 S→K5 E w0 (fun x0 x1 x7 x8 S=>∃m,m<n∧I m x0 x1 x7 x8 S) Q x0 x1 x7 x8 S)
  {n:Nat} {x0 x1 x7 x8:D} {S:b4} (h:I n x0 x1 x7 x8 S):b8 Try.prog E w0 (.loop K6) (d8 19 [0,1,7,8] [x0,x1,x7,x8]) S (K7 E w0 Q):=
 j7 (k:=19) (n:=n) (I:=fun n T S=>I n (T.getD 0 a8) (T.getD 1 a8) (T.getD 7 a8) (T.getD 8 a8) S) (fun n T S hl hI=>l9 [0,1,7,8] hl (b8.mono (a2Y (step n _ _ _ _ S hI)) fun ex T' S' _ hq=>by cases ex<;>exact hq)) (f9 ..) (Eq.mp (by kernel_rfl) h)
def a1f(E:d6)(w0:i5)(Q:D→b4→Prop)(a0 a1:D)(S:b4):Prop:=
 b5 (m6 a0) fun v0=>
 b8 Try.prog E w0 (.loop K6) (d8 19 [0,1,7,8] [a0,a1,v0,(.int .i64 0)]) S (K7 E w0 Q)
theorem a4d{E:d6}{w0:i5}{Q:D→b4→Prop}{a0 a1:D}{S:b4}(h:a1f E w0 (b9 E Q) a0 a1 S):r8 Try.prog E w0 O7 [a0,a1] S Q:=
 o6 M7 M8 M4 (fn:=Try.f141) (c:=Try.f141.body.getD .skip) mixed Try.func141 (by kernel_rfl) (by kernel_rfl) h
end Go.Proofs.Ytdkidgkiplcggaa.d
end
section
open Go.Proofs Go Go.Am Go.Op
namespace Go.Proofs.Ytdkidgkiplcggaa.d
section
def Own(S0:b4)(d:D)(l:List Int)(S:b4):Prop:=
 (d= .nilSlc∧l=[]∧S=S0)∨∃k acs ex,S0 k=Option.none∧d= .raw k 0 l.length l.length ex 1∧S=S0.set k ⟨1,iC l,acs⟩
theorem Own.le{S0 S:b4}{d:D}{l:List Int}(h:Own S0 d l S):S0.le S:=by
 rcases h with ⟨_,_,rfl⟩|⟨k,acs,ex,h,_,rfl⟩
 ·exact b4.le_refl _
 ·exact b4.le_new h
theorem Own.nil(S:b4):Own S .nilSlc [] S:= .inl ⟨rfl,rfl,rfl⟩
theorem Own.cells{S0 S:b4}{d:D}{l:List Int}(h:Own S0 d l S):s6 d=some [d]:=by rcases h with ⟨rfl,_⟩|⟨_,_,_,_,rfl,_⟩<;>rfl
theorem Own.base{S0 S1 S:b4}{d:D}{l:List Int}(h:Own S1 d l S)(hle:S0.le S1):∃S',S'.le S∧Own S0 d l S':=by
 rcases h with ⟨rfl,rfl,rfl⟩|⟨k,acs,ex,h,rfl,rfl⟩
 ·exact⟨S0,hle, .inl ⟨rfl,rfl,rfl⟩⟩
 ·have hk:S0 k=Option.none:=by
   cases e:S0 k with
   |none=>rfl
   |some o=>rw[hle _ _ e]at h;cases h
  refine⟨S0.set k ⟨1,iC l,acs⟩,fun j o e=> ?_, .inr ⟨k,acs,ex,hk,rfl,rfl⟩⟩
  unfold b4.set at e ⊢
  split at e
  ·rename_i hj;rw[if_pos hj];exact e
  ·rename_i hj;rw[if_neg hj];exact hle _ _ e
theorem Own.upd{S0 S:b4}{d:D}{l:List Int}{k:Nat}{o o':u7}(h:Own S0 d l S)(hk:S0 k=some o'):Own (S0.set k o) d l (S.set k o):=by
 rcases h with ⟨rfl,rfl,rfl⟩|⟨j,acs,ex,h,rfl,rfl⟩
 ·exact .inl ⟨rfl,rfl,rfl⟩
 ·have hne:j≠k:=fun e=>by rw[e,hk]at h;cases h
  refine .inr ⟨j,acs,ex, ?_,rfl,b4.set_comm _ hne _ _⟩
  rw[b4.set_ne _ _ _ hne];exact h
def Two(S0:b4)(c:D)(lc:List Int)(d:D)(ld:List Int)(S:b4):Prop:=∃S1,Own S0 c lc S1∧Own S1 d ld S
theorem Two.base{S0 S1 S:b4}{c d:D}{lc ld:List Int}(h:Two S1 c lc d ld S)(hle:S0.le S1):∃S',S'.le S∧Two S0 c lc d ld S':=by
 obtain⟨S2,h1,h2⟩:=h
 obtain⟨S2',l2,g1⟩:=h1.base hle
 obtain⟨S',l3,g2⟩:=h2.base l2
 exact⟨S',l3,S2',g1,g2⟩
theorem Two.upd{S0 S:b4}{c d:D}{lc ld:List Int}{k:Nat}{o o':u7}(h:Two S0 c lc d ld S)(hk:S0 k=some o'):Two (S0.set k o) c lc d ld (S.set k o):=by
 obtain⟨S2,h1,h2⟩:=h
 exact⟨S2.set k o,h1.upd hk,h2.upd (h1.le _ _ hk)⟩
theorem Two.le{S0 S:b4}{c d:D}{lc ld:List Int}(h:Two S0 c lc d ld S):S0.le S:=by
 obtain⟨S2,h1,h2⟩:=h
 exact b4.le_trans h1.le h2.le
theorem c1j{S:b4}{l:List Int}{K:D→b4→Prop}(h:∀d S',Own S d l S'→K d S'):I4 S 1 (some (iC l)) l.length K:=
 c5a fun k acs hk=>h _ _ (.inr ⟨k,acs,true,hk,by simp,rfl⟩)
section
variable{E:d6}{w0:i5}
theorem b9x{l:List Int}{v:Int}(hl:l.length<2^60):a1o Try.prog E w0 Y7 [bD l, .int .u8 v] (.bool (l.contains v)):=fun S=>by
 refine a2j ?_
 unfold Y6
 have key:r8 Try.prog E w0 O7 [bD l, .int .u8 v] S fun d S'=>S'=S∧∃n:Int,d= .int .i64 n∧decide (n≥0)=l.contains v:=by
  refine a4d ?_
  unfold a1f
  rw[b0y,oD]
  refine a2Z (I:=fun n x0 x1 x7 x8 S'=>S=S'∧x0=bD l∧x1= .int .u8 v∧x7= .int .i64 (l.length:Int)∧∃i:Nat,x8= .int .i64 (i:Int)∧i+n=l.length∧v ∉ l.take i) ?_ (n:=l.length) ⟨rfl,rfl,rfl,rfl,0,rfl,by omega,by simp⟩
  rintro n _ _ _ _ _ ⟨rfl,rfl,rfl,rfl,i,rfl,hi,hn⟩
  unfold K5
  rw[V6,oD,cdI]
  refine⟨fun hlt=> ?_,fun hge=> ?_⟩
  ·have hlt:i<l.length:=by omega
   have ea:l[i]? =some l[i]:=List.getElem?_eq_getElem hlt
   rw[c3u ea,oD,lsE,List.getElem?_cons_zero,oD,a7j,oD,c6S,cdI]
   refine⟨fun e=>b9.here ⟨rfl,i,rfl, ?_⟩,fun e=> ?_⟩
   ·rw[decide_eq_true (by omega)]
    symm
    rw[List.contains_iff_mem,e]
    exact List.getElem_mem _
   ·rw[C6,oD,g9 (by omega) (by omega)]
    refine⟨n - 1,by omega,rfl,rfl,rfl,rfl,i+1,rfl,by omega, ?_⟩
    rw[List.take_add_one,ea,Option.toList_some,List.mem_append,List.mem_singleton]
    exact fun h=>h.elim hn e
  ·rw[List.take_of_length_le (by omega)]at hn
   refine b9.here ⟨rfl, -1,rfl, ?_⟩
   rw[decide_eq_false (by omega)]
   symm
   rw[←Bool.not_eq_true,List.contains_iff_mem]
   exact hn
 refine key.use ?_
 rintro d S' ⟨rfl,n,rfl,h⟩
 rw[c4b,oD,h]
 exact b9.pure
end
end
section
theorem c5I(y:In):(inC y)[0]? =some (.int .u8 y.op)∧(inC y)[1]? =some (.int .i64 y.a)∧(inC y)[2]? =some (.int .i64 y.b)∧(inC y)[3]? =some (b4v y.arms):=⟨rfl,rfl,rfl,rfl⟩
section
variable{E:d6}{w0:i5}
end
end
section
theorem Own.swap{S0 S1 S:b4}{t u:D}{r q:List Int}(h:Own S0 t r S1)(h':Own S1 u q S):∃S2,Own S0 u q S2∧Own S2 t r S:=by
 rcases h with ⟨rfl,rfl,rfl⟩|⟨k,acs,ex,hk,rfl,rfl⟩
 ·exact⟨S,h', .inl ⟨rfl,rfl,rfl⟩⟩
 ·rcases h' with ⟨rfl,rfl,rfl⟩|⟨l,bcs,ex',hl,rfl,rfl⟩
  ·exact⟨S0, .inl ⟨rfl,rfl,rfl⟩, .inr ⟨k,acs,ex,hk,rfl,rfl⟩⟩
  ·obtain⟨hne,hl0⟩:=b4.fresh hl
   refine⟨S0.set l ⟨1,iC q,bcs⟩, .inr ⟨l,bcs,ex',hl0,rfl,rfl⟩, .inr ⟨k,acs,ex, ?_,rfl, ?_⟩⟩
   ·rw[b4.set_ne _ _ _ (Ne.symm hne)];exact hk
   ·exact b4.set_comm _ (Ne.symm hne) _ _
section
variable{E:d6}{w0:i5}{S S3:b4}{k2:Nat}{cs:List D}{a2:List AV}
variable(hle:S.le S3)(hn:S k2=none)(h2:S3 k2=some ⟨3,[cs],a2⟩)(hcs:cs.length=3)
include hle hn h2 hcs
end
section
variable{E:d6}{w0:i5}{S S3:b4}{k k2:Nat}{a a2:List AV}{y:In}
variable(hle:S.le S3)(hn:S k2=none)(h0:S3 k=some ⟨4,[inC y],a⟩)(h2:S3 k2=some ⟨3,[[.nilSlc, .nilSlc, .bool false]],a2⟩)
include hle hn h2
end
section
variable{E:d6}{w0:i5}
end
end
section
section
variable{E:d6}{w0:i5}
theorem b9q{l:List In}{i:Nat}{y:In}(h:l[i]? =some y):j5 4 (a1k l) (.int .i64 (i:Int))=some (.elt (inC y) 0):=b5t (by rw[List.getElem?_map,h];rfl)
end
end
section
def GrZ(S0:b4)(t:D)(rows:List (List D))(sz:Nat)(S:b4):Prop:=Grw S0 t rows sz S∨(rows=[]∧∃k cap ex zr acs,S0 k=none∧t= .raw k 0 0 cap ex sz∧S=S0.set k ⟨sz,zr,acs⟩)
section
variable{S0 S:b4}{t:D}{rows:List (List D)}{sz:Nat}
theorem GrZ.push(h:GrZ S0 t rows sz S){bytes:Nat}{v:D}{news:List (List D)}(hv:rowsS S sz v=some news)(hn:news≠[])(hb:0<bytes∧(2*(rows.length+news.length)+768)*bytes≤2^47){K:D→b4→Prop}(hK:∀t' S',Grw S0 t' (rows++news) sz S'→K t' S'):s0 S sz bytes t v K:=by
 rcases h with h|⟨rfl,k,cap,ex,zr,acs,h0,rfl,rfl⟩
 ·exact h.push hv hb hK
 ·simp only[s0,hv,V0]
  rw[if_neg hn,b4.set_same]
  simp only
  rw[if_pos ⟨by trivial,by trivial,by omega⟩]
  refine⟨by simpa using hb, .inr fun k' acs' hk'=> ?_⟩
  rw[b4.erase_set _ _ _ h0]at hk' ⊢
  refine hK _ _ (.inr ⟨k',acs',hk', ?_, ?_⟩)<;>simp
theorem GrZ.last(h:GrZ S0 t rows sz S){bytes:Nat}{v:D}{news:List (List D)}(hv:rowsS S sz v=some news)(hn:news≠[])(hb:0<bytes∧(2*(rows.length+news.length)+768)*bytes≤2^47){K:D→b4→Prop}(hK:K (.lst (rows++news) sz) S0):s0 S sz bytes t v K:=by
 rcases h with h|⟨rfl,k,cap,ex,zr,acs,h0,rfl,rfl⟩
 ·exact h.last hv hn hb hK
 ·simp only[s0,hv,V0]
  rw[if_neg hn,b4.set_same]
  simp only
  rw[if_pos ⟨by trivial,by trivial,by omega⟩]
  refine⟨by simpa using hb, .inl ?_⟩
  rw[b4.erase_set _ _ _ h0,List.take_of_length_le (by simp)]
  simpa using hK
end
section
variable{E:d6}{w0:i5}
end
end
section
def bytesOf(s:Tx):List Int:=s.map fun b=>(b.toNat:Int)
def WOk(L I:List Int):Prop:=(I.length≤2097153∧L=I)∨(2097153<I.length∧L.length=2097153)
theorem WOk.len{L I:List Int}(h:WOk L I):L.length≤2097153:=by
 rcases h with ⟨h,rfl⟩|⟨_,h⟩<;>omega
def WAt(S:b4)(kw:Nat)(av:List Nat)(I:List Int)(T:b4):Prop:=S.le T∧S kw=none∧kw ∉ av∧(∀j∈av,T j≠none)∧∃(L:List Int) (t:D),WOk L I∧I1 T kw 1 [t]∧Z1 S (kw::av) t (Z7 (L.map (D.int .u8))) 1 T
section
variable{E:d6}{w0:i5}{S T:b4}{kw:Nat}{av:List Nat}{I:List Int}
theorem WAt.more(h:WAt S kw av I T){l:Nat}{o:u7}(hl:T l=none):WAt S kw (l::av) I (T.set l o):=by
 obtain⟨h1,h2,h3,h4,L,t,h5,h6,h7⟩:=h
 have ne:kw≠l:=h6.none hl
 have nt:∀j∈ob t,j≠l:=fun j hj e=>h7.ob_some j hj (by rw[e];exact hl)
 refine⟨b4.le_set h1 (b4.none_of h1 hl),h2,fun hm=> ?_,fun j hj=> ?_,L,t,h5,h6.set hl,h7.apart (fun j hj=>b4.set_ne _ _ _ (nt j hj)) fun j hj hm=> ?_⟩
 ·rcases List.mem_cons.1 hm with e|hm
  ·exact ne e
  ·exact h3 hm
 ·rcases List.mem_cons.1 hj with rfl|hj
  ·rw[b4.set_same];simp
  ·rw[b4.set_ne _ _ _ fun e=>h4 j hj (by rw[e];exact hl)];exact h4 j hj
 ·have:=h7.ob_av j hj
  rcases List.mem_cons.1 hm with e|hm
  ·exact this (by simp[e])
  ·rcases List.mem_cons.1 hm with e|hm
   ·exact nt j hj e
   ·exact this (by simp[hm])
theorem WAt.upd(h:WAt S kw av I T){l:Nat}{o:u7}(hl:l∈av)(hS:S l=none):WAt S kw av I (T.set l o):=by
 obtain⟨h1,h2,h3,h4,L,t,h5,h6,h7⟩:=h
 have ne:kw≠l:=fun e=>h3 (by rw[e];exact hl)
 refine⟨b4.le_set h1 hS,h2,h3,fun j hj=> ?_,L,t,h5,h6.set_ne ne,h7.set (.inl (by simp[hl]))⟩
 by_cases e:j=l
 ·subst e;rw[b4.set_same];simp
 ·rw[b4.set_ne _ _ _ e];exact h4 j hj
theorem WAt.less(h:WAt S kw av I T){av':List Nat}(ha:∀j∈av',j∈av):WAt S kw av' I T:=by
 obtain⟨h1,h2,h3,h4,L,t,h5,h6,h7⟩:=h
 refine⟨h1,h2,fun hm=>h3 (ha _ hm),fun j hj=>h4 j (ha j hj),L,t,h5,h6,h7.apart (fun _ _=>rfl) fun j hj hm=> ?_⟩
 have:=h7.ob_av j hj
 rcases List.mem_cons.1 hm with e|hm
 ·exact this (by simp[e])
 ·exact this (by simp[ha j hm])
end
end
end Go.Proofs.Ytdkidgkiplcggaa.d
end
