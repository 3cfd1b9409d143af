/-
  BlocksJoinSaid: part Oav of its proof.
-/
import Derived.Test.YtdkidgkiplcggaaOau
import Derived.Test.YtdkidgkiplcggaaOat
import Derived.Test.YtdkidgkiplcggaaRows
import Derived.Test.YtdkidgkiplcggaaOar
import Derived.KernelRfl
set_option linter.unusedVariables false
set_option linter.unusedSimpArgs false
set_option maxRecDepth 100000
section
open Go.Proofs Go Go.Am Go.Op
namespace Go.Proofs.Ytdkidgkiplcggaa.d
section
variable{E:d6}{w0:i7}
theorem c5X(T:b5){k l:Nat}(h:k≠l)(z z' A B:s7):(((T.set k z).set l z').set k A).set l B=(T.set k A).set l B:=by
 rw[b5.set_in _ h,b5.set_set]
theorem c6h(T:b5){k l:Nat}(h:k≠l)(z z' A B:s7):(((T.set k z).set l z').set l B).set k A=(T.set k A).set l B:=by
 rw[b5.set_set,b5.set_in _ h]
theorem b7Y{bs:List Int}{j:Nat}{a b:Int}{s:Nat×Int}{f:Fld}{l:List Fld}(h:l[j]? =some f):b1H bs j a b s (l.drop j)=b1H bs (j+1) (if j=0 then(B0 bs f s).1 else a) (if j=0 then b else(B0 bs f s).1) (B0 bs f s).2 (l.drop (j+1)):=by
 obtain⟨hj,rfl⟩:=List.getElem?_eq_some_iff.1 h
 rw[List.drop_eq_getElem_cons hj,b1H]
theorem b3i{bs:List Int}(hb:∀b∈bs,J5 b)(hl:bs.length<2^30){n:Int}{S:b5}:r7 Try.prog E w0 a0R [bD bs, .int .i64 n] S fun v S'=>∃t,v=b5d (y9 bs n) t∧Grw S t ((y9 bs n).1.2.2.2.map Z5) 2 S':=by
 refine b0x ?_
 unfold a7R
 intro k4 a4 n4
 have h4:I5 (S.set k4 ⟨4,[zC],a4⟩) k4 4 zC:=I5.new
 change a8 _ _
 have le4:S.le (S.set k4 ⟨4,[zC],a4⟩):=b5.le_new n4
 by_cases hn:n<0∨n≥bs.length
 ·have e:y9 bs n=(b8G,(0,2)):=by unfold y9;rw[if_pos hn]
  have fin:(a8 (E2 (r8 [(D.int .u8 0),(.int .i64 0),(.int .i64 0), .nilSlc] [])) fun v8=>j1 (S.set k4 ⟨4,[zC],a4⟩) 4 (.ptr k4 0) v8 fun v9 S10=>a8 (s0 S10 4 (.ptr k4 0)) fun v11=>b8 E (fun v S'=>∃t,v=b5d (y9 bs n) t∧Grw S t ((y9 bs n).1.2.2.2.map Z5) 2 S') (.tup [v11,(.int .i64 0),(.int .i64 2)]) S10):=by
   rw[fiN,agS,oD]
   refine h4.st (clA _) ⟨rfl,by decide,by decide⟩ fun a=> ?_
   rw[(I5.new).all (n:=4) (by decide) rfl,oD,b5.set_set]
   refine b8.drop n4 (b8.here ⟨.nilSlc, ?_, ?_⟩)
   ·rw[e];rfl
   ·rw[e];exact Grw.nil _ _
  rw[a3K,oD]
  by_cases h1:n<0
  ·rw[decide_eq_true h1]
   simp only[wdB,vdF,oD,pdB,if_true,cdT,show((true==false)=false) from rfl]
   exact fin
  ·have h2:decide (n≥(bs.length:Int))=true:=decide_eq_true (hn.resolve_left h1)
   rw[decide_eq_false h1]
   simp only[wdB,vdT,oD,pdB,Bool.false_eq_true,if_false,a9c,c0E,h2,cdT,show((false==false)=true) from rfl]
   exact fin
 have hn0:¬n<0:=fun h=>hn (.inl h)
 have hn1:¬n≥(bs.length:Int):=fun h=>hn (.inr h)
 obtain⟨p,rfl⟩:∃p:Nat,n=(p:Int):=⟨n.toNat,by omega⟩
 have hp:p<bs.length:=by omega
 have edT:y9 bs (p:Int)=b0r bs p:=by unfold y9;rw[if_neg hn];rfl
 obtain⟨op,hop⟩:∃op,op=bs[p]:=⟨_,rfl⟩
 have hj:bs[p]? =some op:=by rw[List.getElem?_eq_getElem hp,hop]
 have hbop:J5 op:=hb op (by rw[hop];exact List.getElem_mem _)
 have egd:bs.getD p 0=op:=by rw[List.getD_eq_getElem?_getD,hj];rfl
 rw[a3K,oD,decide_eq_false hn0]
 simp only[wdB,vdT,oD,pdB,Bool.false_eq_true,if_false,a9c,c0E,decide_eq_false hn1,cdF,show((false==false)=true) from rfl]
 rw[c1K hj,oD,lsE,List.getElem?_cons_zero,oD]
 have hag:E2 (r8 [(D.int .u8 0),(.int .i64 0),(.int .i64 0), .nilSlc] [(0,1, .int .u8 op)])=some (.agg (O8 op 0 0 .nilSlc)):=rfl
 rw[hag,oD]
 intro k7 a7 n7
 have d47:k4≠k7:=h4.none n7
 have n7':S k7=none:=b5.none_of le4 n7
 have h7z:I5 ((S.set k4 ⟨4,[zC],a4⟩).set k7 ⟨4,[zC],a7⟩) k7 4 zC:=I5.new
 refine h7z.st (ds:=O8 op 0 0 .nilSlc) (clA _) ⟨rfl,by decide,by decide⟩ fun a7=> ?_
 rw[b5.set_set,show n8 zC 0 (O8 op 0 0 .nilSlc)=O8 op 0 0 .nilSlc from rfl]
 have h7:I5 ((S.set k4 ⟨4,[zC],a4⟩).set k7 ⟨4,[O8 op 0 0 .nilSlc],a7⟩) k7 4 (O8 op 0 0 .nilSlc):=I5.new
 have h4':=h4.set (o:=⟨4,[O8 op 0 0 .nilSlc],a7⟩) n7
 have le7:S.le ((S.set k4 ⟨4,[zC],a4⟩).set k7 ⟨4,[O8 op 0 0 .nilSlc],a7⟩):=b5.le_set le4 n7'
 generalize (S.set k4 ⟨4,[zC],a4⟩).set k7 ⟨4,[O8 op 0 0 .nilSlc],a7⟩=T7 at*
 rw[ofP,oD,h7.ld,show(O8 op 0 0 .nilSlc)[0+0]? =some (.int .u8 op) from rfl,oD]
 refine b3n.use ?_
 simp only[exD,List.getElem?_cons_zero,List.getElem?_cons_succ,oD,unN]
 cases hlay:lay op with
 |none=>
  rw[show(!(none:Option (List Fld)).isSome)=true from rfl,cdT,fiN,agS,oD]
  have e:y9 bs (p:Int)=(b8G,(0,120)):=by rw[edT];unfold b0r;rw[egd,if_pos hlay]
  refine h4'.st (clA _) ⟨rfl,by decide,by decide⟩ fun a=> ?_
  rw[(I5.new).all (n:=4) (by decide) rfl,oD]
  refine b8.less (b5.le_set le7 n4) (b8.here ⟨.nilSlc, ?_, ?_⟩)
  ·rw[e];rfl
  ·rw[e];exact Grw.nil _ _
 |some l=>
 rw[show(!(some l).isSome)=false from rfl,cdF,J8,oD,g9 (by omega) (by omega)]
 have hag2:E2 (r8 [.nilSlc,(D.int .i64 0),(.int .i64 0)] [(0,1,bD bs),(1,1, .int .i64 ((p:Int)+1))])=some (.agg (rdC bs (p+1,0))):=rfl
 rw[hag2,oD,clA,oD]
 intro k10 a10 n10
 have hst:M4 S k4 k7 k10 (O8 op 0 0 .nilSlc) bs (p+1,0) (T7.set k10 ⟨3,[rdC bs (p+1,0)],a10⟩):=
  ⟨b5.le_set le7 (b5.none_of le7 n10),n4,n7',b5.none_of le7 n10,d47,h4'.set n10,h7.set n10,I5.new⟩
 have hl2:l.length≤2:=by have:=a7h (op:=op);rw[hlay]at this;exact this
 have hgood:∀f∈l,a2h f:=by have:=a8M op;rw[hlay]at this;exact this
 have hgd:(lay op).getD []=l:=by rw[hlay];rfl
 rw[lnL,oD,b5b,hgd]
 have hl60:bs.length<2^60:=by omega
 have edS:b0r bs p=if(a7i bs p).2.2≠0 then(b8G,(0,(a7i bs p).2.2)) else a7i bs p:=by
  unfold b0r;rw[egd,if_neg (by rw[hlay];simp)]
 refine a8v (I:=fun n x4 x7 x10 x45 x46 x47 T=>x4= .ptr k4 0∧x7= .ptr k7 0∧x10= .ptr k10 0∧x45= .lst (a5p op) 2∧x46= .int .i64 (l.length:Int)∧∃(j:Nat) (a b:Int) (s:Nat×Int),x47= .int .i64 (j:Int)∧j+n=l.length∧
   M4 S k4 k7 k10 (O8 op a b .nilSlc) bs s T∧s.1≤bs.length∧b1H bs j a b s (l.drop j)=D9 bs l (p+1,0)) ?_ (n:=l.length)
  ⟨rfl,rfl,rfl,rfl,rfl,0,0,0,(p+1,0),rfl,by omega,hst,by show p+1≤bs.length;omega,c2f hl2⟩
 rintro n _ _ _ _ _ _ T ⟨rfl,rfl,rfl,rfl,rfl,j,a,b,s,rfl,hjn,hd,hs,hfold⟩
 unfold a1n
 rw[a3K,oD,cdI]
 refine⟨fun hlt=> ?_,fun hge=> ?_⟩
 ·have hlt:j<l.length:=by omega
  obtain⟨f,hf⟩:∃f,f=l[j]:=⟨_,rfl⟩
  have hjf:l[j]? =some f:=by rw[List.getElem?_eq_getElem hlt,hf]
  obtain⟨row,hrow,hfd⟩:=c1m (op:=op) (i:=j) (f:=f) (by rw[hgd];exact hjf)
  have hg:=hgood f (by rw[hf];exact List.getElem_mem _)
  have hg1:=hg.1
  have hg8:=a3u hg
  have hrl:=hfd.len
  rw[b5F hrow,oD,laE,if_pos ⟨by decide,by omega⟩,oD,List.drop_zero,List.take_of_length_le (by omega)]
  intro k ak nk
  refine(I5.new (sz:=2) (c:=[D.int .i64 0, .nilFn])).st (ds:=row) (clA _) ⟨hrl,by decide,by simp⟩ fun ak=> ?_
  rw[b5.set_set,c3u hfd]
  have hd2:=hd.new (o:=⟨2,[row],ak⟩) nk
  have hc:I5 (T.set k ⟨2,[row],ak⟩) k 2 row:=I5.new
  change a8 _ _
  rw[b7Y hjf]at hfold
  have hI:=b4X (f:=f) hs
  rw[a6c,oD,cdB]
  refine⟨fun h0=> ?_,fun h0=> ?_⟩
  ·have h0:j=0:=by have:(j:Int)=0:=by simpa using h0
                   omega
   rw[if_pos h0,if_pos h0]at hfold
   rw[hc.all (n:=2) (by decide) hrl.symm,oD]
   refine(a3b hd2 hb hl60 hs hfd hg1 hg8).use ?_
   rintro v T2 ⟨rfl,hd3,_⟩
   rw[ofP,oD]
   refine hd3.h7.st (clI _ _) ⟨rfl,by decide,by simp[O8]⟩ fun a7=> ?_
   rw[J8,oD,g9 (by omega) (by omega)]
   exact⟨n - 1,by omega,rfl,rfl,rfl,rfl,rfl,j+1,_,b,_,rfl,by omega,hd3.set7 (c:=O8 op (B0 bs f s).1 b .nilSlc),hI,hfold⟩
  ·have h0:¬j=0:=by have:¬(j:Int)=0:=by simpa using h0
                    omega
   rw[if_neg h0,if_neg h0]at hfold
   rw[hc.all (n:=2) (by decide) hrl.symm,oD]
   refine(a3b hd2 hb hl60 hs hfd hg1 hg8).use ?_
   rintro v T2 ⟨rfl,hd3,_⟩
   rw[ofP,oD]
   refine hd3.h7.st (clI _ _) ⟨rfl,by decide,by simp[O8]⟩ fun a7=> ?_
   rw[J8,oD,g9 (by omega) (by omega)]
   exact⟨n - 1,by omega,rfl,rfl,rfl,rfl,rfl,j+1,a,_,_,rfl,by omega,hd3.set7 (c:=O8 op a (B0 bs f s).1 .nilSlc),hI,hfold⟩
 ·have hj':j=l.length:=by omega
  subst hj'
  rw[List.drop_length,b1H]at hfold
  rw[ofP,oD,hd.h7.ld,show(O8 op a b .nilSlc)[0+0]? =some (.int .u8 op) from rfl,oD,a6c,oD,cdB]
  refine⟨fun h49=> ?_,fun h49=> ?_⟩
  ·have h49:op=49:=by simpa using h49
   have hb0:b=0:=by
    have hl1:=b9A hlay h49
    rw[hl1]at hfold
    exact congrArg (fun q:Int×Int×(Nat×Int)=>q.2.1) hfold
   subst hb0
   have edX:a7i bs p=a2z bs 49 a s:=by unfold a7i;rw[egd,if_pos h49,hgd, ←hfold]
   have d7:∀ {k:Nat},T k=none→k7≠k:=fun hk=>hd.h7.none hk
   have hfin:∀ {k l:Nat} {T':b5},T k=none→T l=none→M4 S k4 k7 k10 (O8 op a 0 .nilSlc) bs s T'→I5 T' k 2 [.int .i64 4,V1 0 4294967295]→I5 T' l 2 [.int .i64 8,a6e (IntKind.u8.wrap a)]→
     j2 E w0 (b8 E (fun v S'=>∃t,v=b5d (y9 bs (p:Int)) t∧Grw S t ((y9 bs (p:Int)).1.2.2.2.map Z5) 2 S')) (.ptr k4 0) (.ptr k7 0) (.ptr k10 0) (.ptr k 0) (.ptr l 0) T':=fun{k l T'} nk nl hd' c1 c2=>by
    refine c4C hb hl hd' hs c1 c2 (b5.none_of hd.le nk) (b5.none_of hd.le nl) ⟨d7 nk,d7 nl⟩ fun t S' hg=> ?_
    rw[h49]
    rw[h49]at hg
    by_cases he:(a2z bs 49 a s).2.2=0
    ·rw[if_pos he]
     have e:y9 bs (p:Int)=a2z bs 49 a s:=by rw[edT,edS,edX,if_neg (by simp[he])]
     refine b8.here ⟨t, ?_,by rw[e];exact hg⟩
     rw[e]
     unfold b5d
     rw[he]
     rfl
    ·rw[if_neg he]
     have e:y9 bs (p:Int)=(b8G,(0,(a2z bs 49 a s).2.2)):=by rw[edT,edS,edX,if_pos he]
     refine b8.less hg.le (b8.here ⟨.nilSlc, ?_,by rw[e];exact Grw.nil _ _⟩)
     rw[e];rfl
   have ld1:c9 T (.ptr k7 (0+1))=some (.int .i64 a):=hd.h7.ld 1
   have hA:∀ {k l:Nat} {ak al:List AV},T k=none→(T.set k ⟨2,[[.int .i64 0, .nilFn]],ak⟩) l=none→∀ak al,j2 E w0 (b8 E (fun v S'=>∃t,v=b5d (y9 bs (p:Int)) t∧Grw S t ((y9 bs (p:Int)).1.2.2.2.map Z5) 2 S')) (.ptr k4 0) (.ptr k7 0) (.ptr k10 0) (.ptr k 0) (.ptr l 0)
     ((T.set k ⟨2,[[.int .i64 4,V1 0 4294967295]],ak⟩).set l ⟨2,[[.int .i64 8,a6e (IntKind.u8.wrap a)]],al⟩):=fun{k l _ _} nk nl ak al=>by
    obtain⟨ne,nl'⟩:=b5.fresh nl
    have nl2:(T.set k ⟨2,[[.int .i64 4,V1 0 4294967295]],ak⟩) l=none:=by rw[b5.set_ne _ _ _ ne];exact nl'
    exact hfin nk nl' ((hd.new nk).new nl2) ((I5.new).set nl2) I5.new
   have hB:∀ {k l:Nat} {ak al:List AV},T k=none→(T.set k ⟨2,[[.int .i64 0, .nilFn]],ak⟩) l=none→∀ak al,j2 E w0 (b8 E (fun v S'=>∃t,v=b5d (y9 bs (p:Int)) t∧Grw S t ((y9 bs (p:Int)).1.2.2.2.map Z5) 2 S')) (.ptr k4 0) (.ptr k7 0) (.ptr k10 0) (.ptr l 0) (.ptr k 0)
     ((T.set k ⟨2,[[.int .i64 8,a6e (IntKind.u8.wrap a)]],ak⟩).set l ⟨2,[[.int .i64 4,V1 0 4294967295]],al⟩):=fun{k l _ _} nk nl ak al=>by
    obtain⟨ne,nl'⟩:=b5.fresh nl
    have nl2:(T.set k ⟨2,[[.int .i64 8,a6e (IntKind.u8.wrap a)]],ak⟩) l=none:=by rw[b5.set_ne _ _ _ ne];exact nl'
    exact hfin nl' nk ((hd.new nk).new nl2) I5.new ((I5.new).set nl2)
   have l0:∀ {k:Nat} {o:s7},T k=none→(T.set k o) k7=T k7:=fun nk=>b5.set_ne _ _ _ (d7 nk)
   simp only[ofP,oD,ld1,cvI]
   repeat' (refine And.intro ?_ ?_)
   all_goals (repeat (first|refine B2.use ?_|refine W3.use ?_|refine⟨fwR _ _, ?_⟩|rw[a1B (a7Y _ _),oD]|rw[a1B (b4l _),oD]))
   all_goals (intro k ak nk)
   all_goals (have f1:=l0 (o:=⟨2,[[.int .i64 0, .nilFn]],ak⟩) nk)
   all_goals (repeat (first|refine B2.use ?_|refine W3.use ?_|rw[a1B (a7Y _ _),oD]|rw[a1B (b4l _),oD]|refine⟨f1, ?_⟩))
   all_goals (intro l' al nl)
   all_goals (have f2:∀ {o:s7},((T.set k ⟨2,[[.int .i64 0, .nilFn]],ak⟩).set l' o) k7=T k7:=fun{o}=>by rw[b5.set_ne _ _ _ (d7 (b5.fresh nl).2)];exact f1)
   all_goals (have ne:k≠l':=Ne.symm (b5.fresh nl).1)
   all_goals (repeat (first|refine B2.use ?_|refine W3.use ?_|rw[a1B (a7Y _ _),oD]|rw[a1B (b4l _),oD]|refine⟨f2, ?_⟩))
   all_goals (first
    |refine stP (k:=k) (cs:=[.int .i64 0, .nilFn]) (b5.set_ne _ _ _ ne |>.trans (b5.set_same _ _ _)) (clA _) ⟨rfl,by decide,by simp⟩ fun a1=> ?_
    |refine stP (k:=l') (cs:=[.int .i64 0, .nilFn]) (b5.set_same _ _ _) (clA _) ⟨rfl,by decide,by simp⟩ fun a1=> ?_)
   all_goals (first
    |refine stP (k:=l') (cs:=[.int .i64 0, .nilFn]) ((b5.set_ne _ _ _ (Ne.symm ne)).trans (b5.set_same _ _ _)) (clA _) ⟨rfl,by decide,by simp⟩ fun a2=> ?_
    |refine stP (k:=k) (cs:=[.int .i64 0, .nilFn]) (((b5.set_ne _ _ _ ne).trans (b5.set_ne _ _ _ ne)).trans (b5.set_same _ _ _)) (clA _) ⟨rfl,by decide,by simp⟩ fun a2=> ?_)
   all_goals (first|rw[c5X _ ne]|rw[c6h _ ne])
   all_goals (first|exact hA (al:=al) nk nl _ _|exact hB (al:=al) nk nl _ _)
  ·have h49:¬op=49:=by simpa using h49
   have edX:a7i bs p=((op,a,b,[]),s):=by unfold a7i;rw[egd,if_neg h49,hgd, ←hfold]
   refine b9k hd.h4 hd.h7 hd.h10 rfl rfl fun S'' hS''=> ?_
   have hle:S.le S'':=fun i o e=>by rw[hS'' i (fun e'=>by rw[e',hd.n4]at e;cases e)];exact hd.le _ _ e
   refine b8.less hle (b8.here ⟨.nilSlc, ?_, ?_⟩)
   ·by_cases he:s.2=0
    ·rw[if_pos he,edT,edS,edX,if_neg (by simp[he])]
     unfold b5d;rw[he]
    ·rw[if_neg he,edT,edS,edX,if_pos (by simpa using he)];rfl
   ·rw[edT,edS,edX]
    by_cases he:s.2=0
    ·rw[if_neg (by simp[he])];exact Grw.nil _ _
    ·rw[if_pos (by simpa using he)];exact Grw.nil _ _
end
end Go.Proofs.Ytdkidgkiplcggaa.d
end
section
namespace Go.Am
def ob:D→List Nat
 | .raw k _ _ _ _ _=>[k]
 |_=>[]
section
variable{S T:b5}{av:List Nat}{t u:D}{rows rows':List (List D)}{sz sz':Nat}
theorem X0.ob_some(h:X0 S av t rows sz T):∀j∈ob t,T j≠Option.none:=by
 rcases h with ⟨rfl,_⟩|⟨k,acs,_,_,rfl,h3⟩
 ·simp[ob]
 ·simp[ob,h3]
theorem X0.ob_av(h:X0 S av t rows sz T):∀j∈ob t,j ∉ av:=by
 rcases h with ⟨rfl,_⟩|⟨k,acs,_,h1,rfl,_⟩
 ·simp[ob]
 ·simpa [ob]using h1
theorem X0.apart(h:X0 S av t rows sz T){T':b5}{av':List Nat}(e:∀j∈ob t,T' j=T j)(ha:∀j∈ob t,j ∉ av'):X0 S av' t rows sz T':=by
 rcases h with h|⟨k,acs,h0,h1,rfl,h3⟩
 ·exact .inl h
 ·exact .inr ⟨k,acs,h0,ha k (by simp[ob]),rfl,by rw[e k (by simp[ob])];exact h3⟩
theorem b8.grA{E:d6}{Q:D→b5→Prop}{pre post:List D}(h:X0 S av t rows sz T)(hle:S.le T)(hQ:∀T',S.le T'→(∀j,j ∉ ob t→T' j=T j)→b8 E Q (.tup (pre++ .lst rows sz::post)) T'):b8 E Q (.tup (pre++t::post)) T:=by
 rcases h with ⟨rfl,rfl⟩|⟨k,acs,h0,h1,rfl,h3⟩
 ·exact b8.nilT (hQ T hle fun _ _=>rfl)
 ·refine b8.freezeT h3 rfl (by simp) (Nat.le_refl _) ?_
  simpa using hQ (T.erase k) (b5.le_erase hle h0) fun j hj=>b5.erase_ne _ _ (by simpa [ob]using hj)
def GrP(S:b5)(av:List Nat)(t:D)(rows:List (List D))(sz:Nat)(u:D)(rows':List (List D))(sz':Nat)(T:b5):Prop:=
 S.le T∧(∀j∈av,T j≠Option.none)∧X0 S (ob u++av) t rows sz T∧X0 S (ob t++av) u rows' sz' T
theorem GrP.nil:GrP S [] .nilSlc [] sz .nilSlc [] sz' S:=⟨b5.le_refl _,by simp,X0.nil,X0.nil⟩
theorem GrP.swap(h:GrP S av t rows sz u rows' sz' T):GrP S av u rows' sz' t rows sz T:=⟨h.1,h.2.1,h.2.2.2,h.2.2.1⟩
theorem GrP.push(h:GrP S av t rows sz u rows' sz' T){bytes:Nat}{v:D}{news:List (List D)}(hv:rowsS T sz v=some news)(hn:news≠[])(hb:0<bytes∧(2*(rows.length+news.length)+768)*bytes≤2^47){K:D→b5→Prop}
  (hK:∀t' T',(∀j∈av,T' j=T j)→GrP S av t' (rows++news) sz u rows' sz' T'→K t' T'):s9 T sz bytes t v K:=by
 obtain⟨h1,h2,h3,h4⟩:=h
 refine h3.push h1 (fun j hj=> ?_) hv hn hb fun t' T' hle he hg=>hK t' T' (fun j hj=>he j (List.mem_append_right _ hj)) ⟨hle,fun j hj=> ?_,hg, ?_⟩
 ·rcases List.mem_append.1 hj with hj|hj
  ·exact h4.ob_some j hj
  ·exact h2 j hj
 ·rw[he j (List.mem_append_right _ hj)];exact h2 j hj
 ·refine h4.apart (fun j hj=>he j (List.mem_append_left _ hj)) fun j hj hm=> ?_
  rcases List.mem_append.1 hm with hm|hm
  ·exact hg.ob_av j hm (List.mem_append_left _ hj)
  ·exact h4.ob_av j hj (List.mem_append_right _ hm)
theorem GrP.set(h:GrP S av t rows sz u rows' sz' T){l:Nat}{o:s7}(hl:T l=Option.none):GrP S av t rows sz u rows' sz' (T.set l o):=by
 obtain⟨h1,h2,h3,h4⟩:=h
 exact⟨b5.le_set h1 (b5.none_of h1 hl),fun j hj=>(by rw[b5.set_ne _ _ _ (fun e=>h2 j hj (by rw[e];exact hl))];exact h2 j hj),h3.set (.inr hl),h4.set (.inr hl)⟩
theorem GrP.more(h:GrP S av t rows sz u rows' sz' T){l:Nat}{o:s7}(hl:T l=Option.none):GrP S (l::av) t rows sz u rows' sz' (T.set l o):=by
 have hs:=h.set (o:=o) hl
 have n1:∀j∈ob t,j≠l:=fun j hj e=>h.2.2.1.ob_some j hj (e▸hl)
 have n2:∀j∈ob u,j≠l:=fun j hj e=>h.2.2.2.ob_some j hj (e▸hl)
 refine⟨hs.1,fun j hj=> ?_,hs.2.2.1.apart (fun _ _=>rfl) fun j hj hm=> ?_,hs.2.2.2.apart (fun _ _=>rfl) fun j hj hm=> ?_⟩
 ·rcases List.mem_cons.1 hj with rfl|hj
  ·rw[b5.set_same];simp
  ·exact hs.2.1 j hj
 ·rcases List.mem_append.1 hm with hm|hm
  ·exact hs.2.2.1.ob_av j hj (List.mem_append_left _ hm)
  ·rcases List.mem_cons.1 hm with rfl|hm
   ·exact n1 _ hj rfl
   ·exact hs.2.2.1.ob_av j hj (List.mem_append_right _ hm)
 ·rcases List.mem_append.1 hm with hm|hm
  ·exact hs.2.2.2.ob_av j hj (List.mem_append_left _ hm)
  ·rcases List.mem_cons.1 hm with rfl|hm
   ·exact n2 _ hj rfl
   ·exact hs.2.2.2.ob_av j hj (List.mem_append_right _ hm)
theorem GrP.fin{E:d6}{Q:D→b5→Prop}{post:List D}(h:GrP S av t rows sz u rows' sz' T)(hQ:b8 E Q (.tup (.lst rows sz:: .lst rows' sz'::post)) S):b8 E Q (.tup (t::u::post)) T:=by
 obtain⟨h1,h2,h3,h4⟩:=h
 refine b8.grA (pre:=[]) h3 h1 fun T' hle he=> ?_
 have h4':X0 S (ob t++av) u rows' sz' T':=h4.apart (fun j hj=>he j fun hm=>h3.ob_av j hm (List.mem_append_left _ hj)) fun j hj hm=>h4.ob_av j hj hm
 exact b8.grA (pre:=[.lst rows sz]) h4' hle fun T2 hle2 _=>b8.less hle2 hQ
end
end Go.Am
end
section
open Go.Proofs Go Go.Am Go.Op
namespace Go.Proofs.Ytdkidgkiplcggaa.d
section
section
variable{E:d6}{w0:i7}
structure Mo.Small (m:Mo) (N:Nat):Prop where
 types:m.types.length≤N
 texts:m.texts.length≤N
 funcs:m.funcs.length≤N
 fields:∀t∈m.types,t.fields.length≤N
 params:∀r∈m.funcs,r.params.length≤N∧r.results.length≤N∧r.code.length≤N
end
end
section
@[simp] theorem c4p(S:b5)(l:List (Tx×Int)):rowsS S 2 (b6F l)=some (l.map c3i):=by simp[b6F,rowsS,E7]
@[simp] theorem c4U(S:b5)(l:List Tx):rowsS S 1 (c3m l)=some (U6 (l.map D.str)):=by simp[c3m,rowsS,E7]
theorem Grw.cells{S0 S:b5}{t:D}{rows:List (List D)}{sz:Nat}(g:Grw S0 t rows sz S):r5 t=some [t]:=by rcases g with ⟨rfl,_⟩|⟨_,_,_,rfl,_⟩<;>rfl
structure Mo.Fits (m:Mo):Prop where
 ok:m.Ok
 types:m.types.length<2^30
 texts:m.texts.length<2^30
 funcs:m.funcs.length<2^30
 fields:∀t∈m.types,t.fields.length<2^30
 params:∀r∈m.funcs,r.params.length<2^30∧r.results.length<2^30∧r.code.length<2^30
section
variable{E:d6}{w0:i7}
end
end
section
def a0X(P:Program)(E:d6)(w0:i7)(f:FuncId)(ds:List D)(d:D):Prop:=∀S,r7 P E w0 f ds S fun d' S'=>d'=d∧S'=S
theorem a0X.use{P:Program}{E:d6}{w0:i7}{f:FuncId}{ds:List D}{d:D}(h:a0X P E w0 f ds d){S:b5}{K:D→b5→Prop}(hk:K d S):r7 P E w0 f ds S K:=(h S).use fun d' S' ⟨a,b⟩=>by subst a b;exact hk
section
variable{E:d6}{w0:i7}
end
end
section
def a0V(d:Dat):In:=⟨d.1,d.2.1,d.2.2.1,d.2.2.2⟩
theorem b2g(d:Dat):(a0V d).dat=d:=rfl
def Q1(l:List In):D:= .lst (l.map inC) 4
def c3x(r:Dat×(Nat×Int)):D:= .tup [inD (a0V r.1), .int .i64 (r.2.1:Int), .int .i64 r.2.2]
def z6(l:List (Dat×Nat)):List In:=l.map fun x=>a0V x.1
def C7(l:List (Dat×Nat)):List Int:=l.map fun x=>(x.2:Int)
def c5o(r:Except Int (List (Dat×Nat))):D:=match r with
 | .ok l=> .tup [Q1 (z6 l),iD (C7 l), .int .i64 0]
 | .error e=> .tup [Q1 [],iD [], .int .i64 e]
abbrev a2f(bs:List Int):Except Int (List (Dat×Nat)):=a1t bs (bs.length+1) 0
theorem a1f{bs:List Int}{n p:Nat}(hp:p<bs.length):a1t bs (n+1) p=if(y9 bs p).2.2=0 then(match a1t bs n (y9 bs p).2.1 with| .ok l=> .ok (((y9 bs p).1,p)::l)| .error e=> .error e) else .error (y9 bs p).2.2:=by
 rw[a1t,if_neg (by omega)]
 all_goals rfl
theorem c0d{done:List (Dat×Nat)}{x:Dat×Nat}(r:Except Int (List (Dat×Nat))):c0g done (match r with| .ok l=> .ok (x::l)| .error e=> .error e)=c0g (done++[x]) r:=by
 cases r with
 |error e=>rfl
 |ok l=>simp[c0g]
theorem b7L{bs:List Int}(hb:∀b∈bs,J5 b){p:Nat}(h:(y9 bs (p:Int)).2.2=0):(a0V (y9 bs p).1).Ok∧p<(y9 bs p).2.1∧(y9 bs p).2.1≤bs.length:=by
 obtain⟨_,_,h3,_,hsg,hnx⟩:=b6d hb h (b2g _)
 rw[Int.toNat_natCast]at hnx hsg
 have:=b0T (a0V (y9 bs p).1)
 have:=hsg.1
 exact⟨h3,by omega,by omega⟩
section
variable{E:d6}{w0:i7}
theorem c0c{k sz:Nat}{rows:List (List D)}{acs:List AV}:Am.frz k ⟨sz,rows,acs⟩ (.raw k 0 rows.length rows.length false sz)= .lst rows sz:=by
 rw[b9Q (by omega) (Nat.le_refl _),List.drop_zero,List.take_length]
theorem b3s{bs:List Int}(hb:∀b∈bs,J5 b)(hl:bs.length<2^30){n:Int}:a0X Try.prog E w0 a0R [bD bs, .int .i64 n] (c3x (y9 bs n)):=fun S=>
 (b3i hb hl).fin fun v S' ⟨t,ev,g⟩=>by
  subst ev
  rcases g with ⟨rfl,e,rfl⟩|⟨k,acs,h0,rfl,rfl⟩
  ·refine b8.weak (d':=c3x (y9 bs n)) ?_ b8.pure
   refine Wk.tup ⟨Wk.agg ⟨Wk.refl _,Wk.refl _,Wk.refl _, ?_,trivial⟩,Wk.refl _,Wk.refl _,trivial⟩
   have:b2i (a0V (y9 bs n).1).arms= .lst [] 2:=by unfold b2i;rw[show(a0V (y9 bs n).1).arms=(y9 bs n).1.2.2.2 from rfl,e]
   rw[this]
   exact Wk.nil 2
  ·refine b8.frz h0 ?_
   have:Am.frz k ⟨2,(y9 bs n).1.2.2.2.map Z5,acs⟩ (b5d (y9 bs n) (.raw k 0 ((y9 bs n).1.2.2.2.map Z5).length ((y9 bs n).1.2.2.2.map Z5).length false 2))=c3x (y9 bs n):=by
    have e:∀(o:s7) (a b c d e:Int) (tt:D),Am.frz k o (.tup [.agg [.int .u8 a, .int .i64 b, .int .i64 c,tt], .int .i64 d, .int .i64 e])= .tup [.agg [.int .u8 a, .int .i64 b, .int .i64 c,Am.frz k o tt], .int .i64 d, .int .i64 e]:=by
     intros;simp only[Am.frz,Am.W8]
    unfold b5d O8
    rw[e,c0c]
    rfl
   rw[this]
   exact b8.pure
def c4k(S:b5)(r:Except Int (List (Dat×Nat)))(v:D)(T:b5):Prop:=match r with
 | .ok l=>∃t u,v= .tup [t,u, .int .i64 0]∧GrP S [] t ((z6 l).map inC) 4 u (iC (C7 l)) 1 T
 | .error e=>v= .tup [.nilSlc, .nilSlc, .int .i64 e]∧T=S
theorem b0m{bs:List Int}(hb:∀b∈bs,J5 b)(hl:bs.length<2^30){S:b5}:r7 Try.prog E w0 Y7 [bD bs] S (c4k S (a2f bs)):=by
 refine b5L ?_
 unfold b3X
 refine b1U (I:=fun n x0 x5 x6 x7 T=>x0=bD bs∧∃(p:Nat) (done:List (Dat×Nat)),x7= .int .i64 (p:Int)∧p≤bs.length∧bs.length<p+n∧done.length≤p∧GrP S [] x5 ((z6 done).map inC) 4 x6 (iC (C7 done)) 1 T∧a2f bs=c0g done (a1t bs n p)) ?_ (n:=bs.length+1)
  ⟨rfl,0,[],rfl,by omega,by omega,by simp,GrP.nil,by unfold a2f;cases a1t bs (bs.length+1) 0<;>rfl⟩
 rintro n _ x5 x6 _ T ⟨rfl,p,done,rfl,hp,hpn,hdl,hg,hrun⟩
 unfold a5e
 rw[a9c,oD,a3K,oD,cdI]
 obtain⟨n,rfl⟩:∃m,n=m+1:=⟨n - 1,by omega⟩
 refine⟨fun hlt=> ?_,fun hge=> ?_⟩
 ·have hlt:p<bs.length:=by omega
  rw[a1f hlt]at hrun
  refine(b3s hb hl).use ?_
  unfold c3x
  simp only[exD,List.getElem?_cons_zero,List.getElem?_cons_succ,oD]
  intro k a nk
  refine(I5.new (sz:=4) (c:=[.int .u8 0, .int .i64 0, .int .i64 0, .nilSlc])).st (ds:=inC (a0V (y9 bs p).1)) (clA _) ⟨rfl,by decide,by decide⟩ fun a'=> ?_
  rw[b5.set_set,show n8 [.int .u8 0, .int .i64 0, .int .i64 0, .nilSlc] 0 (inC (a0V (y9 bs p).1))=inC (a0V (y9 bs p).1) from rfl,b1B,oD,c2I,cdI]
  have hg2:=hg.set (o:=⟨4,[inC (a0V (y9 bs p).1)],a'⟩) nk
  refine⟨fun he=> ?_,fun he=> ?_⟩
  ·rw[if_neg he]at hrun
   rw[hrun]
   exact b8.less hg2.1 (b8.here ⟨rfl,rfl⟩)
  ·have he:(y9 bs p).2.2=0:=Classical.not_not.1 he
   obtain⟨_,h1,h2⟩:=b7L hb he
   rw[if_pos he,c0d]at hrun
   rw[(I5.new).all (n:=4) (by decide) rfl,oD,show A1 4 (List.replicate 1 [(D.int .u8 0),(.int .i64 0),(.int .i64 0), .nilSlc]) [(0, .agg (inC (a0V (y9 bs p).1)))]=some [inC (a0V (y9 bs p).1)]from rfl]
   refine V4 rfl ?_
   refine hg2.push (news:=[inC (a0V (y9 bs p).1)]) (by simp[rowsS,E7]) (by simp) (by simp[z6];omega) fun t' T' _ hg3=> ?_
   rw[show A1 1 (List.replicate 1 [D.int .i64 0]) [(0, .int .i64 (p:Int))]=some (iC [(p:Int)]) from rfl]
   refine V4 rfl ?_
   refine hg3.swap.push (news:=iC [(p:Int)]) (by simp[rowsS,E7]) (by simp[iC,U6]) (by simp[C7];omega) fun u' T2 _ hg4=> ?_
   refine⟨n,by omega,by trivial,(y9 bs p).2.1,done++[((y9 bs p).1,p)],rfl,h2,by omega,by simp;omega, ?_,hrun⟩
   have e1:(z6 (done++[((y9 bs p).1,p)])).map inC=(z6 done).map inC++[inC (a0V (y9 bs p).1)]:=by simp[z6]
   have e2:iC (C7 (done++[((y9 bs p).1,p)]))=iC (C7 done)++iC [(p:Int)]:=by rw[←a0d];simp[C7]
   rw[e1,e2]
   exact hg4.swap
 ·have e0:a1t bs (n+1) p= .ok []:=by rw[a1t,if_pos (by omega)]
  rw[e0]at hrun
  rw[hrun]
  have:c0g done (.ok [])= .ok done:=by simp[c0g]
  rw[this]
  exact b8.here ⟨_,_,rfl,hg⟩
theorem b8I{bs:List Int}(hb:∀b∈bs,J5 b)(hl:bs.length<2^30):a0X Try.prog E w0 Y7 [bD bs] (c5o (a2f bs)):=fun S=>
 (b0m hb hl).fin fun v T h=>by
  cases hr:a2f bs with
  |error e=>
   rw[hr]at h
   obtain⟨rfl,rfl⟩:=h
   exact b8.weak (d':= .tup [Q1 [],iD [], .int .i64 e]) (Wk.tup ⟨Wk.nil 4,Wk.nil 1,Wk.refl _,trivial⟩) b8.pure
  |ok l=>
   rw[hr]at h
   obtain⟨t,u,rfl,hg⟩:=h
   exact hg.fin b8.pure
end
theorem b1y{bs:List Int}(hb:∀b∈bs,J5 b):∀(n p:Nat) (l:List (Dat×Nat)),a1t bs n p= .ok l→p≤bs.length→l.length+p≤bs.length∧∀x∈l,(a0V x.1).Ok
 |0,p,l,h,hp=>by cases h;exact⟨by simpa using hp,by simp⟩
 |n+1,p,l,h,hp=>by
  by_cases hlt:p<bs.length
  ·rw[a1f hlt]at h
   split at h
   ·rename_i he
    obtain⟨h1,h2,h3⟩:=b7L hb he
    split at h
    ·rename_i l' e
     cases h
     obtain⟨g1,g2⟩:=b1y hb n _ l' e h3
     refine⟨by simp only[List.length_cons];omega,fun x hx=> ?_⟩
     rcases List.mem_cons.1 hx with rfl|hx
     ·exact h1
     ·exact g2 x hx
    ·cases h
   ·cases h
  ·have e0:a1t bs (n+1) p= .ok []:=by rw[a1t,if_pos (by omega)]
   rw[e0]at h
   cases h
   exact⟨by simpa using hp,by simp⟩
def a8H(r:Except Int (List (Dat×Nat))):List In×List Int×Int:=match r with
 | .ok l=>(z6 l,C7 l,0)
 | .error e=>([],[],e)
theorem c3q(r:Except Int (List (Dat×Nat))):c5o r= .tup [Q1 (a8H r).1,iD (a8H r).2.1, .int .i64 (a8H r).2.2]:=by cases r<;>rfl
theorem c3f{bs:List Int}(hb:∀b∈bs,J5 b):(∀y∈(a8H (a2f bs)).1,y.Ok)∧(a8H (a2f bs)).1.length≤bs.length∧(a8H (a2f bs)).2.1.length≤bs.length:=by
 cases h:a2f bs with
 |error e=>exact⟨by simp[a8H],by simp[a8H],by simp[a8H]⟩
 |ok l=>
  obtain⟨h1,h2⟩:=b1y hb _ 0 l h (Nat.zero_le _)
  refine⟨fun y hy=> ?_,by simp[a8H,z6];omega,by simp[a8H,C7];omega⟩
  obtain⟨x,hx,rfl⟩:=List.mem_map.1 hy
  exact h2 x hx
end
end Go.Proofs.Ytdkidgkiplcggaa.d
end
section
open Go.Proofs Go Go.Am
namespace Go.Proofs.Ytdkidgkiplcggaa.d
def a2O:List (Nat×List Nat):=[]
def a2R:List (Nat×List Nat):=[]
def a2K:List (Nat×Arr):=[]
def W5(E:d6)(w0:i7)(Q:D→b5→Prop)(a0 a1:D)(S:b5):Prop:=
 r7 Try.prog E w0 O6 [a0,a1] S fun v0 S1=>
 a8 (d4 .geq v0 (.int .i64 0)) fun v2=>
 Q v2 S1
theorem a1K{E:d6}{w0:i7}{Q:D→b5→Prop}{a0 a1:D}{S:b5}(h:W5 E w0 (b8 E Q) a0 a1 S):r7 Try.prog E w0 W2 [a0,a1] S Q:=
 q9 a2O a2R a2K (fn:=Try.f132) (c:=Try.f132.body.getD .skip) mixed Try.func132 (by kernel_rfl) (by kernel_rfl) h
def M1:List (Nat×List Nat):=[(4,[0,1,7,8])]
def L7:List (Nat×List Nat):=[]
def L6:List (Nat×Arr):=[]
noncomputable def K2:Code:=(j4 [1,0,1,0,0] (Try.f141.body.getD .skip))
def K4(E:d6)(w0:i7)(Q:D→b5→Prop):j7→List D→b5→Prop:=
 (A4 0 (a1O Try.prog E w0 M1 L7 L6 (j4 [1,1] (Try.f141.body.getD .skip)) (R5 Try.prog Try.f141 Q)))
def K1(E:d6)(w0:i7)(N0:D→D→D→D→b5→Prop)(Q:D→b5→Prop)(x0 x1 x7 x8:D)(S:b5):Prop:=
 a8 (d4 .lss x8 x7) fun v1=>
 d9 v1
 (a8 (m9 1 x0 x8) fun v2=>
 a8 (c9 S v2) fun v3=>
 a8 (d4 .eql x1 v3) fun v4=>
 d9 v4
 (Q x8 S)
 (a8 (d4 .add x8 (.int .i64 1)) fun v5=>
 N0 x0 x1 x7 v5 S))
 (Q (.int .i64 (-1)) S)
theorem a2d{E:d6}{w0:i7}{N0:D→D→D→D→b5→Prop}{Q:D→b5→Prop}{x0 x1 x7 x8:D}{S:b5}(h:K1 E w0 N0 Q x0 x1 x7 x8 S):
  d5 Try.prog E w0 K2 (g8 19 [0,1,7,8] [x0,x1,x7,x8]) S (I4 (fun T S=>N0 (T.getD 0 b6) (T.getD 1 b6) (T.getD 7 b6) (T.getD 8 b6) S) (K4 E w0 Q)):=f9 M1 L7 L6 mixed (by kernel_rfl) h
theorem a2c{E:d6}{w0:i7}{Q:D→b5→Prop}(I:Nat→D→D→D→D→b5→Prop)
  (step:∀n x0 x1 x7 x8 S,I n x0 x1 x7 x8 S→K1 E w0 (fun x0 x1 x7 x8 S=>∃m,m<n∧I m x0 x1 x7 x8 S) Q x0 x1 x7 x8 S)
  {n:Nat} {x0 x1 x7 x8:D} {S:b5} (h:I n x0 x1 x7 x8 S):d5 Try.prog E w0 (.loop K2) (g8 19 [0,1,7,8] [x0,x1,x7,x8]) S (K4 E w0 Q):=
 t8 (k:=19) (n:=n) (I:=fun n T S=>I n (T.getD 0 b6) (T.getD 1 b6) (T.getD 7 b6) (T.getD 8 b6) S) (fun n T S hl hI=>z7 [0,1,7,8] hl (d5.mono (a2d (step n _ _ _ _ S hI)) fun ex T' S' _ hq=>by cases ex<;>exact hq)) (j0 ..) (Eq.mp (by kernel_rfl) h)
def a0A(E:d6)(w0:i7)(Q:D→b5→Prop)(a0 a1:D)(S:b5):Prop:=
 a8 (j8 a0) fun v0=>
 d5 Try.prog E w0 (.loop K2) (g8 19 [0,1,7,8] [a0,a1,v0,(.int .i64 0)]) S (K4 E w0 Q)
theorem a2X{E:d6}{w0:i7}{Q:D→b5→Prop}{a0 a1:D}{S:b5}(h:a0A E w0 (b8 E Q) a0 a1 S):r7 Try.prog E w0 O6 [a0,a1] S Q:=
 q9 M1 L7 L6 (fn:=Try.f141) (c:=Try.f141.body.getD .skip) mixed Try.func141 (by kernel_rfl) (by kernel_rfl) h
end Go.Proofs.Ytdkidgkiplcggaa.d
end
section
open Go.Proofs Go Go.Am Go.Op
namespace Go.Proofs.Ytdkidgkiplcggaa.d
section
def Own(S0:b5)(d:D)(l:List Int)(S:b5):Prop:=
 (d= .nilSlc∧l=[]∧S=S0)∨∃k acs ex,S0 k=Option.none∧d= .raw k 0 l.length l.length ex 1∧S=S0.set k ⟨1,iC l,acs⟩
theorem Own.le{S0 S:b5}{d:D}{l:List Int}(h:Own S0 d l S):S0.le S:=by
 rcases h with ⟨_,_,rfl⟩|⟨k,acs,ex,h,_,rfl⟩
 ·exact b5.le_refl _
 ·exact b5.le_new h
theorem Own.nil(S:b5):Own S .nilSlc [] S:= .inl ⟨rfl,rfl,rfl⟩
theorem Own.cells{S0 S:b5}{d:D}{l:List Int}(h:Own S0 d l S):r5 d=some [d]:=by rcases h with ⟨rfl,_⟩|⟨_,_,_,_,rfl,_⟩<;>rfl
theorem Own.base{S0 S1 S:b5}{d:D}{l:List Int}(h:Own S1 d l S)(hle:S0.le S1):∃S',S'.le S∧Own S0 d l S':=by
 rcases h with ⟨rfl,rfl,rfl⟩|⟨k,acs,ex,h,rfl,rfl⟩
 ·exact⟨S0,hle, .inl ⟨rfl,rfl,rfl⟩⟩
 ·have hk:S0 k=Option.none:=by
   cases e:S0 k with
   |none=>rfl
   |some o=>rw[hle _ _ e]at h;cases h
  refine⟨S0.set k ⟨1,iC l,acs⟩,fun j o e=> ?_, .inr ⟨k,acs,ex,hk,rfl,rfl⟩⟩
  unfold b5.set at e ⊢
  split at e
  ·rename_i hj;rw[if_pos hj];exact e
  ·rename_i hj;rw[if_neg hj];exact hle _ _ e
theorem Own.upd{S0 S:b5}{d:D}{l:List Int}{k:Nat}{o o':s7}(h:Own S0 d l S)(hk:S0 k=some o'):Own (S0.set k o) d l (S.set k o):=by
 rcases h with ⟨rfl,rfl,rfl⟩|⟨j,acs,ex,h,rfl,rfl⟩
 ·exact .inl ⟨rfl,rfl,rfl⟩
 ·have hne:j≠k:=fun e=>by rw[e,hk]at h;cases h
  refine .inr ⟨j,acs,ex, ?_,rfl,b5.set_comm _ hne _ _⟩
  rw[b5.set_ne _ _ _ hne];exact h
def Two(S0:b5)(c:D)(lc:List Int)(d:D)(ld:List Int)(S:b5):Prop:=∃S1,Own S0 c lc S1∧Own S1 d ld S
theorem Two.base{S0 S1 S:b5}{c d:D}{lc ld:List Int}(h:Two S1 c lc d ld S)(hle:S0.le S1):∃S',S'.le S∧Two S0 c lc d ld S':=by
 obtain⟨S2,h1,h2⟩:=h
 obtain⟨S2',l2,g1⟩:=h1.base hle
 obtain⟨S',l3,g2⟩:=h2.base l2
 exact⟨S',l3,S2',g1,g2⟩
theorem Two.upd{S0 S:b5}{c d:D}{lc ld:List Int}{k:Nat}{o o':s7}(h:Two S0 c lc d ld S)(hk:S0 k=some o'):Two (S0.set k o) c lc d ld (S.set k o):=by
 obtain⟨S2,h1,h2⟩:=h
 exact⟨S2.set k o,h1.upd hk,h2.upd (h1.le _ _ hk)⟩
theorem Two.le{S0 S:b5}{c d:D}{lc ld:List Int}(h:Two S0 c lc d ld S):S0.le S:=by
 obtain⟨S2,h1,h2⟩:=h
 exact b5.le_trans h1.le h2.le
theorem b9W{S:b5}{l:List Int}{K:D→b5→Prop}(h:∀d S',Own S d l S'→K d S'):M2 S 1 (some (iC l)) l.length K:=
 c2X fun k acs hk=>h _ _ (.inr ⟨k,acs,true,hk,by simp,rfl⟩)
section
variable{E:d6}{w0:i7}
theorem b7b{l:List Int}{v:Int}(hl:l.length<2^60):a0X Try.prog E w0 W2 [bD l, .int .u8 v] (.bool (l.contains v)):=fun S=>by
 refine a1K ?_
 unfold W5
 have key:r7 Try.prog E w0 O6 [bD l, .int .u8 v] S fun d S'=>S'=S∧∃n:Int,d= .int .i64 n∧decide (n≥0)=l.contains v:=by
  refine a2X ?_
  unfold a0A
  rw[a9c,oD]
  refine a2c (I:=fun n x0 x1 x7 x8 S'=>S=S'∧x0=bD l∧x1= .int .u8 v∧x7= .int .i64 (l.length:Int)∧∃i:Nat,x8= .int .i64 (i:Int)∧i+n=l.length∧v ∉ l.take i) ?_ (n:=l.length) ⟨rfl,rfl,rfl,rfl,0,rfl,by omega,by simp⟩
  rintro n _ _ _ _ _ ⟨rfl,rfl,rfl,rfl,i,rfl,hi,hn⟩
  unfold K1
  rw[a3K,oD,cdI]
  refine⟨fun hlt=> ?_,fun hge=> ?_⟩
  ·have hlt:i<l.length:=by omega
   have ea:l[i]? =some l[i]:=List.getElem?_eq_getElem hlt
   rw[c1K ea,oD,lsE,List.getElem?_cons_zero,oD,a6c,oD,c5e,cdI]
   refine⟨fun e=>b8.here ⟨rfl,i,rfl, ?_⟩,fun e=> ?_⟩
   ·rw[decide_eq_true (by omega)]
    symm
    rw[List.contains_iff_mem,e]
    exact List.getElem_mem _
   ·rw[J8,oD,g9 (by omega) (by omega)]
    refine⟨n - 1,by omega,rfl,rfl,rfl,rfl,i+1,rfl,by omega, ?_⟩
    rw[List.take_add_one,ea,Option.toList_some,List.mem_append,List.mem_singleton]
    exact fun h=>h.elim hn e
  ·rw[List.take_of_length_le (by omega)]at hn
   refine b8.here ⟨rfl, -1,rfl, ?_⟩
   rw[decide_eq_false (by omega)]
   symm
   rw[←Bool.not_eq_true,List.contains_iff_mem]
   exact hn
 refine key.use ?_
 rintro d S' ⟨rfl,n,rfl,h⟩
 rw[c0E,oD,h]
 exact b8.pure
end
end
section
theorem c4N(y:In):(inC y)[0]? =some (.int .u8 y.op)∧(inC y)[1]? =some (.int .i64 y.a)∧(inC y)[2]? =some (.int .i64 y.b)∧(inC y)[3]? =some (b2i y.arms):=⟨rfl,rfl,rfl,rfl⟩
section
variable{E:d6}{w0:i7}
end
end
section
theorem Own.swap{S0 S1 S:b5}{t u:D}{r q:List Int}(h:Own S0 t r S1)(h':Own S1 u q S):∃S2,Own S0 u q S2∧Own S2 t r S:=by
 rcases h with ⟨rfl,rfl,rfl⟩|⟨k,acs,ex,hk,rfl,rfl⟩
 ·exact⟨S,h', .inl ⟨rfl,rfl,rfl⟩⟩
 ·rcases h' with ⟨rfl,rfl,rfl⟩|⟨l,bcs,ex',hl,rfl,rfl⟩
  ·exact⟨S0, .inl ⟨rfl,rfl,rfl⟩, .inr ⟨k,acs,ex,hk,rfl,rfl⟩⟩
  ·obtain⟨hne,hl0⟩:=b5.fresh hl
   refine⟨S0.set l ⟨1,iC q,bcs⟩, .inr ⟨l,bcs,ex',hl0,rfl,rfl⟩, .inr ⟨k,acs,ex, ?_,rfl, ?_⟩⟩
   ·rw[b5.set_ne _ _ _ (Ne.symm hne)];exact hk
   ·exact b5.set_comm _ (Ne.symm hne) _ _
section
variable{E:d6}{w0:i7}{S S3:b5}{k2:Nat}{cs:List D}{a2:List AV}
variable(hle:S.le S3)(hn:S k2=none)(h2:S3 k2=some ⟨3,[cs],a2⟩)(hcs:cs.length=3)
include hle hn h2 hcs
end
section
variable{E:d6}{w0:i7}{S S3:b5}{k k2:Nat}{a a2:List AV}{y:In}
variable(hle:S.le S3)(hn:S k2=none)(h0:S3 k=some ⟨4,[inC y],a⟩)(h2:S3 k2=some ⟨3,[[.nilSlc, .nilSlc, .bool false]],a2⟩)
include hle hn h2
end
section
variable{E:d6}{w0:i7}
end
end
section
section
variable{E:d6}{w0:i7}
theorem b1o{l:List In}{i:Nat}{y:In}(h:l[i]? =some y):m9 4 (Q1 l) (.int .i64 (i:Int))=some (.elt (inC y) 0):=b5F (by rw[List.getElem?_map,h];rfl)
theorem t1':(true==false)=false:=rfl
theorem t2':(false==false)=true:=rfl
end
end
section
def GrZ(S0:b5)(t:D)(rows:List (List D))(sz:Nat)(S:b5):Prop:=Grw S0 t rows sz S∨(rows=[]∧∃k cap ex zr acs,S0 k=none∧t= .raw k 0 0 cap ex sz∧S=S0.set k ⟨sz,zr,acs⟩)
section
variable{S0 S:b5}{t:D}{rows:List (List D)}{sz:Nat}
theorem GrZ.push(h:GrZ S0 t rows sz S){bytes:Nat}{v:D}{news:List (List D)}(hv:rowsS S sz v=some news)(hn:news≠[])(hb:0<bytes∧(2*(rows.length+news.length)+768)*bytes≤2^47){K:D→b5→Prop}(hK:∀t' S',Grw S0 t' (rows++news) sz S'→K t' S'):s9 S sz bytes t v K:=by
 rcases h with h|⟨rfl,k,cap,ex,zr,acs,h0,rfl,rfl⟩
 ·exact h.push hv hb hK
 ·simp only[s9,hv,U9]
  rw[if_neg hn,b5.set_same]
  simp only
  rw[if_pos ⟨by trivial,by trivial,by omega⟩]
  refine⟨by simpa using hb, .inr fun k' acs' hk'=> ?_⟩
  rw[b5.erase_set _ _ _ h0]at hk' ⊢
  refine hK _ _ (.inr ⟨k',acs',hk', ?_, ?_⟩)<;>simp
theorem GrZ.last(h:GrZ S0 t rows sz S){bytes:Nat}{v:D}{news:List (List D)}(hv:rowsS S sz v=some news)(hn:news≠[])(hb:0<bytes∧(2*(rows.length+news.length)+768)*bytes≤2^47){K:D→b5→Prop}(hK:K (.lst (rows++news) sz) S0):s9 S sz bytes t v K:=by
 rcases h with h|⟨rfl,k,cap,ex,zr,acs,h0,rfl,rfl⟩
 ·exact h.last hv hn hb hK
 ·simp only[s9,hv,U9]
  rw[if_neg hn,b5.set_same]
  simp only
  rw[if_pos ⟨by trivial,by trivial,by omega⟩]
  refine⟨by simpa using hb, .inl ?_⟩
  rw[b5.erase_set _ _ _ h0,List.take_of_length_le (by simp)]
  simpa using hK
end
section
variable{E:d6}{w0:i7}
end
end
section
def bytesOf(s:Tx):List Int:=s.map fun b=>(b.toNat:Int)
def WOk(L I:List Int):Prop:=(I.length≤2097153∧L=I)∨(2097153<I.length∧L.length=2097153)
theorem WOk.len{L I:List Int}(h:WOk L I):L.length≤2097153:=by
 rcases h with ⟨h,rfl⟩|⟨_,h⟩<;>omega
def WAt(S:b5)(kw:Nat)(av:List Nat)(I:List Int)(T:b5):Prop:=S.le T∧S kw=none∧kw ∉ av∧(∀j∈av,T j≠none)∧∃(L:List Int) (t:D),WOk L I∧I5 T kw 1 [t]∧X0 S (kw::av) t (U6 (L.map (D.int .u8))) 1 T
section
variable{E:d6}{w0:i7}{S T:b5}{kw:Nat}{av:List Nat}{I:List Int}
theorem WAt.more(h:WAt S kw av I T){l:Nat}{o:s7}(hl:T l=none):WAt S kw (l::av) I (T.set l o):=by
 obtain⟨h1,h2,h3,h4,L,t,h5,h6,h7⟩:=h
 have ne:kw≠l:=h6.none hl
 have nt:∀j∈ob t,j≠l:=fun j hj e=>h7.ob_some j hj (by rw[e];exact hl)
 refine⟨b5.le_set h1 (b5.none_of h1 hl),h2,fun hm=> ?_,fun j hj=> ?_,L,t,h5,h6.set hl,h7.apart (fun j hj=>b5.set_ne _ _ _ (nt j hj)) fun j hj hm=> ?_⟩
 ·rcases List.mem_cons.1 hm with e|hm
  ·exact ne e
  ·exact h3 hm
 ·rcases List.mem_cons.1 hj with rfl|hj
  ·rw[b5.set_same];simp
  ·rw[b5.set_ne _ _ _ fun e=>h4 j hj (by rw[e];exact hl)];exact h4 j hj
 ·have:=h7.ob_av j hj
  rcases List.mem_cons.1 hm with e|hm
  ·exact this (by simp[e])
  ·rcases List.mem_cons.1 hm with e|hm
   ·exact nt j hj e
   ·exact this (by simp[hm])
theorem WAt.upd(h:WAt S kw av I T){l:Nat}{o:s7}(hl:l∈av)(hS:S l=none):WAt S kw av I (T.set l o):=by
 obtain⟨h1,h2,h3,h4,L,t,h5,h6,h7⟩:=h
 have ne:kw≠l:=fun e=>h3 (by rw[e];exact hl)
 refine⟨b5.le_set h1 hS,h2,h3,fun j hj=> ?_,L,t,h5,h6.set_ne ne,h7.set (.inl (by simp[hl]))⟩
 by_cases e:j=l
 ·subst e;rw[b5.set_same];simp
 ·rw[b5.set_ne _ _ _ e];exact h4 j hj
theorem WAt.less(h:WAt S kw av I T){av':List Nat}(ha:∀j∈av',j∈av):WAt S kw av' I T:=by
 obtain⟨h1,h2,h3,h4,L,t,h5,h6,h7⟩:=h
 refine⟨h1,h2,fun hm=>h3 (ha _ hm),fun j hj=>h4 j (ha j hj),L,t,h5,h6,h7.apart (fun _ _=>rfl) fun j hj hm=> ?_⟩
 have:=h7.ob_av j hj
 rcases List.mem_cons.1 hm with e|hm
 ·exact this (by simp[e])
 ·exact this (by simp[ha j hm])
end
end
end Go.Proofs.Ytdkidgkiplcggaa.d
end
