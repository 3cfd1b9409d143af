/-
  BlocksTileSaid: part Nav of its proof.
-/
import Derived.Test.YtdkidgkiplcggaaNau
import Derived.Test.YtdkidgkiplcggaaNat
import Derived.Test.YtdkidgkiplcggaaRows
import Derived.Test.YtdkidgkiplcggaaNar
import Derived.KernelRfl
set_option linter.unusedVariables false
set_option linter.unusedSimpArgs false
set_option maxRecDepth 100000
section
open Go.Proofs Go Go.Am Go.Op
namespace Go.Proofs.Ytdkidgkiplcggaa.d
section
variable{E:d6}{w0:i9}
theorem c5M(T:b4){k l:Nat}(h:k≠l)(z z' A B:s9):(((T.set k z).set l z').set k A).set l B=(T.set k A).set l B:=by
 rw[b4.set_in _ h,b4.set_set]
theorem c6b(T:b4){k l:Nat}(h:k≠l)(z z' A B:s9):(((T.set k z).set l z').set l B).set k A=(T.set k A).set l B:=by
 rw[b4.set_set,b4.set_in _ h]
theorem b7D{bs:List Int}{j:Nat}{a b:Int}{s:Nat×Int}{f:Fld}{l:List Fld}(h:l[j]? =some f):b1W bs j a b s (l.drop j)=b1W bs (j+1) (if j=0 then(A7 bs f s).1 else a) (if j=0 then b else(A7 bs f s).1) (A7 bs f s).2 (l.drop (j+1)):=by
 obtain⟨hj,rfl⟩:=List.getElem?_eq_some_iff.1 h
 rw[List.drop_eq_getElem_cons hj,b1W]
theorem b2F{bs:List Int}(hb:∀b∈bs,I2 b)(hl:bs.length<2^30){n:Int}{S:b4}:s4 Try.prog E w0 a0W [bD bs, .int .i64 n] S fun v S'=>∃t,v=b4A (y9 bs n) t∧Grw S t ((y9 bs n).1.2.2.2.map a0b) 2 S':=by
 refine b0H ?_
 unfold a7t
 intro k4 a4 n4
 have h4:H5 (S.set k4 ⟨4,[zC],a4⟩) k4 4 zC:=H5.new
 change a8 _ _
 have le4:S.le (S.set k4 ⟨4,[zC],a4⟩):=b4.le_new n4
 by_cases hn:n<0∨n≥bs.length
 ·have e:y9 bs n=(b8m,(0,2)):=by unfold y9;rw[if_pos hn]
  have fin:(a8 (D6 (r8 [(D.int .u8 0),(.int .i64 0),(.int .i64 0), .nilSlc] [])) fun v8=>j2 (S.set k4 ⟨4,[zC],a4⟩) 4 (.ptr k4 0) v8 fun v9 S10=>a8 (r9 S10 4 (.ptr k4 0)) fun v11=>b9 E (fun v S'=>∃t,v=b4A (y9 bs n) t∧Grw S t ((y9 bs n).1.2.2.2.map a0b) 2 S') (.tup [v11,(.int .i64 0),(.int .i64 2)]) S10):=by
   rw[fiN,agS,oD]
   refine h4.st (clA _) ⟨rfl,by decide,by decide⟩ fun a=> ?_
   rw[(H5.new).all (n:=4) (by decide) rfl,oD,b4.set_set]
   refine b9.drop n4 (b9.here ⟨.nilSlc, ?_, ?_⟩)
   ·rw[e];rfl
   ·rw[e];exact Grw.nil _ _
  rw[a2X,oD]
  by_cases h1:n<0
  ·rw[decide_eq_true h1]
   simp only[wdB,vdF,oD,pdB,if_true,cdT,show((true==false)=false) from rfl]
   exact fin
  ·have h2:decide (n≥(bs.length:Int))=true:=decide_eq_true (hn.resolve_left h1)
   rw[decide_eq_false h1]
   simp only[wdB,vdT,oD,pdB,Bool.false_eq_true,if_false,a9n,c0f,h2,cdT,show((false==false)=true) from rfl]
   exact fin
 have hn0:¬n<0:=fun h=>hn (.inl h)
 have hn1:¬n≥(bs.length:Int):=fun h=>hn (.inr h)
 obtain⟨p,rfl⟩:∃p:Nat,n=(p:Int):=⟨n.toNat,by omega⟩
 have hp:p<bs.length:=by omega
 have edT:y9 bs (p:Int)=b0I bs p:=by unfold y9;rw[if_neg hn];rfl
 obtain⟨op,hop⟩:∃op,op=bs[p]:=⟨_,rfl⟩
 have hj:bs[p]? =some op:=by rw[List.getElem?_eq_getElem hp,hop]
 have hbop:I2 op:=hb op (by rw[hop];exact List.getElem_mem _)
 have egd:bs.getD p 0=op:=by rw[List.getD_eq_getElem?_getD,hj];rfl
 rw[a2X,oD,decide_eq_false hn0]
 simp only[wdB,vdT,oD,pdB,Bool.false_eq_true,if_false,a9n,c0f,decide_eq_false hn1,cdF,show((false==false)=true) from rfl]
 rw[c1L hj,oD,lsE,List.getElem?_cons_zero,oD]
 have hag:D6 (r8 [(D.int .u8 0),(.int .i64 0),(.int .i64 0), .nilSlc] [(0,1, .int .u8 op)])=some (.agg (N9 op 0 0 .nilSlc)):=rfl
 rw[hag,oD]
 intro k7 a7 n7
 have d47:k4≠k7:=h4.none n7
 have n7':S k7=none:=b4.none_of le4 n7
 have h7z:H5 ((S.set k4 ⟨4,[zC],a4⟩).set k7 ⟨4,[zC],a7⟩) k7 4 zC:=H5.new
 refine h7z.st (ds:=N9 op 0 0 .nilSlc) (clA _) ⟨rfl,by decide,by decide⟩ fun a7=> ?_
 rw[b4.set_set,show n8 zC 0 (N9 op 0 0 .nilSlc)=N9 op 0 0 .nilSlc from rfl]
 have h7:H5 ((S.set k4 ⟨4,[zC],a4⟩).set k7 ⟨4,[N9 op 0 0 .nilSlc],a7⟩) k7 4 (N9 op 0 0 .nilSlc):=H5.new
 have h4':=h4.set (o:=⟨4,[N9 op 0 0 .nilSlc],a7⟩) n7
 have le7:S.le ((S.set k4 ⟨4,[zC],a4⟩).set k7 ⟨4,[N9 op 0 0 .nilSlc],a7⟩):=b4.le_set le4 n7'
 generalize (S.set k4 ⟨4,[zC],a4⟩).set k7 ⟨4,[N9 op 0 0 .nilSlc],a7⟩=T7 at*
 rw[ofP,oD,h7.ld,show(N9 op 0 0 .nilSlc)[0+0]? =some (.int .u8 op) from rfl,oD]
 refine b3x.use ?_
 simp only[exD,List.getElem?_cons_zero,List.getElem?_cons_succ,oD,unN]
 cases hlay:lay op with
 |none=>
  rw[show(!(none:Option (List Fld)).isSome)=true from rfl,cdT,fiN,agS,oD]
  have e:y9 bs (p:Int)=(b8m,(0,120)):=by rw[edT];unfold b0I;rw[egd,if_pos hlay]
  refine h4'.st (clA _) ⟨rfl,by decide,by decide⟩ fun a=> ?_
  rw[(H5.new).all (n:=4) (by decide) rfl,oD]
  refine b9.less (b4.le_set le7 n4) (b9.here ⟨.nilSlc, ?_, ?_⟩)
  ·rw[e];rfl
  ·rw[e];exact Grw.nil _ _
 |some l=>
 rw[show(!(some l).isSome)=false from rfl,cdF,K9,oD,g9 (by omega) (by omega)]
 have hag2:D6 (r8 [.nilSlc,(D.int .i64 0),(.int .i64 0)] [(0,1,bD bs),(1,1, .int .i64 ((p:Int)+1))])=some (.agg (rdC bs (p+1,0))):=rfl
 rw[hag2,oD,clA,oD]
 intro k10 a10 n10
 have hst:M1 S k4 k7 k10 (N9 op 0 0 .nilSlc) bs (p+1,0) (T7.set k10 ⟨3,[rdC bs (p+1,0)],a10⟩):=
  ⟨b4.le_set le7 (b4.none_of le7 n10),n4,n7',b4.none_of le7 n10,d47,h4'.set n10,h7.set n10,H5.new⟩
 have hl2:l.length≤2:=by have:=a6S (op:=op);rw[hlay]at this;exact this
 have hgood:∀f∈l,a2f f:=by have:=a9x op;rw[hlay]at this;exact this
 have hgd:(lay op).getD []=l:=by rw[hlay];rfl
 rw[lnL,oD,b5H,hgd]
 have hl60:bs.length<2^60:=by omega
 have edS:b0I bs p=if(a6Q bs p).2.2≠0 then(b8m,(0,(a6Q bs p).2.2)) else a6Q bs p:=by
  unfold b0I;rw[egd,if_neg (by rw[hlay];simp)]
 refine a7N (I:=fun n x4 x7 x10 x45 x46 x47 T=>x4= .ptr k4 0∧x7= .ptr k7 0∧x10= .ptr k10 0∧x45= .lst (a4L op) 2∧x46= .int .i64 (l.length:Int)∧∃(j:Nat) (a b:Int) (s:Nat×Int),x47= .int .i64 (j:Int)∧j+n=l.length∧
   M1 S k4 k7 k10 (N9 op a b .nilSlc) bs s T∧s.1≤bs.length∧b1W bs j a b s (l.drop j)=D9 bs l (p+1,0)) ?_ (n:=l.length)
  ⟨rfl,rfl,rfl,rfl,rfl,0,0,0,(p+1,0),rfl,by omega,hst,by show p+1≤bs.length;omega,c1R hl2⟩
 rintro n _ _ _ _ _ _ T ⟨rfl,rfl,rfl,rfl,rfl,j,a,b,s,rfl,hjn,hd,hs,hfold⟩
 unfold a1N
 rw[a2X,oD,cdI]
 refine⟨fun hlt=> ?_,fun hge=> ?_⟩
 ·have hlt:j<l.length:=by omega
  obtain⟨f,hf⟩:∃f,f=l[j]:=⟨_,rfl⟩
  have hjf:l[j]? =some f:=by rw[List.getElem?_eq_getElem hlt,hf]
  obtain⟨row,hrow,hfd⟩:=c1d (op:=op) (i:=j) (f:=f) (by rw[hgd];exact hjf)
  have hg:=hgood f (by rw[hf];exact List.getElem_mem _)
  have hg1:=hg.1
  have hg8:=a3A hg
  have hrl:=hfd.len
  rw[b4E hrow,oD,laE,if_pos ⟨by decide,by omega⟩,oD,List.drop_zero,List.take_of_length_le (by omega)]
  intro k ak nk
  refine(H5.new (sz:=2) (c:=[D.int .i64 0, .nilFn])).st (ds:=row) (clA _) ⟨hrl,by decide,by simp⟩ fun ak=> ?_
  rw[b4.set_set,c2U hfd]
  have hd2:=hd.new (o:=⟨2,[row],ak⟩) nk
  have hc:H5 (T.set k ⟨2,[row],ak⟩) k 2 row:=H5.new
  change a8 _ _
  rw[b7D hjf]at hfold
  have hI:=b5c (f:=f) hs
  rw[a2B,oD,cdB]
  refine⟨fun h0=> ?_,fun h0=> ?_⟩
  ·have h0:j=0:=by have:(j:Int)=0:=by simpa using h0
                   omega
   rw[if_pos h0,if_pos h0]at hfold
   rw[hc.all (n:=2) (by decide) hrl.symm,oD]
   refine(a2P hd2 hb hl60 hs hfd hg1 hg8).use ?_
   rintro v T2 ⟨rfl,hd3,_⟩
   rw[ofP,oD]
   refine hd3.h7.st (clI _ _) ⟨rfl,by decide,by simp[N9]⟩ fun a7=> ?_
   rw[K9,oD,g9 (by omega) (by omega)]
   exact⟨n - 1,by omega,rfl,rfl,rfl,rfl,rfl,j+1,_,b,_,rfl,by omega,hd3.set7 (c:=N9 op (A7 bs f s).1 b .nilSlc),hI,hfold⟩
  ·have h0:¬j=0:=by have:¬(j:Int)=0:=by simpa using h0
                    omega
   rw[if_neg h0,if_neg h0]at hfold
   rw[hc.all (n:=2) (by decide) hrl.symm,oD]
   refine(a2P hd2 hb hl60 hs hfd hg1 hg8).use ?_
   rintro v T2 ⟨rfl,hd3,_⟩
   rw[ofP,oD]
   refine hd3.h7.st (clI _ _) ⟨rfl,by decide,by simp[N9]⟩ fun a7=> ?_
   rw[K9,oD,g9 (by omega) (by omega)]
   exact⟨n - 1,by omega,rfl,rfl,rfl,rfl,rfl,j+1,a,_,_,rfl,by omega,hd3.set7 (c:=N9 op a (A7 bs f s).1 .nilSlc),hI,hfold⟩
 ·have hj':j=l.length:=by omega
  subst hj'
  rw[List.drop_length,b1W]at hfold
  rw[ofP,oD,hd.h7.ld,show(N9 op a b .nilSlc)[0+0]? =some (.int .u8 op) from rfl,oD,a2B,oD,cdB]
  refine⟨fun h49=> ?_,fun h49=> ?_⟩
  ·have h49:op=49:=by simpa using h49
   have hb0:b=0:=by
    have hl1:=b8V hlay h49
    rw[hl1]at hfold
    exact congrArg (fun q:Int×Int×(Nat×Int)=>q.2.1) hfold
   subst hb0
   have edX:a6Q bs p=a2m bs 49 a s:=by unfold a6Q;rw[egd,if_pos h49,hgd, ←hfold]
   have d7:∀ {k:Nat},T k=none→k7≠k:=fun hk=>hd.h7.none hk
   have hfin:∀ {k l:Nat} {T':b4},T k=none→T l=none→M1 S k4 k7 k10 (N9 op a 0 .nilSlc) bs s T'→H5 T' k 2 [.int .i64 4,U8 0 4294967295]→H5 T' l 2 [.int .i64 8,a5Y (IntKind.u8.wrap a)]→
     j3 E w0 (b9 E (fun v S'=>∃t,v=b4A (y9 bs (p:Int)) t∧Grw S t ((y9 bs (p:Int)).1.2.2.2.map a0b) 2 S')) (.ptr k4 0) (.ptr k7 0) (.ptr k10 0) (.ptr k 0) (.ptr l 0) T':=fun{k l T'} nk nl hd' c1 c2=>by
    refine c3G hb hl hd' hs c1 c2 (b4.none_of hd.le nk) (b4.none_of hd.le nl) ⟨d7 nk,d7 nl⟩ fun t S' hg=> ?_
    rw[h49]
    rw[h49]at hg
    by_cases he:(a2m bs 49 a s).2.2=0
    ·rw[if_pos he]
     have e:y9 bs (p:Int)=a2m bs 49 a s:=by rw[edT,edS,edX,if_neg (by simp[he])]
     refine b9.here ⟨t, ?_,by rw[e];exact hg⟩
     rw[e]
     unfold b4A
     rw[he]
     rfl
    ·rw[if_neg he]
     have e:y9 bs (p:Int)=(b8m,(0,(a2m bs 49 a s).2.2)):=by rw[edT,edS,edX,if_pos he]
     refine b9.less hg.le (b9.here ⟨.nilSlc, ?_,by rw[e];exact Grw.nil _ _⟩)
     rw[e];rfl
   have ld1:c9 T (.ptr k7 (0+1))=some (.int .i64 a):=hd.h7.ld 1
   have hA:∀ {k l:Nat} {ak al:List AV},T k=none→(T.set k ⟨2,[[.int .i64 0, .nilFn]],ak⟩) l=none→∀ak al,j3 E w0 (b9 E (fun v S'=>∃t,v=b4A (y9 bs (p:Int)) t∧Grw S t ((y9 bs (p:Int)).1.2.2.2.map a0b) 2 S')) (.ptr k4 0) (.ptr k7 0) (.ptr k10 0) (.ptr k 0) (.ptr l 0)
     ((T.set k ⟨2,[[.int .i64 4,U8 0 4294967295]],ak⟩).set l ⟨2,[[.int .i64 8,a5Y (IntKind.u8.wrap a)]],al⟩):=fun{k l _ _} nk nl ak al=>by
    obtain⟨ne,nl'⟩:=b4.fresh nl
    have nl2:(T.set k ⟨2,[[.int .i64 4,U8 0 4294967295]],ak⟩) l=none:=by rw[b4.set_ne _ _ _ ne];exact nl'
    exact hfin nk nl' ((hd.new nk).new nl2) ((H5.new).set nl2) H5.new
   have hB:∀ {k l:Nat} {ak al:List AV},T k=none→(T.set k ⟨2,[[.int .i64 0, .nilFn]],ak⟩) l=none→∀ak al,j3 E w0 (b9 E (fun v S'=>∃t,v=b4A (y9 bs (p:Int)) t∧Grw S t ((y9 bs (p:Int)).1.2.2.2.map a0b) 2 S')) (.ptr k4 0) (.ptr k7 0) (.ptr k10 0) (.ptr l 0) (.ptr k 0)
     ((T.set k ⟨2,[[.int .i64 8,a5Y (IntKind.u8.wrap a)]],ak⟩).set l ⟨2,[[.int .i64 4,U8 0 4294967295]],al⟩):=fun{k l _ _} nk nl ak al=>by
    obtain⟨ne,nl'⟩:=b4.fresh nl
    have nl2:(T.set k ⟨2,[[.int .i64 8,a5Y (IntKind.u8.wrap a)]],ak⟩) l=none:=by rw[b4.set_ne _ _ _ ne];exact nl'
    exact hfin nl' nk ((hd.new nk).new nl2) H5.new ((H5.new).set nl2)
   have l0:∀ {k:Nat} {o:s9},T k=none→(T.set k o) k7=T k7:=fun nk=>b4.set_ne _ _ _ (d7 nk)
   simp only[ofP,oD,ld1,cvI]
   repeat' (refine And.intro ?_ ?_)
   all_goals (repeat (first|refine B2.use ?_|refine W3.use ?_|refine⟨fwR _ _, ?_⟩|rw[a1f (a8l _ _),oD]|rw[a1f (b3E _),oD]))
   all_goals (intro k ak nk)
   all_goals (have f1:=l0 (o:=⟨2,[[.int .i64 0, .nilFn]],ak⟩) nk)
   all_goals (repeat (first|refine B2.use ?_|refine W3.use ?_|rw[a1f (a8l _ _),oD]|rw[a1f (b3E _),oD]|refine⟨f1, ?_⟩))
   all_goals (intro l' al nl)
   all_goals (have f2:∀ {o:s9},((T.set k ⟨2,[[.int .i64 0, .nilFn]],ak⟩).set l' o) k7=T k7:=fun{o}=>by rw[b4.set_ne _ _ _ (d7 (b4.fresh nl).2)];exact f1)
   all_goals (have ne:k≠l':=Ne.symm (b4.fresh nl).1)
   all_goals (repeat (first|refine B2.use ?_|refine W3.use ?_|rw[a1f (a8l _ _),oD]|rw[a1f (b3E _),oD]|refine⟨f2, ?_⟩))
   all_goals (first
    |refine stP (k:=k) (cs:=[.int .i64 0, .nilFn]) (b4.set_ne _ _ _ ne |>.trans (b4.set_same _ _ _)) (clA _) ⟨rfl,by decide,by simp⟩ fun a1=> ?_
    |refine stP (k:=l') (cs:=[.int .i64 0, .nilFn]) (b4.set_same _ _ _) (clA _) ⟨rfl,by decide,by simp⟩ fun a1=> ?_)
   all_goals (first
    |refine stP (k:=l') (cs:=[.int .i64 0, .nilFn]) ((b4.set_ne _ _ _ (Ne.symm ne)).trans (b4.set_same _ _ _)) (clA _) ⟨rfl,by decide,by simp⟩ fun a2=> ?_
    |refine stP (k:=k) (cs:=[.int .i64 0, .nilFn]) (((b4.set_ne _ _ _ ne).trans (b4.set_ne _ _ _ ne)).trans (b4.set_same _ _ _)) (clA _) ⟨rfl,by decide,by simp⟩ fun a2=> ?_)
   all_goals (first|rw[c5M _ ne]|rw[c6b _ ne])
   all_goals (first|exact hA (al:=al) nk nl _ _|exact hB (al:=al) nk nl _ _)
  ·have h49:¬op=49:=by simpa using h49
   have edX:a6Q bs p=((op,a,b,[]),s):=by unfold a6Q;rw[egd,if_neg h49,hgd, ←hfold]
   refine b9g hd.h4 hd.h7 hd.h10 rfl rfl fun S'' hS''=> ?_
   have hle:S.le S'':=fun i o e=>by rw[hS'' i (fun e'=>by rw[e',hd.n4]at e;cases e)];exact hd.le _ _ e
   refine b9.less hle (b9.here ⟨.nilSlc, ?_, ?_⟩)
   ·by_cases he:s.2=0
    ·rw[if_pos he,edT,edS,edX,if_neg (by simp[he])]
     unfold b4A;rw[he]
    ·rw[if_neg he,edT,edS,edX,if_pos (by simpa using he)];rfl
   ·rw[edT,edS,edX]
    by_cases he:s.2=0
    ·rw[if_neg (by simp[he])];exact Grw.nil _ _
    ·rw[if_pos (by simpa using he)];exact Grw.nil _ _
end
end Go.Proofs.Ytdkidgkiplcggaa.d
end
section
namespace Go.Am
def ob:D→List Nat
 | .raw k _ _ _ _ _=>[k]
 |_=>[]
section
variable{S T:b4}{av:List Nat}{t u:D}{rows rows':List (List D)}{sz sz':Nat}
theorem X8.ob_some(h:X8 S av t rows sz T):∀j∈ob t,T j≠Option.none:=by
 rcases h with ⟨rfl,_⟩|⟨k,acs,_,_,rfl,h3⟩
 ·simp[ob]
 ·simp[ob,h3]
theorem X8.ob_av(h:X8 S av t rows sz T):∀j∈ob t,j ∉ av:=by
 rcases h with ⟨rfl,_⟩|⟨k,acs,_,h1,rfl,_⟩
 ·simp[ob]
 ·simpa [ob]using h1
theorem X8.apart(h:X8 S av t rows sz T){T':b4}{av':List Nat}(e:∀j∈ob t,T' j=T j)(ha:∀j∈ob t,j ∉ av'):X8 S av' t rows sz T':=by
 rcases h with h|⟨k,acs,h0,h1,rfl,h3⟩
 ·exact .inl h
 ·exact .inr ⟨k,acs,h0,ha k (by simp[ob]),rfl,by rw[e k (by simp[ob])];exact h3⟩
theorem b9.grA{E:d6}{Q:D→b4→Prop}{pre post:List D}(h:X8 S av t rows sz T)(hle:S.le T)(hQ:∀T',S.le T'→(∀j,j ∉ ob t→T' j=T j)→b9 E Q (.tup (pre++ .lst rows sz::post)) T'):b9 E Q (.tup (pre++t::post)) T:=by
 rcases h with ⟨rfl,rfl⟩|⟨k,acs,h0,h1,rfl,h3⟩
 ·exact b9.nilT (hQ T hle fun _ _=>rfl)
 ·refine b9.freezeT h3 rfl (by simp) (Nat.le_refl _) ?_
  simpa using hQ (T.erase k) (b4.le_erase hle h0) fun j hj=>b4.erase_ne _ _ (by simpa [ob]using hj)
def GrP(S:b4)(av:List Nat)(t:D)(rows:List (List D))(sz:Nat)(u:D)(rows':List (List D))(sz':Nat)(T:b4):Prop:=
 S.le T∧(∀j∈av,T j≠Option.none)∧X8 S (ob u++av) t rows sz T∧X8 S (ob t++av) u rows' sz' T
theorem GrP.nil:GrP S [] .nilSlc [] sz .nilSlc [] sz' S:=⟨b4.le_refl _,by simp,X8.nil,X8.nil⟩
theorem GrP.swap(h:GrP S av t rows sz u rows' sz' T):GrP S av u rows' sz' t rows sz T:=⟨h.1,h.2.1,h.2.2.2,h.2.2.1⟩
theorem GrP.push(h:GrP S av t rows sz u rows' sz' T){bytes:Nat}{v:D}{news:List (List D)}(hv:rowsS T sz v=some news)(hn:news≠[])(hb:0<bytes∧(2*(rows.length+news.length)+768)*bytes≤2^47){K:D→b4→Prop}
  (hK:∀t' T',(∀j∈av,T' j=T j)→GrP S av t' (rows++news) sz u rows' sz' T'→K t' T'):z7 T sz bytes t v K:=by
 obtain⟨h1,h2,h3,h4⟩:=h
 refine h3.push h1 (fun j hj=> ?_) hv hn hb fun t' T' hle he hg=>hK t' T' (fun j hj=>he j (List.mem_append_right _ hj)) ⟨hle,fun j hj=> ?_,hg, ?_⟩
 ·rcases List.mem_append.1 hj with hj|hj
  ·exact h4.ob_some j hj
  ·exact h2 j hj
 ·rw[he j (List.mem_append_right _ hj)];exact h2 j hj
 ·refine h4.apart (fun j hj=>he j (List.mem_append_left _ hj)) fun j hj hm=> ?_
  rcases List.mem_append.1 hm with hm|hm
  ·exact hg.ob_av j hm (List.mem_append_left _ hj)
  ·exact h4.ob_av j hj (List.mem_append_right _ hm)
theorem GrP.set(h:GrP S av t rows sz u rows' sz' T){l:Nat}{o:s9}(hl:T l=Option.none):GrP S av t rows sz u rows' sz' (T.set l o):=by
 obtain⟨h1,h2,h3,h4⟩:=h
 exact⟨b4.le_set h1 (b4.none_of h1 hl),fun j hj=>(by rw[b4.set_ne _ _ _ (fun e=>h2 j hj (by rw[e];exact hl))];exact h2 j hj),h3.set (.inr hl),h4.set (.inr hl)⟩
theorem GrP.more(h:GrP S av t rows sz u rows' sz' T){l:Nat}{o:s9}(hl:T l=Option.none):GrP S (l::av) t rows sz u rows' sz' (T.set l o):=by
 have hs:=h.set (o:=o) hl
 have n1:∀j∈ob t,j≠l:=fun j hj e=>h.2.2.1.ob_some j hj (e▸hl)
 have n2:∀j∈ob u,j≠l:=fun j hj e=>h.2.2.2.ob_some j hj (e▸hl)
 refine⟨hs.1,fun j hj=> ?_,hs.2.2.1.apart (fun _ _=>rfl) fun j hj hm=> ?_,hs.2.2.2.apart (fun _ _=>rfl) fun j hj hm=> ?_⟩
 ·rcases List.mem_cons.1 hj with rfl|hj
  ·rw[b4.set_same];simp
  ·exact hs.2.1 j hj
 ·rcases List.mem_append.1 hm with hm|hm
  ·exact hs.2.2.1.ob_av j hj (List.mem_append_left _ hm)
  ·rcases List.mem_cons.1 hm with rfl|hm
   ·exact n1 _ hj rfl
   ·exact hs.2.2.1.ob_av j hj (List.mem_append_right _ hm)
 ·rcases List.mem_append.1 hm with hm|hm
  ·exact hs.2.2.2.ob_av j hj (List.mem_append_left _ hm)
  ·rcases List.mem_cons.1 hm with rfl|hm
   ·exact n2 _ hj rfl
   ·exact hs.2.2.2.ob_av j hj (List.mem_append_right _ hm)
theorem GrP.fin{E:d6}{Q:D→b4→Prop}{post:List D}(h:GrP S av t rows sz u rows' sz' T)(hQ:b9 E Q (.tup (.lst rows sz:: .lst rows' sz'::post)) S):b9 E Q (.tup (t::u::post)) T:=by
 obtain⟨h1,h2,h3,h4⟩:=h
 refine b9.grA (pre:=[]) h3 h1 fun T' hle he=> ?_
 have h4':X8 S (ob t++av) u rows' sz' T':=h4.apart (fun j hj=>he j fun hm=>h3.ob_av j hm (List.mem_append_left _ hj)) fun j hj hm=>h4.ob_av j hj hm
 exact b9.grA (pre:=[.lst rows sz]) h4' hle fun T2 hle2 _=>b9.less hle2 hQ
end
end Go.Am
end
section
open Go.Proofs Go Go.Am Go.Op
namespace Go.Proofs.Ytdkidgkiplcggaa.d
section
section
variable{E:d6}{w0:i9}
structure Mo.Small (m:Mo) (N:Nat):Prop where
 types:m.types.length≤N
 texts:m.texts.length≤N
 funcs:m.funcs.length≤N
 fields:∀t∈m.types,t.fields.length≤N
 params:∀r∈m.funcs,r.params.length≤N∧r.results.length≤N∧r.code.length≤N
end
end
section
@[simp] theorem c3C(S:b4)(l:List (Tx×Int)):rowsS S 2 (b7g l)=some (l.map c3g):=by simp[b7g,rowsS,F6]
@[simp] theorem c4K(S:b4)(l:List Tx):rowsS S 1 (c2K l)=some (W6 (l.map D.str)):=by simp[c2K,rowsS,F6]
theorem Grw.cells{S0 S:b4}{t:D}{rows:List (List D)}{sz:Nat}(g:Grw S0 t rows sz S):r6 t=some [t]:=by rcases g with ⟨rfl,_⟩|⟨_,_,_,rfl,_⟩<;>rfl
structure Mo.Fits (m:Mo):Prop where
 ok:m.Ok
 types:m.types.length<2^30
 texts:m.texts.length<2^30
 funcs:m.funcs.length<2^30
 fields:∀t∈m.types,t.fields.length<2^30
 params:∀r∈m.funcs,r.params.length<2^30∧r.results.length<2^30∧r.code.length<2^30
section
variable{E:d6}{w0:i9}
end
end
section
def a0A(P:Program)(E:d6)(w0:i9)(f:FuncId)(ds:List D)(d:D):Prop:=∀S,s4 P E w0 f ds S fun d' S'=>d'=d∧S'=S
theorem a0A.use{P:Program}{E:d6}{w0:i9}{f:FuncId}{ds:List D}{d:D}(h:a0A P E w0 f ds d){S:b4}{K:D→b4→Prop}(hk:K d S):s4 P E w0 f ds S K:=(h S).use fun d' S' ⟨a,b⟩=>by subst a b;exact hk
section
variable{E:d6}{w0:i9}
end
end
section
def a0N(d:Dat):In:=⟨d.1,d.2.1,d.2.2.1,d.2.2.2⟩
theorem b2A(d:Dat):(a0N d).dat=d:=rfl
def R8(l:List In):D:= .lst (l.map inC) 4
def c2P(r:Dat×(Nat×Int)):D:= .tup [inD (a0N r.1), .int .i64 (r.2.1:Int), .int .i64 r.2.2]
def A1(l:List (Dat×Nat)):List In:=l.map fun x=>a0N x.1
def E5(l:List (Dat×Nat)):List Int:=l.map fun x=>(x.2:Int)
def c2s(r:Except Int (List (Dat×Nat))):D:=match r with
 | .ok l=> .tup [R8 (A1 l),iD (E5 l), .int .i64 0]
 | .error e=> .tup [R8 [],iD [], .int .i64 e]
abbrev a6a(bs:List Int):Except Int (List (Dat×Nat)):=a1y bs (bs.length+1) 0
theorem a1a{bs:List Int}{n p:Nat}(hp:p<bs.length):a1y bs (n+1) p=if(y9 bs p).2.2=0 then(match a1y bs n (y9 bs p).2.1 with| .ok l=> .ok (((y9 bs p).1,p)::l)| .error e=> .error e) else .error (y9 bs p).2.2:=by
 rw[a1y,if_neg (by omega)]
 all_goals rfl
theorem c0y{done:List (Dat×Nat)}{x:Dat×Nat}(r:Except Int (List (Dat×Nat))):c0d done (match r with| .ok l=> .ok (x::l)| .error e=> .error e)=c0d (done++[x]) r:=by
 cases r with
 |error e=>rfl
 |ok l=>simp[c0d]
theorem b6B{bs:List Int}(hb:∀b∈bs,I2 b){p:Nat}(h:(y9 bs (p:Int)).2.2=0):(a0N (y9 bs p).1).Ok∧p<(y9 bs p).2.1∧(y9 bs p).2.1≤bs.length:=by
 obtain⟨_,_,h3,_,hsg,hnx⟩:=b5y hb h (b2A _)
 rw[Int.toNat_natCast]at hnx hsg
 have:=b0L (a0N (y9 bs p).1)
 have:=hsg.1
 exact⟨h3,by omega,by omega⟩
section
variable{E:d6}{w0:i9}
theorem b9I{k sz:Nat}{rows:List (List D)}{acs:List AV}:Am.frz k ⟨sz,rows,acs⟩ (.raw k 0 rows.length rows.length false sz)= .lst rows sz:=by
 rw[b8Q (by omega) (Nat.le_refl _),List.drop_zero,List.take_length]
theorem b3f{bs:List Int}(hb:∀b∈bs,I2 b)(hl:bs.length<2^30){n:Int}:a0A Try.prog E w0 a0W [bD bs, .int .i64 n] (c2P (y9 bs n)):=fun S=>
 (b2F hb hl).fin fun v S' ⟨t,ev,g⟩=>by
  subst ev
  rcases g with ⟨rfl,e,rfl⟩|⟨k,acs,h0,rfl,rfl⟩
  ·refine b9.weak (d':=c2P (y9 bs n)) ?_ b9.pure
   refine Wk.tup ⟨Wk.agg ⟨Wk.refl _,Wk.refl _,Wk.refl _, ?_,trivial⟩,Wk.refl _,Wk.refl _,trivial⟩
   have:b1b (a0N (y9 bs n).1).arms= .lst [] 2:=by unfold b1b;rw[show(a0N (y9 bs n).1).arms=(y9 bs n).1.2.2.2 from rfl,e]
   rw[this]
   exact Wk.nil 2
  ·refine b9.frz h0 ?_
   have:Am.frz k ⟨2,(y9 bs n).1.2.2.2.map a0b,acs⟩ (b4A (y9 bs n) (.raw k 0 ((y9 bs n).1.2.2.2.map a0b).length ((y9 bs n).1.2.2.2.map a0b).length false 2))=c2P (y9 bs n):=by
    have e:∀(o:s9) (a b c d e:Int) (tt:D),Am.frz k o (.tup [.agg [.int .u8 a, .int .i64 b, .int .i64 c,tt], .int .i64 d, .int .i64 e])= .tup [.agg [.int .u8 a, .int .i64 b, .int .i64 c,Am.frz k o tt], .int .i64 d, .int .i64 e]:=by
     intros;simp only[Am.frz,Am.W5]
    unfold b4A N9
    rw[e,b9I]
    rfl
   rw[this]
   exact b9.pure
def c3L(S:b4)(r:Except Int (List (Dat×Nat)))(v:D)(T:b4):Prop:=match r with
 | .ok l=>∃t u,v= .tup [t,u, .int .i64 0]∧GrP S [] t ((A1 l).map inC) 4 u (iC (E5 l)) 1 T
 | .error e=>v= .tup [.nilSlc, .nilSlc, .int .i64 e]∧T=S
theorem a9W{bs:List Int}(hb:∀b∈bs,I2 b)(hl:bs.length<2^30){S:b4}:s4 Try.prog E w0 L2 [bD bs] S (c3L S (a6a bs)):=by
 refine b5G ?_
 unfold b3M
 refine b1H (I:=fun n x0 x5 x6 x7 T=>x0=bD bs∧∃(p:Nat) (done:List (Dat×Nat)),x7= .int .i64 (p:Int)∧p≤bs.length∧bs.length<p+n∧done.length≤p∧GrP S [] x5 ((A1 done).map inC) 4 x6 (iC (E5 done)) 1 T∧a6a bs=c0d done (a1y bs n p)) ?_ (n:=bs.length+1)
  ⟨rfl,0,[],rfl,by omega,by omega,by simp,GrP.nil,by unfold a6a;cases a1y bs (bs.length+1) 0<;>rfl⟩
 rintro n _ x5 x6 _ T ⟨rfl,p,done,rfl,hp,hpn,hdl,hg,hrun⟩
 unfold a4W
 rw[a9n,oD,a2X,oD,cdI]
 obtain⟨n,rfl⟩:∃m,n=m+1:=⟨n - 1,by omega⟩
 refine⟨fun hlt=> ?_,fun hge=> ?_⟩
 ·have hlt:p<bs.length:=by omega
  rw[a1a hlt]at hrun
  refine(b3f hb hl).use ?_
  unfold c2P
  simp only[exD,List.getElem?_cons_zero,List.getElem?_cons_succ,oD]
  intro k a nk
  refine(H5.new (sz:=4) (c:=[.int .u8 0, .int .i64 0, .int .i64 0, .nilSlc])).st (ds:=inC (a0N (y9 bs p).1)) (clA _) ⟨rfl,by decide,by decide⟩ fun a'=> ?_
  rw[b4.set_set,show n8 [.int .u8 0, .int .i64 0, .int .i64 0, .nilSlc] 0 (inC (a0N (y9 bs p).1))=inC (a0N (y9 bs p).1) from rfl,b6Z,oD,c2L,cdI]
  have hg2:=hg.set (o:=⟨4,[inC (a0N (y9 bs p).1)],a'⟩) nk
  refine⟨fun he=> ?_,fun he=> ?_⟩
  ·rw[if_neg he]at hrun
   rw[hrun]
   exact b9.less hg2.1 (b9.here ⟨rfl,rfl⟩)
  ·have he:(y9 bs p).2.2=0:=Classical.not_not.1 he
   obtain⟨_,h1,h2⟩:=b6B hb he
   rw[if_pos he,c0y]at hrun
   rw[(H5.new).all (n:=4) (by decide) rfl,oD,show z6 4 (List.replicate 1 [(D.int .u8 0),(.int .i64 0),(.int .i64 0), .nilSlc]) [(0, .agg (inC (a0N (y9 bs p).1)))]=some [inC (a0N (y9 bs p).1)]from rfl]
   refine P7 rfl ?_
   refine hg2.push (news:=[inC (a0N (y9 bs p).1)]) (by simp[rowsS,F6]) (by simp) (by simp[A1];omega) fun t' T' _ hg3=> ?_
   rw[show z6 1 (List.replicate 1 [D.int .i64 0]) [(0, .int .i64 (p:Int))]=some (iC [(p:Int)]) from rfl]
   refine P7 rfl ?_
   refine hg3.swap.push (news:=iC [(p:Int)]) (by simp[rowsS,F6]) (by simp[iC,W6]) (by simp[E5];omega) fun u' T2 _ hg4=> ?_
   refine⟨n,by omega,by trivial,(y9 bs p).2.1,done++[((y9 bs p).1,p)],rfl,h2,by omega,by simp;omega, ?_,hrun⟩
   have e1:(A1 (done++[((y9 bs p).1,p)])).map inC=(A1 done).map inC++[inC (a0N (y9 bs p).1)]:=by simp[A1]
   have e2:iC (E5 (done++[((y9 bs p).1,p)]))=iC (E5 done)++iC [(p:Int)]:=by rw[←Z3];simp[E5]
   rw[e1,e2]
   exact hg4.swap
 ·have e0:a1y bs (n+1) p= .ok []:=by rw[a1y,if_pos (by omega)]
  rw[e0]at hrun
  rw[hrun]
  have:c0d done (.ok [])= .ok done:=by simp[c0d]
  rw[this]
  exact b9.here ⟨_,_,rfl,hg⟩
theorem b2f{bs:List Int}(hb:∀b∈bs,I2 b)(hl:bs.length<2^30):a0A Try.prog E w0 L2 [bD bs] (c2s (a6a bs)):=fun S=>
 (a9W hb hl).fin fun v T h=>by
  cases hr:a6a bs with
  |error e=>
   rw[hr]at h
   obtain⟨rfl,rfl⟩:=h
   exact b9.weak (d':= .tup [R8 [],iD [], .int .i64 e]) (Wk.tup ⟨Wk.nil 4,Wk.nil 1,Wk.refl _,trivial⟩) b9.pure
  |ok l=>
   rw[hr]at h
   obtain⟨t,u,rfl,hg⟩:=h
   exact hg.fin b9.pure
end
theorem b6k{bs:List Int}(hb:∀b∈bs,I2 b):∀(n p:Nat) (l:List (Dat×Nat)),a1y bs n p= .ok l→p≤bs.length→l.length+p≤bs.length∧∀x∈l,(a0N x.1).Ok
 |0,p,l,h,hp=>by cases h;exact⟨by simpa using hp,by simp⟩
 |n+1,p,l,h,hp=>by
  by_cases hlt:p<bs.length
  ·rw[a1a hlt]at h
   split at h
   ·rename_i he
    obtain⟨h1,h2,h3⟩:=b6B hb he
    split at h
    ·rename_i l' e
     cases h
     obtain⟨g1,g2⟩:=b6k hb n _ l' e h3
     refine⟨by simp only[List.length_cons];omega,fun x hx=> ?_⟩
     rcases List.mem_cons.1 hx with rfl|hx
     ·exact h1
     ·exact g2 x hx
    ·cases h
   ·cases h
  ·have e0:a1y bs (n+1) p= .ok []:=by rw[a1y,if_pos (by omega)]
   rw[e0]at h
   cases h
   exact⟨by simpa using hp,by simp⟩
end
end Go.Proofs.Ytdkidgkiplcggaa.d
end
section
open Go.Proofs Go Go.Am
namespace Go.Proofs.Ytdkidgkiplcggaa.d
def a2o:List (Nat×List Nat):=[]
def a2F:List (Nat×List Nat):=[]
def a2y:List (Nat×Arr):=[]
def W2(E:d6)(w0:i9)(Q:D→b4→Prop)(a0 a1:D)(S:b4):Prop:=
 s4 Try.prog E w0 O8 [a0,a1] S fun v0 S1=>
 a8 (d4 .geq v0 (.int .i64 0)) fun v2=>
 Q v2 S1
theorem a1D{E:d6}{w0:i9}{Q:D→b4→Prop}{a0 a1:D}{S:b4}(h:W2 E w0 (b9 E Q) a0 a1 S):s4 Try.prog E w0 V5 [a0,a1] S Q:=
 q8 a2o a2F a2y (fn:=Try.f132) (c:=Try.f132.body.getD .skip) mixed Try.func132 (by kernel_rfl) (by kernel_rfl) h
def L7:List (Nat×List Nat):=[(4,[0,1,7,8])]
def L8:List (Nat×List Nat):=[]
def L4:List (Nat×Arr):=[]
noncomputable def J4:Code:=(i5 [1,0,1,0,0] (Try.f141.body.getD .skip))
def K1(E:d6)(w0:i9)(Q:D→b4→Prop):j6→List D→b4→Prop:=
 (s7 0 (X9 Try.prog E w0 L7 L8 L4 (i5 [1,1] (Try.f141.body.getD .skip)) (P2 Try.prog Try.f141 Q)))
def J9(E:d6)(w0:i9)(N0:D→D→D→D→b4→Prop)(Q:D→b4→Prop)(x0 x1 x7 x8:D)(S:b4):Prop:=
 a8 (d4 .lss x8 x7) fun v1=>
 d9 v1
 (a8 (m9 1 x0 x8) fun v2=>
 a8 (c9 S v2) fun v3=>
 a8 (d4 .eql x1 v3) fun v4=>
 d9 v4
 (Q x8 S)
 (a8 (d4 .add x8 (.int .i64 1)) fun v5=>
 N0 x0 x1 x7 v5 S))
 (Q (.int .i64 (-1)) S)
theorem a1P{E:d6}{w0:i9}{N0:D→D→D→D→b4→Prop}{Q:D→b4→Prop}{x0 x1 x7 x8:D}{S:b4}(h:J9 E w0 N0 Q x0 x1 x7 x8 S):
  d5 Try.prog E w0 J4 (f0 19 [0,1,7,8] [x0,x1,x7,x8]) S (E4 (fun T S=>N0 (T.getD 0 b6) (T.getD 1 b6) (T.getD 7 b6) (T.getD 8 b6) S) (K1 E w0 Q)):=f9 L7 L8 L4 mixed (by kernel_rfl) h
theorem a1Q{E:d6}{w0:i9}{Q:D→b4→Prop}(I:Nat→D→D→D→D→b4→Prop)
  (step:∀n x0 x1 x7 x8 S,I n x0 x1 x7 x8 S→J9 E w0 (fun x0 x1 x7 x8 S=>∃m,m<n∧I m x0 x1 x7 x8 S) Q x0 x1 x7 x8 S)
  {n:Nat} {x0 x1 x7 x8:D} {S:b4} (h:I n x0 x1 x7 x8 S):d5 Try.prog E w0 (.loop J4) (f0 19 [0,1,7,8] [x0,x1,x7,x8]) S (K1 E w0 Q):=
 s6 (k:=19) (n:=n) (I:=fun n T S=>I n (T.getD 0 b6) (T.getD 1 b6) (T.getD 7 b6) (T.getD 8 b6) S) (fun n T S hl hI=>t6 [0,1,7,8] hl (d5.mono (a1P (step n _ _ _ _ S hI)) fun ex T' S' _ hq=>by cases ex<;>exact hq)) (i6 ..) (Eq.mp (by kernel_rfl) h)
def a0v(E:d6)(w0:i9)(Q:D→b4→Prop)(a0 a1:D)(S:b4):Prop:=
 a8 (j9 a0) fun v0=>
 d5 Try.prog E w0 (.loop J4) (f0 19 [0,1,7,8] [a0,a1,v0,(.int .i64 0)]) S (K1 E w0 Q)
theorem a2T{E:d6}{w0:i9}{Q:D→b4→Prop}{a0 a1:D}{S:b4}(h:a0v E w0 (b9 E Q) a0 a1 S):s4 Try.prog E w0 O8 [a0,a1] S Q:=
 q8 L7 L8 L4 (fn:=Try.f141) (c:=Try.f141.body.getD .skip) mixed Try.func141 (by kernel_rfl) (by kernel_rfl) h
end Go.Proofs.Ytdkidgkiplcggaa.d
end
section
open Go.Proofs Go Go.Am Go.Op
namespace Go.Proofs.Ytdkidgkiplcggaa.d
section
def Own(S0:b4)(d:D)(l:List Int)(S:b4):Prop:=
 (d= .nilSlc∧l=[]∧S=S0)∨∃k acs ex,S0 k=Option.none∧d= .raw k 0 l.length l.length ex 1∧S=S0.set k ⟨1,iC l,acs⟩
theorem Own.le{S0 S:b4}{d:D}{l:List Int}(h:Own S0 d l S):S0.le S:=by
 rcases h with ⟨_,_,rfl⟩|⟨k,acs,ex,h,_,rfl⟩
 ·exact b4.le_refl _
 ·exact b4.le_new h
theorem Own.nil(S:b4):Own S .nilSlc [] S:= .inl ⟨rfl,rfl,rfl⟩
theorem Own.cells{S0 S:b4}{d:D}{l:List Int}(h:Own S0 d l S):r6 d=some [d]:=by rcases h with ⟨rfl,_⟩|⟨_,_,_,_,rfl,_⟩<;>rfl
theorem Own.base{S0 S1 S:b4}{d:D}{l:List Int}(h:Own S1 d l S)(hle:S0.le S1):∃S',S'.le S∧Own S0 d l S':=by
 rcases h with ⟨rfl,rfl,rfl⟩|⟨k,acs,ex,h,rfl,rfl⟩
 ·exact⟨S0,hle, .inl ⟨rfl,rfl,rfl⟩⟩
 ·have hk:S0 k=Option.none:=by
   cases e:S0 k with
   |none=>rfl
   |some o=>rw[hle _ _ e]at h;cases h
  refine⟨S0.set k ⟨1,iC l,acs⟩,fun j o e=> ?_, .inr ⟨k,acs,ex,hk,rfl,rfl⟩⟩
  unfold b4.set at e ⊢
  split at e
  ·rename_i hj;rw[if_pos hj];exact e
  ·rename_i hj;rw[if_neg hj];exact hle _ _ e
theorem Own.upd{S0 S:b4}{d:D}{l:List Int}{k:Nat}{o o':s9}(h:Own S0 d l S)(hk:S0 k=some o'):Own (S0.set k o) d l (S.set k o):=by
 rcases h with ⟨rfl,rfl,rfl⟩|⟨j,acs,ex,h,rfl,rfl⟩
 ·exact .inl ⟨rfl,rfl,rfl⟩
 ·have hne:j≠k:=fun e=>by rw[e,hk]at h;cases h
  refine .inr ⟨j,acs,ex, ?_,rfl,b4.set_comm _ hne _ _⟩
  rw[b4.set_ne _ _ _ hne];exact h
def Two(S0:b4)(c:D)(lc:List Int)(d:D)(ld:List Int)(S:b4):Prop:=∃S1,Own S0 c lc S1∧Own S1 d ld S
theorem Two.base{S0 S1 S:b4}{c d:D}{lc ld:List Int}(h:Two S1 c lc d ld S)(hle:S0.le S1):∃S',S'.le S∧Two S0 c lc d ld S':=by
 obtain⟨S2,h1,h2⟩:=h
 obtain⟨S2',l2,g1⟩:=h1.base hle
 obtain⟨S',l3,g2⟩:=h2.base l2
 exact⟨S',l3,S2',g1,g2⟩
theorem Two.upd{S0 S:b4}{c d:D}{lc ld:List Int}{k:Nat}{o o':s9}(h:Two S0 c lc d ld S)(hk:S0 k=some o'):Two (S0.set k o) c lc d ld (S.set k o):=by
 obtain⟨S2,h1,h2⟩:=h
 exact⟨S2.set k o,h1.upd hk,h2.upd (h1.le _ _ hk)⟩
theorem Two.le{S0 S:b4}{c d:D}{lc ld:List Int}(h:Two S0 c lc d ld S):S0.le S:=by
 obtain⟨S2,h1,h2⟩:=h
 exact b4.le_trans h1.le h2.le
theorem b9c{S:b4}{l:List Int}{K:D→b4→Prop}(h:∀d S',Own S d l S'→K d S'):K5 S 1 (some (iC l)) l.length K:=
 c2N fun k acs hk=>h _ _ (.inr ⟨k,acs,true,hk,by simp,rfl⟩)
section
variable{E:d6}{w0:i9}
theorem b6K{l:List Int}{v:Int}(hl:l.length<2^60):a0A Try.prog E w0 V5 [bD l, .int .u8 v] (.bool (l.contains v)):=fun S=>by
 refine a1D ?_
 unfold W2
 have key:s4 Try.prog E w0 O8 [bD l, .int .u8 v] S fun d S'=>S'=S∧∃n:Int,d= .int .i64 n∧decide (n≥0)=l.contains v:=by
  refine a2T ?_
  unfold a0v
  rw[a9n,oD]
  refine a1Q (I:=fun n x0 x1 x7 x8 S'=>S=S'∧x0=bD l∧x1= .int .u8 v∧x7= .int .i64 (l.length:Int)∧∃i:Nat,x8= .int .i64 (i:Int)∧i+n=l.length∧v ∉ l.take i) ?_ (n:=l.length) ⟨rfl,rfl,rfl,rfl,0,rfl,by omega,by simp⟩
  rintro n _ _ _ _ _ ⟨rfl,rfl,rfl,rfl,i,rfl,hi,hn⟩
  unfold J9
  rw[a2X,oD,cdI]
  refine⟨fun hlt=> ?_,fun hge=> ?_⟩
  ·have hlt:i<l.length:=by omega
   have ea:l[i]? =some l[i]:=List.getElem?_eq_getElem hlt
   rw[c1L ea,oD,lsE,List.getElem?_cons_zero,oD,a2B,oD,c4U,cdI]
   refine⟨fun e=>b9.here ⟨rfl,i,rfl, ?_⟩,fun e=> ?_⟩
   ·rw[decide_eq_true (by omega)]
    symm
    rw[List.contains_iff_mem,e]
    exact List.getElem_mem _
   ·rw[K9,oD,g9 (by omega) (by omega)]
    refine⟨n - 1,by omega,rfl,rfl,rfl,rfl,i+1,rfl,by omega, ?_⟩
    rw[List.take_add_one,ea,Option.toList_some,List.mem_append,List.mem_singleton]
    exact fun h=>h.elim hn e
  ·rw[List.take_of_length_le (by omega)]at hn
   refine b9.here ⟨rfl, -1,rfl, ?_⟩
   rw[decide_eq_false (by omega)]
   symm
   rw[←Bool.not_eq_true,List.contains_iff_mem]
   exact hn
 refine key.use ?_
 rintro d S' ⟨rfl,n,rfl,h⟩
 rw[c0f,oD,h]
 exact b9.pure
end
end
section
theorem c4k(y:In):(inC y)[0]? =some (.int .u8 y.op)∧(inC y)[1]? =some (.int .i64 y.a)∧(inC y)[2]? =some (.int .i64 y.b)∧(inC y)[3]? =some (b1b y.arms):=⟨rfl,rfl,rfl,rfl⟩
section
variable{E:d6}{w0:i9}
end
end
section
theorem Own.swap{S0 S1 S:b4}{t u:D}{r q:List Int}(h:Own S0 t r S1)(h':Own S1 u q S):∃S2,Own S0 u q S2∧Own S2 t r S:=by
 rcases h with ⟨rfl,rfl,rfl⟩|⟨k,acs,ex,hk,rfl,rfl⟩
 ·exact⟨S,h', .inl ⟨rfl,rfl,rfl⟩⟩
 ·rcases h' with ⟨rfl,rfl,rfl⟩|⟨l,bcs,ex',hl,rfl,rfl⟩
  ·exact⟨S0, .inl ⟨rfl,rfl,rfl⟩, .inr ⟨k,acs,ex,hk,rfl,rfl⟩⟩
  ·obtain⟨hne,hl0⟩:=b4.fresh hl
   refine⟨S0.set l ⟨1,iC q,bcs⟩, .inr ⟨l,bcs,ex',hl0,rfl,rfl⟩, .inr ⟨k,acs,ex, ?_,rfl, ?_⟩⟩
   ·rw[b4.set_ne _ _ _ (Ne.symm hne)];exact hk
   ·exact b4.set_comm _ (Ne.symm hne) _ _
section
variable{E:d6}{w0:i9}{S S3:b4}{k2:Nat}{cs:List D}{a2:List AV}
variable(hle:S.le S3)(hn:S k2=none)(h2:S3 k2=some ⟨3,[cs],a2⟩)(hcs:cs.length=3)
include hle hn h2 hcs
end
section
variable{E:d6}{w0:i9}{S S3:b4}{k k2:Nat}{a a2:List AV}{y:In}
variable(hle:S.le S3)(hn:S k2=none)(h0:S3 k=some ⟨4,[inC y],a⟩)(h2:S3 k2=some ⟨3,[[.nilSlc, .nilSlc, .bool false]],a2⟩)
include hle hn h2
end
section
variable{E:d6}{w0:i9}
end
end
section
section
variable{E:d6}{w0:i9}
theorem b2R{l:List In}{i:Nat}{y:In}(h:l[i]? =some y):m9 4 (R8 l) (.int .i64 (i:Int))=some (.elt (inC y) 0):=b4E (by rw[List.getElem?_map,h];rfl)
end
end
section
def GrZ(S0:b4)(t:D)(rows:List (List D))(sz:Nat)(S:b4):Prop:=Grw S0 t rows sz S∨(rows=[]∧∃k cap ex zr acs,S0 k=none∧t= .raw k 0 0 cap ex sz∧S=S0.set k ⟨sz,zr,acs⟩)
section
variable{S0 S:b4}{t:D}{rows:List (List D)}{sz:Nat}
theorem GrZ.push(h:GrZ S0 t rows sz S){bytes:Nat}{v:D}{news:List (List D)}(hv:rowsS S sz v=some news)(hn:news≠[])(hb:0<bytes∧(2*(rows.length+news.length)+768)*bytes≤2^47){K:D→b4→Prop}(hK:∀t' S',Grw S0 t' (rows++news) sz S'→K t' S'):z7 S sz bytes t v K:=by
 rcases h with h|⟨rfl,k,cap,ex,zr,acs,h0,rfl,rfl⟩
 ·exact h.push hv hb hK
 ·simp only[z7,hv,U7]
  rw[if_neg hn,b4.set_same]
  simp only
  rw[if_pos ⟨by trivial,by trivial,by omega⟩]
  refine⟨by simpa using hb, .inr fun k' acs' hk'=> ?_⟩
  rw[b4.erase_set _ _ _ h0]at hk' ⊢
  refine hK _ _ (.inr ⟨k',acs',hk', ?_, ?_⟩)<;>simp
theorem GrZ.last(h:GrZ S0 t rows sz S){bytes:Nat}{v:D}{news:List (List D)}(hv:rowsS S sz v=some news)(hn:news≠[])(hb:0<bytes∧(2*(rows.length+news.length)+768)*bytes≤2^47){K:D→b4→Prop}(hK:K (.lst (rows++news) sz) S0):z7 S sz bytes t v K:=by
 rcases h with h|⟨rfl,k,cap,ex,zr,acs,h0,rfl,rfl⟩
 ·exact h.last hv hn hb hK
 ·simp only[z7,hv,U7]
  rw[if_neg hn,b4.set_same]
  simp only
  rw[if_pos ⟨by trivial,by trivial,by omega⟩]
  refine⟨by simpa using hb, .inl ?_⟩
  rw[b4.erase_set _ _ _ h0,List.take_of_length_le (by simp)]
  simpa using hK
end
section
variable{E:d6}{w0:i9}
end
end
section
def bytesOf(s:Tx):List Int:=s.map fun b=>(b.toNat:Int)
def WOk(L I:List Int):Prop:=(I.length≤2097153∧L=I)∨(2097153<I.length∧L.length=2097153)
theorem WOk.len{L I:List Int}(h:WOk L I):L.length≤2097153:=by
 rcases h with ⟨h,rfl⟩|⟨_,h⟩<;>omega
def WAt(S:b4)(kw:Nat)(av:List Nat)(I:List Int)(T:b4):Prop:=S.le T∧S kw=none∧kw ∉ av∧(∀j∈av,T j≠none)∧∃(L:List Int) (t:D),WOk L I∧H5 T kw 1 [t]∧X8 S (kw::av) t (W6 (L.map (D.int .u8))) 1 T
section
variable{E:d6}{w0:i9}{S T:b4}{kw:Nat}{av:List Nat}{I:List Int}
theorem WAt.more(h:WAt S kw av I T){l:Nat}{o:s9}(hl:T l=none):WAt S kw (l::av) I (T.set l o):=by
 obtain⟨h1,h2,h3,h4,L,t,h5,h6,h7⟩:=h
 have ne:kw≠l:=h6.none hl
 have nt:∀j∈ob t,j≠l:=fun j hj e=>h7.ob_some j hj (by rw[e];exact hl)
 refine⟨b4.le_set h1 (b4.none_of h1 hl),h2,fun hm=> ?_,fun j hj=> ?_,L,t,h5,h6.set hl,h7.apart (fun j hj=>b4.set_ne _ _ _ (nt j hj)) fun j hj hm=> ?_⟩
 ·rcases List.mem_cons.1 hm with e|hm
  ·exact ne e
  ·exact h3 hm
 ·rcases List.mem_cons.1 hj with rfl|hj
  ·rw[b4.set_same];simp
  ·rw[b4.set_ne _ _ _ fun e=>h4 j hj (by rw[e];exact hl)];exact h4 j hj
 ·have:=h7.ob_av j hj
  rcases List.mem_cons.1 hm with e|hm
  ·exact this (by simp[e])
  ·rcases List.mem_cons.1 hm with e|hm
   ·exact nt j hj e
   ·exact this (by simp[hm])
theorem WAt.upd(h:WAt S kw av I T){l:Nat}{o:s9}(hl:l∈av)(hS:S l=none):WAt S kw av I (T.set l o):=by
 obtain⟨h1,h2,h3,h4,L,t,h5,h6,h7⟩:=h
 have ne:kw≠l:=fun e=>h3 (by rw[e];exact hl)
 refine⟨b4.le_set h1 hS,h2,h3,fun j hj=> ?_,L,t,h5,h6.set_ne ne,h7.set (.inl (by simp[hl]))⟩
 by_cases e:j=l
 ·subst e;rw[b4.set_same];simp
 ·rw[b4.set_ne _ _ _ e];exact h4 j hj
theorem WAt.less(h:WAt S kw av I T){av':List Nat}(ha:∀j∈av',j∈av):WAt S kw av' I T:=by
 obtain⟨h1,h2,h3,h4,L,t,h5,h6,h7⟩:=h
 refine⟨h1,h2,fun hm=>h3 (ha _ hm),fun j hj=>h4 j (ha j hj),L,t,h5,h6,h7.apart (fun _ _=>rfl) fun j hj hm=> ?_⟩
 have:=h7.ob_av j hj
 rcases List.mem_cons.1 hm with e|hm
 ·exact this (by simp[e])
 ·exact this (by simp[ha j hm])
end
end
end Go.Proofs.Ytdkidgkiplcggaa.d
end
