/-
  BlocksCutsSaid: part Pbf of its proof.
-/
import Derived.Test.YtdkidgkiplcggaaPbe
import Derived.Test.YtdkidgkiplcggaaPbc
import Derived.Test.YtdkidgkiplcggaaRows
import Derived.Test.YtdkidgkiplcggaaPar
import Derived.KernelRfl
import Derived.Test.YtdkidgkiplcggaaPaw
import Derived.Test.YtdkidgkiplcggaaPbd
import Derived.Test.YtdkidgkiplcggaaPax
import Derived.Test.YtdkidgkiplcggaaPau
import Derived.Test.YtdkidgkiplcggaaPal
import Derived.ChangeSlices
import Derived.Carry
set_option linter.unusedVariables false
set_option linter.unusedSimpArgs false
set_option maxRecDepth 100000
section
open Go.Proofs Go Go.Am Go.Op
namespace Go.Proofs.Ytdkidgkiplcggaa.d
section
set_option linter.unusedSectionVars false
theorem b9n{ys:List In}(harm:∀y∈ys,y.arms.length≤65535){ext out:List Int}{i:Nat}(hyl:ys.length<2^20)(hi:i≤ys.length)(hr:out.Pairwise (· < ·))(h:∀q∈out,q∈l7 ys ext i):out.length<2^39:=by
 have h1:=a5E (l1:=out) (hr.imp fun h e=>by omega) h
 have h2:=a4m harm ext i
 omega
section
variable{E:g8}{w0:j0}
theorem b6L{ys:List In}{pls:List Int}{size:Int}(hpl:pls.length=ys.length)(hyl:ys.length<2^20)(harm:∀y∈ys,y.arms.length≤65535):U2 Try.prog E w0 a2a [H6 ys,iD pls, .int .i64 size] (iD (X8 (l7 ys (pls++[size]) ys.length))):=fun S=>by
 refine b3k ?_
 unfold a9r
 refine a8O fun d T hT=> ?_
 have hs0:Sl S [] d [0] T:=c0m hT (b5.le_refl S) (by simp)
 have hext:∀j,j<ys.length→pls[j]? =some ((pls++[size]).getD j 0):=fun j hj=>by
  rw[List.getD_eq_getElem?_getD,List.getElem?_append_left (by omega),List.getElem?_eq_getElem (by omega)];rfl
 have hsz:(pls++[size]).getD ys.length 0=size:=by
  rw[List.getD_eq_getElem?_getD,List.getElem?_append_right (by omega),hpl,Nat.sub_self];rfl
 generalize hext0:pls++[size]=ext at*
 refine b0n (I:=fun m x0 x1 x2 x7 x8 T=>x0=H6 ys∧x1=iD pls∧x2= .int .i64 size∧∃(i:Nat) (out:List Int),x8= .int .i64 (i:Int)∧i+m=ys.length∧Sl S [] x7 out T∧S.le T∧out.Pairwise (· < ·)∧∀q,q∈out↔q∈l7 ys ext i) ?_ (n:=ys.length)
  ⟨rfl,rfl,rfl,0,[0],rfl,by omega,hs0,hT.le,List.pairwise_singleton _ _,fun q=>by simp[l7]⟩
 rintro m _ _ _ x7 _ T2 ⟨rfl,rfl,rfl,i,out,rfl,hi,hs,hle,hr,hq⟩
 unfold a2s
 rw[a8K,oD,M7,oD,V7]
 refine⟨fun hlt=> ?_,fun hge=> ?_⟩
 ·have hlt':i<ys.length:=by omega
  have hy:ys[i]? =some ys[i]:=List.getElem?_eq_getElem hlt'
  have hmem:ys[i]∈ys:=List.getElem_mem hlt'
  generalize ys[i]=y at hy hmem
  have next:∀ {x7':D} {out':List Int} {T':b5},Sl S [] x7' out' T'→S.le T'→out'.Pairwise (· < ·)→(∀q,q∈out'↔q∈l7 ys ext (i+1))→a0F E w0 (fun x0 x1 x2 x7 x8 T=>∃m',m'<m∧(x0=H6 ys∧x1=iD pls∧x2= .int .i64 size∧∃(i:Nat) (out:List Int),x8= .int .i64 (i:Int)∧i+m'=ys.length∧Sl S [] x7 out T∧S.le T∧out.Pairwise (· < ·)∧∀q,q∈out↔q∈l7 ys ext i))
    (b9 E fun d' S'=>d'=iD (X8 (l7 ys ext ys.length))∧S'=S) (H6 ys) (iD pls) (.int .i64 size) x7' (.int .i64 (i:Int)) T':=fun h1 h2 h3 h4=>by
   refine b0f ?_
   unfold a6W
   rw[C4,oD,i6 (by omega) (by omega)]
   exact⟨m - 1,by omega,rfl,rfl,rfl,i+1,_,by simp,by omega,h1,h2,h3,h4⟩
  have hhd:b1x ys ext i=if a0l y then p4 y (ext.getD (i+1) 0)++(if i+1<ys.length then[ext.getD (i+1) 0]else[]) else[]:=by unfold b1x;rw[hy]
  rw[a5n hy,oD,ofE,oD,lsE,show(N7 y)[0+0]? =some (.int .u8 y.op) from rfl,oD]
  refine(show p8 Try.prog E w0 a2J [.int .u8 y.op] _ _ from b7V.use ?_)
  rw[unN,oD]
  cases he:a0l y with
  |false=>
   rw[Bool.not_false,cdT]
   refine next hs hle hr fun q=> ?_
   rw[hq,H7,hhd,he]
   simp
  |true=>
   rw[Bool.not_true,cdF]
   have c20:∀ {x7':D} {out':List Int} {T':b5},Sl S [] x7' out' T'→S.le T'→out'.Pairwise (· < ·)→(∀q,q∈out'↔q∈l7 ys ext i∨(i+1<ys.length∧q=ext.getD (i+1) 0))→Y5 E w0 (fun x0 x1 x2 x7 x8 T=>∃m',m'<m∧(x0=H6 ys∧x1=iD pls∧x2= .int .i64 size∧∃(i:Nat) (out:List Int),x8= .int .i64 (i:Int)∧i+m'=ys.length∧Sl S [] x7 out T∧S.le T∧out.Pairwise (· < ·)∧∀q,q∈out↔q∈l7 ys ext i))
     (b9 E fun d' S'=>d'=iD (X8 (l7 ys ext ys.length))∧S'=S) (H6 ys) (iD pls) (.int .i64 size) x7' (.int .i64 (i:Int)) (.int .i64 (ext.getD (i+1) 0)) T':=fun{x7' out' T'} h1 h2 h3 h4=>by
    refine a9k ?_
    unfold a5D
    rw[a5n hy,oD,laE,if_pos ⟨by decide,by simp[N7]⟩,oD]
    refine(show p8 Try.prog E w0 R6 [inD y, .int .i64 (ext.getD (i+1) 0)] _ _ from(a7x (harm y hmem)).use ?_)
    have hto:∀q∈p4 y (ext.getD (i+1) 0),q∈l7 ys ext (i+1):=fun q hq=>by
     rw[H7,hhd,he,if_pos rfl]
     exact List.mem_append.2 (.inr (List.mem_append.2 (.inl hq)))
    have hsub:∀q∈l7 ys ext i,q∈l7 ys ext (i+1):=fun q hq=>by rw[H7];exact List.mem_append.2 (.inl hq)
    have hnx:i+1<ys.length→ext.getD (i+1) 0∈l7 ys ext (i+1):=fun h=>by
     rw[H7,hhd,he,if_pos rfl,if_pos h]
     simp
    have hlen:=a8S (harm y hmem) (ext.getD (i+1) 0)
    generalize hto0:p4 y (ext.getD (i+1) 0)=to at hto hlen
    refine b0E (I:=fun m' x0 x1 x2 x7 x8 x10 x11 T=>x0=H6 ys∧x1=iD pls∧x2= .int .i64 size∧x8= .int .i64 (i:Int)∧x10=iD to∧∃(k:Nat) (out2:List Int),x11= .int .i64 (k:Int)∧k+m'=to.length∧Sl S [] x7 out2 T∧S.le T∧out2.Pairwise (· < ·)∧∀q,q∈out2↔q∈out'∨q∈to.take k) ?_ (n:=to.length)
     ⟨rfl,rfl,rfl,rfl,rfl,0,out',rfl,by omega,h1,h2,h3,by simp⟩
    rintro m' _ _ _ x7'' _ _ _ T3 ⟨rfl,rfl,rfl,rfl,rfl,k,out2,rfl,hk,g1,g2,g3,g4⟩
    unfold a2D
    rw[a1I,oD,M7,oD,V7]
    refine⟨fun hlt2=> ?_,fun hge2=> ?_⟩
    ·have et:to[k]? =some to[k]:=List.getElem?_eq_getElem (by omega)
     generalize to[k]=t at et
     have hin:∀q∈out2,q∈l7 ys ext (i+1):=fun q hq=>by
      rcases(g4 q).1 hq with hq|hq
      ·rcases(h4 q).1 hq with hq|⟨h,hq⟩
       ·exact hsub q hq
       ·rw[hq];exact hnx h
      ·exact hto q (List.mem_of_mem_take hq)
     rw[a0y et,oD,lsE,List.getElem?_cons_zero,oD]
     refine R5 g1 g2 (by simp) g3 (b9n harm hyl (show i+1≤ys.length by omega) g3 hin) fun d4 T4 l4 _ hs4=> ?_
     rw[C4,oD,i6 (by omega) (by omega)]
     refine⟨m' - 1,by omega,by trivial,by trivial,by trivial,by trivial,by trivial,k+1,_,by simp,by omega,hs4,l4,L7 _ _ g3,fun q=> ?_⟩
     rw[a0r,g4,List.take_add_one,et]
     simp only[Option.toList,List.mem_append,List.mem_singleton]
     constructor
     ·rintro(h|h|h)
      ·exact .inr (.inr h)
      ·exact .inl h
      ·exact .inr (.inl h)
     ·rintro(h|h|h)
      ·exact .inr (.inl h)
      ·exact .inr (.inr h)
      ·exact .inl h
    ·rw[List.take_of_length_le (by omega)]at g4
     refine next g1 g2 g3 fun q=> ?_
     rw[g4,h4,H7,hhd,he,if_pos rfl,hto0,List.mem_append,List.mem_append]
     by_cases hl:i+1<ys.length
     ·rw[if_pos hl,List.mem_singleton]
      constructor
      ·rintro((h|⟨_,h⟩)|h)
       ·exact .inl h
       ·exact .inr (.inr h)
       ·exact .inr (.inl h)
      ·rintro(h|h|h)
       ·exact .inl (.inl h)
       ·exact .inr h
       ·exact .inl (.inr ⟨hl,h⟩)
     ·rw[if_neg hl]
      constructor
      ·rintro((h|⟨h,_⟩)|h)
       ·exact .inl h
       ·exact absurd h hl
       ·exact .inr (.inl h)
      ·rintro(h|h|h)
       ·exact .inl (.inl h)
       ·exact .inr h
       ·cases h
   have hi1:IntKind.i64.wrap ((i:Int)+1)=((i+1:Nat):Int):=by rw[i6 (by omega) (by omega)];simp
   rw[C4,oD,hi1,oD,M7,oD,V7]
   refine⟨fun h1=> ?_,fun h1=> ?_⟩
   ·have h1':i+1<ys.length:=by omega
    rw[oD,a0y (hext (i+1) h1'),oD,lsE,List.getElem?_cons_zero,oD]
    refine R5 hs hle (by simp) hr (b9n harm hyl (show i≤ys.length by omega) hr fun q h=>(hq q).1 h) fun d4 T4 l4 _ hs4=> ?_
    refine c20 hs4 l4 (L7 _ _ hr) fun q=> ?_
    rw[a0r,hq]
    constructor
    ·rintro(h|h)
     ·exact .inr ⟨h1',h⟩
     ·exact .inl h
    ·rintro(h|⟨_,h⟩)
     ·exact .inr h
     ·exact .inl h
   ·have h1':i+1=ys.length:=by omega
    have:=c20 hs hle hr fun q=>by
     rw[hq]
     exact⟨.inl,fun h=>h.elim id fun h=>absurd h.1 (by omega)⟩
    rw[h1',hsz]at this
    exact this
 ·have hin:i=ys.length:=by omega
  subst hin
  refine hs.fin hle (b9.here ⟨?_,rfl⟩)
  congr 1
  exact O1 hr (D4 _).1 fun q=>by rw[(D4 _).2,hq]
end
theorem c1S{ys:List In}{tops:List Int}(hr:tops.Pairwise (· < ·))(ht:∀q∈tops,∃k,k<ys.length∧q=V9 ys k)(h0:tops.head? =some (V9 ys 0)){i:Nat}(hi:i<ys.length):(L3 ys tops i).1.head? =some (V9 ys i)↔V9 ys i∈tops:=by
 obtain⟨cuts,c1,_,c3⟩:=b0R h0 i (by omega)
 constructor
 ·intro h
  rw[c3]
  exact List.mem_append.2 (.inr (List.mem_of_head? h))
 ·intro h
  have h':V9 ys i∈(L3 ys tops i).1:=by
   rw[c3]at h
   rcases List.mem_append.1 h with h|h
   ·obtain⟨c,hc,e⟩:=List.mem_map.1 h
    have:=(c0D c1).2 c hc
    have:=c7Q (by omega) (by omega) e
    omega
   ·exact h
  have hr':(L3 ys tops i).1.Pairwise (· < ·):=by rw[c3]at hr;exact(List.pairwise_append.1 hr).2.1
  have hsub:∀q∈(L3 ys tops i).1,q∈tops:=fun q hq=>by rw[c3];exact List.mem_append.2 (.inr hq)
  have hno:=b2P hr ht h0 i (by omega)
  cases hl:(L3 ys tops i).1 with
  |nil=>rw[hl]at h';cases h'
  |cons a l=>
   rw[hl]at h' hr' hsub hno
   rcases List.mem_cons.1 h' with e|h2
   ·rw[e];rfl
   ·obtain⟨k,hk,rfl⟩:=ht a (hsub a List.mem_cons_self)
    have h1:=(List.pairwise_cons.1 hr').1 _ h2
    have hki:k<i:=by
     rcases Nat.lt_trichotomy k i with hl|hl|hl
     ·exact hl
     ·subst hl;omega
     ·have:=b6l hl (Nat.le_of_lt hk);omega
    exact absurd List.mem_cons_self (hno k hki)
theorem b8Z{ys:List In}{tops:List Int}(hr:tops.Pairwise (· < ·))(h0:tops.head? =some (V9 ys 0)):(L3 ys tops ys.length).1=[]↔ ∀q∈tops,∃k,k<ys.length∧q=V9 ys k:=by
 obtain⟨cuts,c1,_,c3⟩:=b0R h0 ys.length (Nat.le_refl _)
 constructor
 ·intro h q hq
  rw[c3,h,List.append_nil]at hq
  obtain⟨c,hc,rfl⟩:=List.mem_map.1 hq
  have:=(c0D c1).2 c hc
  exact⟨c.1,by omega,rfl⟩
 ·intro ht
  refine List.eq_nil_iff_forall_not_mem.2 fun q hq=> ?_
  obtain⟨k,hk,rfl⟩:=ht q (by rw[c3];exact List.mem_append.2 (.inr hq))
  exact b2P hr ht h0 ys.length (Nat.le_refl _) k hk hq
theorem c2H{ys:List In}{tops:List Int}(h0:tops.head? =some (V9 ys 0)){n:Nat}(hn:0<n)(hl:n≤ys.length):(L3 ys tops n).2≠[]:=by
 obtain⟨cuts,c1,c2,_⟩:=b0R h0 n hl
 rw[c2]
 intro e
 have:cuts=[]:=List.map_eq_nil_iff.1 e
 rw[this]at c1
 have:0=n:=c1
 omega
theorem c2j{ys:List In}{tops:List Int}:∀n,(L3 ys tops n).2.length≤n
 |0=>Nat.le_refl _
 |n+1=>by
  have ih:=c2j (ys:=ys) (tops:=tops) n
  unfold L3
  split
  ·split
   ·simp;omega
   ·unfold a0D
    split
    ·rename_i b hb
     have:(L3 ys tops n).2≠[]:=fun e=>by rw[e]at hb;cases hb
     have:=List.length_pos_iff.2 this
     simp;omega
    ·simp
  ·omega
theorem c5N(n:Int)(tops:List Int):Z9 n (tops,[])=([],190):=by unfold Z9;cases tops<;>rfl
theorem b9g{code:List Int}(hb:∀b∈code,J0 b):(∃e,a5v code= .error e∧e≠0)∨∃ys,code=C3 ys∧(∀y∈ys,isS y=true)∧∃L,a5v code= .ok L∧t8 L=ys∧C5 L=P4 0 ys:=by
 cases h:a5v code with
 |error e=>exact .inl ⟨e,rfl,b6w _ _ _ h⟩
 |ok L=>
  obtain⟨h1,h2,h3⟩:=c8m hb h
  exact .inr ⟨t8 L,h1,h3,L,rfl,rfl,h2⟩
theorem c2i{y:In}(h:isS y=true):y.arms.length≤65535:=by
 obtain⟨_,_,_,h49,hn⟩:=b2Z h
 by_cases h:y.op=49
 ·exact(h49 h).1
 ·rw[(hn h).1];simp
section
variable{E:g8}{w0:j0}
theorem c2E{code:List Int}(hb:∀b∈code,J0 b)(hl:code.length<2^20):U2 Try.prog E w0 a6m [bD code] (ofD (z6 code)):=fun S=>by
 refine b8l ?_
 unfold b7b
 refine(show p8 Try.prog E w0 a4l [bD code] S _ from(c0L hb (by omega)).use ?_)
 have bad:∀ {e:Int} {T:b5},S.le T→z6 code=([],e)→b9 E (fun d' S'=>d'=ofD (z6 code)∧S'=S) (.tup [.nilSlc, .int .i64 e]) T:=fun hle h=>by
  rw[h]
  exact b9.less hle (b9.weak (d':=ofD ([],_)) (Wk.tup ⟨Wk.nil 3,Wk.refl _,trivial⟩) (b9.here ⟨rfl,rfl⟩))
 rcases b9g hb with ⟨e,h,he⟩|⟨ys,rfl,hs,L,h,hys,hpl⟩
 ·rw[h]
  simp only[c7u,exD,List.getElem?_cons_zero,List.getElem?_cons_succ,oD,b6V]
  rw[decide_eq_true he,cdT]
  exact bad (b5.le_refl S) (by unfold z6;rw[h])
 ·have hof:=a6o h
  rw[hys,hpl]at hof
  rw[h]
  simp only[c7u,exD,List.getElem?_cons_zero,List.getElem?_cons_succ,oD,b6V,show decide ((0:Int)≠0)=false from rfl,cdF,hys,hpl]
  have lb:j9 (bD (C3 ys))=some (.int .i64 (C3 ys).length):=by simp[bD,J5]
  have hyl:=a8U ys
  have harm:∀y∈ys,y.arms.length≤65535:=fun y hy=>c2i (hs y hy)
  rw[a8K,oD,O7,oD,V7]
  refine⟨fun h0=> ?_,fun h0=> ?_⟩
  ·have h0:ys=[]:=List.length_eq_zero_iff.1 (by omega)
   refine bad (b5.le_refl S) ?_
   rw[hof,h0]
   exact c5N _ _
  have hne:ys≠[]:=fun e=>h0 (by rw[e];rfl)
  have hpos:0<ys.length:=List.length_pos_iff.2 hne
  rw[lb,oD]
  refine(show p8 Try.prog E w0 a2a [H6 ys,iD (P4 0 ys), .int .i64 (C3 ys).length] S _ from(b6L (a2d ys 0) (by omega) harm).use ?_)
  rw[c0h _ (Nat.le_refl _)]at hof
  have htl:=c4K (l7 ys (P4 0 ys++[((C3 ys).length:Int)]) ys.length)
  have hhl:=a4m harm (P4 0 ys++[((C3 ys).length:Int)]) ys.length
  have hr:=(D4 (l7 ys (P4 0 ys++[((C3 ys).length:Int)]) ys.length)).1
  have h00:(X8 (l7 ys (P4 0 ys++[((C3 ys).length:Int)]) ys.length)).head? =some (V9 ys 0):=by
   rw[c6Y]
   refine b8K (by simp[l7]) (a7v hs (fun q hq=> ?_) _)
   rcases List.mem_append.1 hq with hq|hq
   ·obtain⟨i,hi⟩:=List.getElem?_of_mem hq
    have hil:=(List.getElem?_eq_some_iff.1 hi).1
    rw[a2d]at hil
    rw[a3N ys 0 i hil]at hi
    cases hi
    unfold V9
    omega
   ·rw[List.mem_singleton.1 hq];omega
  generalize X8 (l7 ys (P4 0 ys++[((C3 ys).length:Int)]) ys.length)=tops at*
  have hpm:∀q,q∈P4 0 ys↔ ∃k,k<ys.length∧q=V9 ys k:=fun q=>by
   constructor
   ·intro hq
    obtain⟨i,hi⟩:=List.getElem?_of_mem hq
    have hil:=(List.getElem?_eq_some_iff.1 hi).1
    rw[a2d]at hil
    rw[a3N ys 0 i hil]at hi
    cases hi
    exact⟨i,hil,by simp⟩
   ·rintro⟨k,hk,rfl⟩
    refine List.mem_of_getElem? (i:=k) ?_
    rw[a3N ys 0 k hk];simp
  have hll:=a2d ys 0
  refine b4X (I:=fun m x0 x4 x5 x7 x8 T=>T=S∧x0=bD (C3 ys)∧x4=H6 ys∧x5=iD (P4 0 ys)∧x7=iD tops∧∃i:Nat,x8= .int .i64 (i:Int)∧i+m=tops.length∧∀q∈tops.take i,q∈P4 0 ys) ?_ (n:=tops.length) ⟨rfl,rfl,rfl,rfl,rfl,0,rfl,by omega,by simp⟩
  rintro m _ _ _ _ _ T ⟨hT,rfl,rfl,rfl,rfl,i,rfl,hi,hall⟩
  subst hT
  unfold a6z
  rw[a1I,oD,M7,oD,V7]
  refine⟨fun hlt=> ?_,fun hge=> ?_⟩
  ·have et:tops[i]? =some tops[i]:=List.getElem?_eq_getElem (by omega)
   have htm:tops[i]∈tops:=List.getElem_mem _
   generalize tops[i]=t at et htm
   rw[a0y et,oD,lsE,List.getElem?_cons_zero,oD]
   refine(a6e (q:=t) (l:=P4 0 ys) (by omega) (b5k _ _)).use ?_
   rintro v S' ⟨rfl,rfl⟩
   rw[unN,oD]
   by_cases hm:t∈P4 0 ys
   ·rw[decide_eq_true hm,Bool.not_true,cdF,C4,oD,i6 (by omega) (by omega)]
    refine⟨m - 1,by omega,by trivial,by trivial,by trivial,by trivial,by trivial,i+1,by simp,by omega,fun q hq=> ?_⟩
    rw[List.take_add_one,et]at hq
    rcases List.mem_append.1 hq with hq|hq
    ·exact hall q hq
    ·simp only[Option.toList,List.mem_singleton]at hq
     rw[hq];exact hm
   ·rw[decide_eq_false hm,Bool.not_false,cdT]
    refine bad (b5.le_refl _) ?_
    rw[hof]
    have hrest:(L3 ys tops ys.length).1≠[]:=fun e=>hm ((hpm t).2 ((b8Z hr h00).1 e t htm))
    unfold Z9
    cases hh:(L3 ys tops ys.length).1 with
    |nil=>exact absurd hh hrest
    |cons a l=>rfl
  ·rw[List.take_of_length_le (by omega)]at hall
   have ht:∀q∈tops,∃k,k<ys.length∧q=V9 ys k:=fun q hq=>(hpm q).1 (hall q hq)
   have hrest:=(b8Z hr h00).2 ht
   refine b5c (I:=fun m x0 x4 x5 x7 x9 x10 T'=>x0=bD (C3 ys)∧x4=H6 ys∧x5=iD (P4 0 ys)∧x7=iD tops∧∃i:Nat,x10= .int .i64 (i:Int)∧i+m=ys.length∧O4 T [] x9 ((L3 ys tops i).2.map D5) 3 T'∧T.le T') ?_ (n:=ys.length) ⟨rfl,rfl,rfl,rfl,0,rfl,by omega,O4.nil,b5.le_refl _⟩
   rintro m _ _ _ _ x9 _ T2 ⟨rfl,rfl,rfl,rfl,i,rfl,hi,hg,hle⟩
   unfold a6B
   have hbl:=c2j (ys:=ys) (tops:=tops) i
   rw[a8K,oD,M7,oD,V7]
   refine⟨fun hlt=> ?_,fun hge=> ?_⟩
   ·have hlt':i<ys.length:=by omega
    have hy:ys[i]? =some ys[i]:=List.getElem?_eq_getElem hlt'
    have hmem:ys[i]∈ys:=List.getElem_mem hlt'
    generalize ys[i]=y at hy hmem
    have hpi:(P4 0 ys)[i]? =some (V9 ys i):=by rw[a3N ys 0 i hlt'];simp
    have hi1:IntKind.i64.wrap ((i:Int)+1)=((i+1:Nat):Int):=by rw[i6 (by omega) (by omega)];simp
    have hst:L3 ys tops (i+1)=if V9 ys i∈tops then((L3 ys tops i).1.tail,(L3 ys tops i).2++[⟨V9 ys i,V9 ys (i+1),p4 y (V9 ys (i+1))⟩]) else((L3 ys tops i).1,a0D (L3 ys tops i).2 (V9 ys (i+1)) (p4 y (V9 ys (i+1)))):=by
     rw[L3,hy]
     simp only
     by_cases hh:V9 ys i∈tops
     ·rw[if_pos hh,if_pos ((c1S hr ht h00 hlt').2 hh)]
     ·rw[if_neg hh,if_neg (fun e=>hh ((c1S hr ht h00 hlt').1 e))]
    have c42:∀ {x9':D} {rows:List (List D)} {b:L9} {e0 n0:D} {T3:b5},O4 T [] x9' (rows++[[.int .i64 b.at',e0,n0]]) 3 T3→T.le T3→rows.length<2^40→(L3 ys tops (i+1)).2.map D5=rows++[[.int .i64 b.at', .int .i64 (V9 ys (i+1)),iD (p4 y (V9 ys (i+1)))]]→
      a1R E w0 (fun x0 x4 x5 x7 x9 x10 T'=>∃m',m'<m∧(x0=bD (C3 ys)∧x4=H6 ys∧x5=iD (P4 0 ys)∧x7=iD tops∧∃i:Nat,x10= .int .i64 (i:Int)∧i+m'=ys.length∧O4 T [] x9 ((L3 ys tops i).2.map D5) 3 T'∧T.le T'))
       (b9 E fun d' S'=>d'=ofD (z6 (C3 ys))∧S'=T) (bD (C3 ys)) (H6 ys) (iD (P4 0 ys)) (iD tops) x9' (.int .i64 (i:Int)) (.int .i64 (V9 ys (i+1))) T3:=by
     intro x9' rows b e0 n0 T3 g1 g2 hrl hrows
     refine b2W ?_
     unfold a9s
     have hsub:IntKind.i64.wrap (((rows++[[D.int .i64 b.at',e0,n0]]).length:Int) - 1)=(rows.length:Int):=by
      rw[List.length_append,List.length_singleton,i6 (by omega) (by omega)];omega
     rw[g1.len,oD,a0M,oD,hsub]
     obtain⟨p,p1,p2,p3⟩:=b5g g1 g2
     obtain⟨q,q1,q2⟩:=p3 1 (.int .i64 (V9 ys (i+1))) (by simp) rfl
     rw[p1,oD,q1,oD]
     refine q2 _ fun S1 hg1 hle1=> ?_
     rw[a5n hy,oD,laE,if_pos ⟨by decide,by simp[N7]⟩,oD]
     refine(show p8 Try.prog E w0 R6 [inD y, .int .i64 (V9 ys (i+1))] _ _ from(a7x (harm y hmem)).use ?_)
     obtain⟨p',p1',_,p3'⟩:=b5g hg1 hle1
     rw[p1]at p1'
     cases p1'
     obtain⟨q',q1',q2'⟩:=p3' 2 (iD (p4 y (V9 ys (i+1)))) (by simp) rfl
     rw[oD,q1',oD]
     refine q2' _ fun S2 hg2 hle2=> ?_
     rw[C4,oD,hi1]
     refine⟨m - 1,by omega,by trivial,by trivial,by trivial,by trivial,i+1,by trivial,by omega, ?_,hle2⟩
     rw[hrows]
     exact hg2
    have c38:a1X E w0 (fun x0 x4 x5 x7 x9 x10 T'=>∃m',m'<m∧(x0=bD (C3 ys)∧x4=H6 ys∧x5=iD (P4 0 ys)∧x7=iD tops∧∃i:Nat,x10= .int .i64 (i:Int)∧i+m'=ys.length∧O4 T [] x9 ((L3 ys tops i).2.map D5) 3 T'∧T.le T'))
      (b9 E fun d' S'=>d'=ofD (z6 (C3 ys))∧S'=T) (bD (C3 ys)) (H6 ys) (iD (P4 0 ys)) (iD tops) x9 (.int .i64 (i:Int)) (.int .i64 (V9 ys (i+1))) T2:=by
     refine b3d ?_
     unfold a9F
     rw[a0y hpi,oD,lsE,List.getElem?_cons_zero,oD]
     refine(a6e (q:=V9 ys i) (l:=tops) (by omega) (b5k _ _)).use ?_
     rintro v S' ⟨rfl,rfl⟩
     rw[V7]
     refine⟨fun hin=> ?_,fun hnin=> ?_⟩
     ·rw[oD,lsE,List.getElem?_cons_zero,oD,
       show l8 [D.int .i64 0, .int .i64 0, .nilSlc] [(0,1, .int .i64 (V9 ys i))]=some [.int .i64 (V9 ys i), .int .i64 0, .nilSlc]from rfl,agS,oD,
       show o7 3 (List.replicate 1 [D.int .i64 0, .int .i64 0, .nilSlc]) [(0, .agg [.int .i64 (V9 ys i), .int .i64 0, .nilSlc])]=some [[.int .i64 (V9 ys i), .int .i64 0, .nilSlc]]from rfl]
      refine E8 rfl ?_
      refine hg.push (news:=[[.int .i64 (V9 ys i), .int .i64 0, .nilSlc]]) hle (fun j hj=>by cases hj) (by simp[rowsS,C1]) (by simp) (by simp;omega) fun t' S3 hle3 _ hg3=> ?_
      rw[if_pos hin]at hst
      refine c42 (b:=⟨V9 ys i,0,[]⟩) hg3 hle3 (by rw[List.length_map];omega) ?_
      rw[hst,List.map_append]
      rfl
     ·rw[if_neg hnin]at hst
      have hip:0<i:=by
       rcases Nat.eq_zero_or_pos i with e|h
       ·subst e;exact absurd (List.mem_of_head? h00) hnin
       ·exact h
      obtain⟨l,b,e⟩:∃l b,(L3 ys tops i).2=l++[b]:=⟨_,_,(List.dropLast_concat_getLast (c2H h00 hip (by omega))).symm⟩
      rw[e,List.map_append]at hg
      rw[e,List.length_append]at hbl
      refine c42 (b:=b) (rows:=l.map D5) hg hle (by rw[List.length_map];omega) ?_
      rw[hst,e,a1h,List.map_append]
      rfl
    rw[lb,oD,C4,oD,hi1,oD,M7,oD,V7]
    refine⟨fun h1=> ?_,fun h1=> ?_⟩
    ·have h1':i+1<ys.length:=by omega
     have hp1:(P4 0 ys)[i+1]? =some (V9 ys (i+1)):=by rw[a3N ys 0 (i+1) h1'];simp
     rw[oD,a0y hp1,oD,lsE,List.getElem?_cons_zero,oD]
     exact c38
    ·have h1':i+1=ys.length:=by omega
     rw[h1', ←c5D]at c38
     exact c38
   ·have hin:i=ys.length:=by omega
    subst hin
    obtain⟨l,b,e⟩:∃l b,(L3 ys tops ys.length).2=l++[b]:=⟨_,_,(List.dropLast_concat_getLast (c2H h00 hpos (Nat.le_refl _))).symm⟩
    have hnl:b.next.length<2^40:=by
     have:=a3z harm (P4 0 ys++[((C3 ys).length:Int)]) tops ys.length b (by rw[c0h _ (Nat.le_refl _),e];simp)
     omega
    rw[e]at hg hbl
    simp only[List.length_append,List.length_singleton]at hbl
    have hg2:O4 T [] x9 (l.map D5++[D5 b]) 3 T2:=by rw[List.map_append]at hg;exact hg
    have hsub:IntKind.i64.wrap (((l.map D5++[D5 b]).length:Int) - 1)=((l.map D5).length:Int):=by
     rw[List.length_append,List.length_singleton,List.length_map,i6 (by omega) (by omega)];omega
    obtain⟨p,p1,p2⟩:=c2l hg2
    have hla:l9 T2 3 p=some (.agg (D5 b)):=by
     rcases hg2 with ⟨_,e⟩|⟨k,acs,h0,h1,rfl,h3⟩
     ·simp at e
     ·rw[c1l (by simp)]at p1
      cases p1
      rw[laR h3 (row:=D5 b) (by simp) ⟨by decide,by simp[D5]⟩]
      rfl
    rw[hg2.len,oD,a0M,oD,hsub,p1,oD,hla,oD]
    intro k a nk
    refine(D3.new (sz:=3) (c:=[.int .i64 0, .int .i64 0, .nilSlc])).st (ds:=D5 b) (clA _) ⟨rfl,by decide,by simp[D5]⟩ fun c=> ?_
    rw[b5.set_set,show j4 [D.int .i64 0, .int .i64 0, .nilSlc] 0 (D5 b)=D5 b from rfl]
    have ck:D3 (T2.set k ⟨3,[D5 b],c⟩) k 3 (D5 b):=D3.new
    have l2:T.le (T2.set k ⟨3,[D5 b],c⟩):=b5.le_trans hle (b5.le_new nk)
    have hg:=hg.set (l:=k) (o:=⟨3,[D5 b],c⟩) (.inr nk)
    rw[ofP,oD,ck.ld,show(D5 b)[0+2]? =some (iD b.next) from rfl,oD,lb,oD]
    refine(a6e (q:=((C3 ys).length:Int)) (l:=b.next) hnl (b5k _ _)).use ?_
    rintro v S' ⟨rfl,rfl⟩
    have he1:∀r:List L9×Int,(if((C3 ys).length:Int)∈b.next then([],190) else(l++[b],0))=r→z6 (C3 ys)=r:=fun r h=>by
     rw[hof]
     unfold Z9
     rw[hrest,e]
     simp only[List.getLast?_append,List.getLast?_singleton,Option.some_or]
     exact h
    rw[V7]
    refine⟨fun hm=>bad l2 (he1 _ (if_pos hm)),fun hm=> ?_⟩
    rw[he1 (l++[b],0) (if_neg hm)]
    refine b9.grA (pre:=[]) hg l2 fun T4 hle4 _=> ?_
    exact b9.less hle4 (b9.here ⟨rfl,rfl⟩)
end
end
section
set_option linter.unusedSectionVars false
section
variable{E:g8}{w0:j0}
theorem c7E{l:List L9}{s:List Int}(hat:∀b∈l,I64 b.at')(hl:l.length<2^37)(hW:wgt (fun _=>true) l<2^37)(hnx:∀b∈l,b.next.length<2^37)(hs:s.Pairwise (· < ·))(h1:∀n∈s,a9m l n)(h2:∀n,a9m l n→n∈s):U2 Try.prog E w0 N8 [I3 l] (iD s):=fun S=>
 (b5b hat hl hW hnx).use fun d S' ⟨a,r,b,c,e⟩=>⟨by rw[b,c7j c hs fun n=>⟨fun h=>h2 n ((e n).1 h),fun h=>(e n).2 (h1 n h)⟩],a⟩
theorem b5r:U2 Try.prog E w0 a0i [] (.bool true):=fun S=>by
 refine b2x ?_
 unfold a9L
 rw[show o7 1 (List.replicate 3 [D.int .u8 0]) [(0, .int .u8 52),(1, .int .u8 1),(2, .int .u8 51)]=some (J5 ([52,1,51].map (D.int .u8))) from rfl]
 refine E8 rfl ?_
 refine(show p8 Try.prog E w0 O9 [bD [52,1,51]] S _ from(b1y (by simp[J0]) (by decide)).use ?_)
 rw[show z6 [52,1,51]=([⟨0,2,[]⟩,⟨2,3,[]⟩],0) from by rw[c7r];kernel_rfl]
 have hln:j9 (I3 [⟨0,2,[]⟩,⟨2,3,[]⟩])=some (.int .i64 2):=rfl
 have i0:j5 3 (I3 [⟨0,2,[]⟩,⟨2,3,[]⟩]) (.int .i64 0)=some (.elt (D5 ⟨0,2,[]⟩) 0):=rfl
 have i1:j5 3 (I3 [⟨0,2,[]⟩,⟨2,3,[]⟩]) (.int .i64 1)=some (.elt (D5 ⟨2,3,[]⟩) 0):=rfl
 have r0:∀b:L9,(D5 b)[0]? =some (.int .i64 b.at'):=fun _=>rfl
 have r1:∀b:L9,(D5 b)[1]? =some (.int .i64 b.end'):=fun _=>rfl
 have r2:∀b:L9,(D5 b)[2]? =some (iD b.next):=fun _=>rfl
 unfold ofD
 simp only[exD,List.getElem?_cons_zero,List.getElem?_cons_succ,oD,a2Z,eqI,decide_true,wdB,t4,vdT,hln,pdB,if_true,i0,i1,ofE,Nat.zero_add,lsE,r0,r1,r2,a1I,List.length_nil,Int.ofNat_zero,gdT]
 refine(show p8 Try.prog E w0 N8 [I3 [⟨0,2,[]⟩,⟨2,3,[]⟩]] S _ from(c7E (s:=[0]) (by simp[I64]) (by decide) (by decide) (by simp) (by simp) (fun n hn=> ?_) (fun n hn=> ?_)).use ?_)
 ·rw[List.mem_singleton.1 hn];exact .base (b:=⟨0,2,[]⟩) rfl
 ·refine c3d (fun b hb=> ?_) (fun a i b ha hi hb m hm _=> ?_) hn
  ·cases hb;simp
  ·rw[List.mem_singleton.1 ha]at hi
   cases hi
   cases hb
   cases hm
 rw[show o7 1 (List.replicate 1 [D.int .i64 0]) [(0, .int .i64 0)]=some (iC [0]) from rfl]
 refine E8 (rows:=iC [0]) (len:=1) rfl ?_
 refine(show p8 Try.prog E w0 I8 [iD [0],iD [0]] S _ from(a7e (by decide) (by decide)).use ?_)
 simp only[decide_true,pdB,if_true,oD]
 exact b9.pure
end
end
section
set_option linter.unusedSectionVars false
section
variable{E:g8}{w0:j0}
def tF(E:g8):D→b5→Prop:=b9 E fun v _=>v= .bool true
theorem c5v{S:b5}:p8 Try.prog E w0 a0i [] S (tF E):=b5r.use (b9.here rfl)
end
end
end Go.Proofs.Ytdkidgkiplcggaa.d
end
section
namespace Go.Am
theorem DF.freeze{P:Program}{E:g8}{w0:j0}{f:FuncId}{pre post:List D}{S:b5}{Q:D→b5→Prop}{k:Nat}{o:A2}(hk:S k=some o){i len cap:Nat}{ex:Bool}{sz:Nat}(hsz:o.sz=sz)(hl:i+len≤o.rows.length)(hc:len≤cap)
  (h:p8 P E w0 f (pre++ .lst ((o.rows.drop i).take len) sz::post) (S.erase k) Q):p8 P E w0 f (pre++ .raw k i len cap ex sz::post) S Q:=fun R H avs F hC ha=>by
 obtain⟨v1,v2,rfl,g1,g2⟩:=a1H ha
 simp only[s7]at g2
 obtain⟨w,ws,rfl,g3,g4⟩:=g2
 have hzm:sz<H3:=by simp only[Rp]at g3;exact g3.1
 obtain⟨h1,h2⟩:=hC.freeze hk (.inl (by rw[hsz];exact hzm))
 refine(FnW.at_le h2 (h _ H _ F h1 ((s7.le h2 _ _ g1).append (q9 (a5z hC hk g3 hsz hl hc) (s7.le h2 _ _ g4))))).mono ?_
 rintro v H' ⟨F',R',S',d',hle,rest⟩
 exact⟨F',R',S',d',Fz.le_trans h2 hle,rest⟩
theorem DF.grA{P:Program}{E:g8}{w0:j0}{f:FuncId}{S0 S:b5}{Q:D→b5→Prop}{t:D}{rows:List (List D)}{sz:Nat}{av:List Nat}(hg:O4 S0 av t rows sz S)(hle:S0.le S)
  (h:∀T,S0.le T→p8 P E w0 f [.lst rows sz] T Q):p8 P E w0 f [t] S Q:=by
 rcases hg with ⟨rfl,rfl⟩|⟨k,acs,h0,h1,rfl,h3⟩
 ·exact DF.weak (es:=[.lst [] sz]) ⟨Wk.nil sz,trivial⟩ (h S hle)
 ·refine DF.freeze (pre:=[]) (post:=[]) h3 rfl (by simp) (Nat.le_refl _) ?_
  rw[List.drop_zero,List.take_of_length_le (Nat.le_refl _)]
  refine h _ fun j o e=> ?_
  have hj:j≠k:=fun e'=>by rw[e',h0]at e;cases e
  rw[b5.erase_ne _ _ hj]
  exact hle _ _ e
end Go.Am
end
section
open Go.Proofs Go Go.Am
namespace Go.Proofs.Ytdkidgkiplcggaa.d
def B9:List (Nat×List Nat):=[(18,[3,4,6,8]),(24,[3,4,6,8,9])]
def B7:List (Nat×List Nat):=[]
def B8:List (Nat×Arr):=[]
noncomputable def W2:Code:=(i9 [1,1,1,1,1,1,0,1,0,0,1,0,0,0,1,0,0] (Try.f3.body.getD .skip))
def W4(E:g8)(w0:j0)(N0:D→D→D→D→b5→Prop)(Q:D→b5→Prop):j7→List D→b5→Prop:=
 (p5 2 (L4 Try.prog E w0 B9 B7 B8 (i9 [1,1,1,1,1,1,0,1,0,0,1,0,0,1] (Try.f3.body.getD .skip)) (p5 1 (L4 Try.prog E w0 B9 B7 B8 (i9 [1,1,1,1,1,1,0,1,0,0,1,1] (Try.f3.body.getD .skip)) (A3 (fun T S=>N0 (T.getD 3 b6) (T.getD 4 b6) (T.getD 6 b6) (T.getD 8 b6) S) (p5 0 (L4 Try.prog E w0 B9 B7 B8 (i9 [1,1,1,1,1,1,1] (Try.f3.body.getD .skip)) (F5 Try.prog Try.f3 Q))))))))
def X2(E:g8)(w0:j0)(N0:D→D→D→D→b5→Prop)(N1:D→D→D→D→D→b5→Prop)(Q:D→b5→Prop)(x3 x4 x6 x8 x9:D)(S:b5):Prop:=
 b4 (j5 3 x6 x8) fun v29=>
 b4 (p9 2 v29) fun v30=>
 b4 (d9 S v30) fun v31=>
 b4 (j9 v31) fun v32=>
 b4 (d5 .lss x9 v32) fun v33=>
 i5 v33
 (b4 (j5 3 x6 x8) fun v34=>
 b4 (p9 2 v34) fun v35=>
 b4 (d9 S v35) fun v36=>
 b4 (j5 1 v36 x9) fun v37=>
 j1 S 1 v37 (.int .i64 (-9)) fun v38 S39=>
 b4 (d5 .add x9 (.int .i64 1)) fun v40=>
 N1 x3 x4 x6 x8 v40 S39)
 (b4 (B3 (l8 [(.int .i64 0),(.int .i64 0), .nilSlc] [(0,1,(.int .i64 (-9)))])) fun v41=>
 b4 (j5 3 x6 x8) fun v42=>
 j1 S 3 v42 v41 fun v43 S44=>
 b4 (d5 .add x8 (.int .i64 1)) fun v45=>
 N0 x3 x4 x6 v45 S44)
theorem a5o{E:g8}{w0:j0}{N0:D→D→D→D→b5→Prop}{N1:D→D→D→D→D→b5→Prop}{Q:D→b5→Prop}{x3 x4 x6 x8 x9:D}{S:b5}(h:X2 E w0 N0 N1 Q x3 x4 x6 x8 x9 S):
  f9 Try.prog E w0 W2 (i7 81 [3,4,6,8,9] [x3,x4,x6,x8,x9]) S (A3 (fun T S=>N1 (T.getD 3 b6) (T.getD 4 b6) (T.getD 6 b6) (T.getD 8 b6) (T.getD 9 b6) S) (W4 E w0 N0 Q)):=g9 B9 B7 B8 mixed (by kernel_rfl) h
theorem a5x{E:g8}{w0:j0}{N0:D→D→D→D→b5→Prop}{Q:D→b5→Prop}(I:Nat→D→D→D→D→D→b5→Prop)
  (step:∀n x3 x4 x6 x8 x9 S,I n x3 x4 x6 x8 x9 S→X2 E w0 N0 (fun x3 x4 x6 x8 x9 S=>∃m,m<n∧I m x3 x4 x6 x8 x9 S) Q x3 x4 x6 x8 x9 S)
  {n:Nat} {x3 x4 x6 x8 x9:D} {S:b5} (h:I n x3 x4 x6 x8 x9 S):f9 Try.prog E w0 (.loop W2) (i7 81 [3,4,6,8,9] [x3,x4,x6,x8,x9]) S (W4 E w0 N0 Q):=
 o4 (k:=81) (n:=n) (I:=fun n T S=>I n (T.getD 3 b6) (T.getD 4 b6) (T.getD 6 b6) (T.getD 8 b6) (T.getD 9 b6) S) (fun n T S hl hI=>q8 [3,4,6,8,9] hl (f9.mono (a5o (step n _ _ _ _ _ S hI)) fun ex T' S' _ hq=>by cases ex<;>exact hq)) (j2 ..) (Eq.mp (by kernel_rfl) h)
noncomputable def X5:Code:=(i9 [1,1,1,1,1,1,0,1,0,0] (Try.f3.body.getD .skip))
def W1(E:g8)(w0:j0)(Q:D→b5→Prop):j7→List D→b5→Prop:=
 (p5 0 (L4 Try.prog E w0 B9 B7 B8 (i9 [1,1,1,1,1,1,1] (Try.f3.body.getD .skip)) (F5 Try.prog Try.f3 Q)))
def X6(E:g8)(w0:j0)(N0:D→D→D→D→b5→Prop)(Q:D→b5→Prop)(x3 x4 x6 x8:D)(S:b5):Prop:=
 b4 (j9 x6) fun v27=>
 b4 (d5 .lss x8 v27) fun v28=>
 i5 v28
 (f9 Try.prog E w0 (.loop W2) (i7 81 [3,4,6,8,9] [x3,x4,x6,x8,(.int .i64 0)]) S (W4 E w0 N0 Q))
 (p8 Try.prog E w0 O9 [x3] S fun v46 S47=>
 b4 (o5 v46 0) fun v48=>
 b4 (o5 v46 1) fun v49=>
 p8 Try.prog E w0 Y6 [v48,x4] S47 fun v50 S51=>
 a2B (b8 v50 true) (fun K=>p8 Try.prog E w0 a0i [] S51 K) S51 fun v52 S53=>
 b4 (y9 v50 v52 (.bool false)) fun v54=>
 Q v54 S53)
theorem a5A{E:g8}{w0:j0}{N0:D→D→D→D→b5→Prop}{Q:D→b5→Prop}{x3 x4 x6 x8:D}{S:b5}(h:X6 E w0 N0 Q x3 x4 x6 x8 S):
  f9 Try.prog E w0 X5 (i7 81 [3,4,6,8] [x3,x4,x6,x8]) S (A3 (fun T S=>N0 (T.getD 3 b6) (T.getD 4 b6) (T.getD 6 b6) (T.getD 8 b6) S) (W1 E w0 Q)):=g9 B9 B7 B8 mixed (by kernel_rfl) h
theorem a5u{E:g8}{w0:j0}{Q:D→b5→Prop}(I:Nat→D→D→D→D→b5→Prop)
  (step:∀n x3 x4 x6 x8 S,I n x3 x4 x6 x8 S→X6 E w0 (fun x3 x4 x6 x8 S=>∃m,m<n∧I m x3 x4 x6 x8 S) Q x3 x4 x6 x8 S)
  {n:Nat} {x3 x4 x6 x8:D} {S:b5} (h:I n x3 x4 x6 x8 S):f9 Try.prog E w0 (.loop X5) (i7 81 [3,4,6,8] [x3,x4,x6,x8]) S (W1 E w0 Q):=
 o4 (k:=81) (n:=n) (I:=fun n T S=>I n (T.getD 3 b6) (T.getD 4 b6) (T.getD 6 b6) (T.getD 8 b6) S) (fun n T S hl hI=>q8 [3,4,6,8] hl (f9.mono (a5A (step n _ _ _ _ S hI)) fun ex T' S' _ hq=>by cases ex<;>exact hq)) (j2 ..) (Eq.mp (by kernel_rfl) h)
def a3l(E:g8)(w0:j0)(Q:D→b5→Prop)(a0:D)(S:b5):Prop:=
 b4 (j9 a0) fun v0=>
 b4 (d5 .gtr v0 (.int .i64 6000)) fun v1=>
 i5 v1
 (p8 Try.prog E w0 a0i [] S fun v2 S3=>
 Q v2 S3)
 (p8 Try.prog E w0 a1b [a0] S fun v4 S5=>
 p8 Try.prog E w0 a6m [a0] S5 fun v6 S7=>
 b4 (o5 v6 0) fun v8=>
 b4 (o5 v6 1) fun v9=>
 p8 Try.prog E w0 O9 [v4] S7 fun v10 S11=>
 b4 (o5 v10 0) fun v12=>
 b4 (o5 v10 1) fun v13=>
 p8 Try.prog E w0 Y6 [v12,v8] S11 fun v14 S15=>
 b4 (unD .not v14) fun v16=>
 b4 (d6 (b8 v16 false) (some v13)) fun v17=>
 b4 (d6 (b8 v16 false) (some v9)) fun v18=>
 b4 (d6 (b8 v16 false) (d5 .neq v17 v18)) fun v19=>
 b4 (y9 v16 (.bool true) v19) fun v20=>
 b4 (d6 (b8 v20 false) (some v4)) fun v21=>
 b4 (d6 (b8 v20 false) (some a0)) fun v22=>
 a2B (b8 v20 false) (fun K=>p8 Try.prog E w0 a1o [v21,v22] S15 K) S15 fun v23 S24=>
 b4 (d6 (b8 v20 false) (unD .not v23)) fun v25=>
 b4 (y9 v20 (.bool true) v25) fun v26=>
 i5 v26
 (Q (.bool false) S24)
 (f9 Try.prog E w0 (.loop X5) (i7 81 [3,4,6,8] [v4,v8,v12,(.int .i64 0)]) S24 (W1 E w0 Q)))
theorem a7f{E:g8}{w0:j0}{Q:D→b5→Prop}{a0:D}{S:b5}(h:a3l E w0 (b9 E Q) a0 S):p8 Try.prog E w0 a3w [a0] S Q:=
 j6 B9 B7 B8 (fn:=Try.f3) (c:=Try.f3.body.getD .skip) mixed Try.func3 (by kernel_rfl) (by kernel_rfl) h
end Go.Proofs.Ytdkidgkiplcggaa.d
end
section
open Go.Proofs Go Go.Am Go.Op
namespace Go.Proofs.Ytdkidgkiplcggaa.d
set_option linter.unusedSectionVars false
theorem c0x{code:List Int}(hb:∀b∈code,J0 b)(hl:code.length<2^20):(z6 code).1.length<2^21∧∀b∈(z6 code).1,b.next.length≤65540:=by
 rcases b9g hb with ⟨e,h,he⟩|⟨ys,rfl,hs,L,h,hys,hpl⟩
 ·have:z6 code=([],e):=by unfold z6;rw[h]
  rw[this]
  exact⟨by show 0<2^21;decide,fun b hb=>by cases hb⟩
 ·have hof:=a6o h
  rw[hys,hpl]at hof
  have hyl:=a8U ys
  have harm:∀y∈ys,y.arms.length≤65535:=fun y hy=>c2i (hs y hy)
  have e1:=(a8C ys (P4 0 ys++[((C3 ys).length:Int)]) (X8 (l7 ys (P4 0 ys++[((C3 ys).length:Int)]) ys.length)) ys.length).1
  have e2:=a3z harm (P4 0 ys++[((C3 ys).length:Int)]) (X8 (l7 ys (P4 0 ys++[((C3 ys).length:Int)]) ys.length)) ys.length
  rw[hof]
  generalize s6 ys (P4 0 ys++[((C3 ys).length:Int)]) (X8 (l7 ys (P4 0 ys++[((C3 ys).length:Int)]) ys.length)) ys.length=st at e1 e2
  unfold Z9
  split
  ·split
   ·exact⟨by decide,fun b hb=>by cases hb⟩
   ·exact⟨by show st.2.length<_;omega,e2⟩
  ·exact⟨by decide,fun b hb=>by cases hb⟩
section
variable{E:g8}{w0:j0}
theorem c4M{S0 T:b5}{av:List Nat}{t:D}{rows:List (List D)}{row:List D}{i:Nat}(hg:O4 S0 av t rows 3 T)(hr:rows[i]? =some row):∃p,j5 3 t (.int .i64 (i:Int))=some p∧(∀o,∃q,p9 o p=some q∧d9 T q=row[o]?)∧
  ∀(cs:List D),cs.length=3→row.length=3→∀K:D→b5→Prop,(∀T',O4 S0 av t (rows.set i cs) 3 T'→(∀j∈av,T' j=T j)→K b6 T')→j1 T 3 p (.agg cs) K:=by
 have hi:=(List.getElem?_eq_some_iff.1 hr).1
 rcases hg with ⟨_,e⟩|⟨k,acs,h0,h1,rfl,h3⟩
 ·rw[e]at hi;cases hi
 ·refine⟨_,c1l hi,fun o=>⟨_,ofR ..,by rw[ldR h3 (row:=row) (by rw[Nat.zero_add];exact hr),Nat.zero_add]⟩,fun cs hc hrl K hK=> ?_⟩
  refine stR h3 (rows:=rows) (row:=row) (by rw[Nat.zero_add];exact hr) (ds:=cs) rfl ⟨hc,by decide,by omega⟩ fun acs'=> ?_
  have e:j4 row 0 cs=cs:=by
   obtain⟨a,b,c,rfl⟩:∃a b c,cs=[a,b,c]:=by
    match cs,hc with
    | [a,b,c],_=>exact⟨a,b,c,rfl⟩
   obtain⟨a',b',c',rfl⟩:∃a b c,row=[a,b,c]:=by
    match row,hrl with
    | [a,b,c],_=>exact⟨a,b,c,rfl⟩
   rfl
  rw[e,Nat.zero_add]
  refine hK _ (.inr ⟨k,acs',h0,h1,by rw[List.length_set],b5.set_same _ _ _⟩) fun j hj=>b5.set_ne _ _ _ fun e=>h1 (e▸hj)
theorem c6s{S0 T:b5}{t:D}{l:List L9}(h:b4B S0 t l T)(hl:l.length<2^40)(hn:∀x∈l,x.next.length<2^60):p8 Try.prog E w0 Y6 [t,I3 l] T fun v S'=>v= .bool true∧S'=T:=by
 refine a6U ?_
 unfold a6p
 obtain⟨rows,g1,g2,_⟩:=h
 have hrl:=g2.len
 rw[g1.len,oD,a2X,oD,b6V,oD,decide_eq_false (by omega),cdF]
 refine a4r (I:=fun n x0 x1 x5 S'=>S'=T∧x0=t∧x1=I3 l∧∃i:Nat,x5= .int .i64 (i:Int)∧i+n=l.length) ?_ (n:=l.length) ⟨rfl,rfl,rfl,0,rfl,by omega⟩
 rintro n x0 _ _ S' ⟨hS,rfl,rfl,i,rfl,hi⟩
 subst hS
 unfold a1r
 rw[g1.len,oD,M7,oD,V7]
 refine⟨fun hlt=> ?_,fun hge=>b9.here ⟨rfl,rfl⟩⟩
 have hlt:i<l.length:=by omega
 have ea:l[i]? =some l[i]:=List.getElem?_eq_getElem hlt
 have ma:=hn l[i] (List.getElem_mem _)
 generalize l[i]=x at ea ma
 obtain⟨d,hr,hs,_⟩:=g2.at ea
 obtain⟨p,p1,p2,_⟩:=c4M g1 hr
 obtain⟨q0,o0,q0'⟩:=p2 0
 obtain⟨q1,o1,q1'⟩:=p2 1
 obtain⟨q2,o2,q2'⟩:=p2 2
 have r0:(D5 x)[0]? =some (.int .i64 x.at'):=rfl
 have r1:(D5 x)[1]? =some (.int .i64 x.end'):=rfl
 have r2:(D5 x)[2]? =some (iD x.next):=rfl
 have e0:([D.int .i64 x.at', .int .i64 x.end',d]:List D)[0]? =some (.int .i64 x.at'):=rfl
 have e1:([D.int .i64 x.at', .int .i64 x.end',d]:List D)[1]? =some (.int .i64 x.end'):=rfl
 have e2:([D.int .i64 x.at', .int .i64 x.end',d]:List D)[2]? =some d:=rfl
 have nn:∀a:Int,decide (a≠a)=false:=fun a=>decide_eq_false fun h=>h rfl
 simp only[p1,o0,q0',e0,a1d ea,oD,ofE,Nat.zero_add,lsE,r0,b6V,nn,wdB,t2,vdT,o1,q1',e1,r1,pdB,Bool.false_eq_true,if_false,o2,q2',e2,r2,gdT]
 refine(c1U ma ma hs.rd (b5k _ _)).use ?_
 rintro v S' ⟨rfl,rfl⟩
 simp only[decide_true,unN,Bool.not_true,vdT,oD,pdB,Bool.false_eq_true,if_false,cdF]
 rw[C4,oD,i6 (by omega) (by omega)]
 exact⟨n - 1,by omega,by trivial,by trivial,by trivial,i+1,rfl,by omega⟩
theorem b4z{code:List Int}(hb:∀b∈code,J0 b)(hl0:code.length<2^47){S:b5}:p8 Try.prog E w0 a3w [bD code] S fun v _=>v= .bool true:=by
 refine a7f ?_
 unfold a3l
 have lb:j9 (bD code)=some (.int .i64 code.length):=by simp[bD,J5]
 rw[lb,oD,a8g,oD,V7]
 refine⟨fun _=>c5v,fun hl=> ?_⟩
 have hl:code.length≤6000:=by omega
 have hl2:code.length<2^20:=by omega
 obtain⟨hbl,hbn⟩:=c0x hb hl2
 refine(show p8 Try.prog E w0 a1b [bD code] _ _ from(b4s (by omega)).use ?_)
 refine(show p8 Try.prog E w0 a6m [bD code] _ _ from(c2E hb hl2).use ?_)
 unfold ofD
 simp only[exD,List.getElem?_cons_zero,List.getElem?_cons_succ,oD]
 refine DF.weak (es:=[bD code]) ⟨c8I code,trivial⟩ ?_
 refine(b7F hb hl2).use ?_
 rintro v T ⟨hle,t,rfl,ho⟩
 simp only[exD,List.getElem?_cons_zero,List.getElem?_cons_succ,oD]
 refine(c6s ho (by omega) fun x hx=>by have:=hbn x hx;omega).use ?_
 rintro v T ⟨rfl,rfl⟩
 have nn:∀a:Int,decide (a≠a)=false:=fun a=>decide_eq_false fun h=>h rfl
 simp only[unN,oD,Bool.not_true,wdB,t2,vdT,b6V,nn,pdB,Bool.false_eq_true,if_false,gdT]
 refine(show p8 Try.prog E w0 a1o [bX code,bD code] _ _ from(b4W (by omega)).use ?_)
 simp only[unN,oD,Bool.not_true,vdT,pdB,Bool.false_eq_true,if_false,cdF]
 obtain⟨rows,g1,g2,g3⟩:=ho
 refine a5u (I:=fun m x3 x4 x6 x8 T=>x3=bX code∧x4=I3 (z6 code).1∧x6=t∧∃(i:Nat) (done rest:List (List D)),x8= .int .i64 (i:Int)∧i+m=(z6 code).1.length∧done.length=i∧O4 S (obR rest) t (done++rest) 3 T∧K2 S ((z6 code).1.drop i) rest T∧(obR rest).Nodup) ?_ (n:=(z6 code).1.length)
  ⟨rfl,rfl,rfl,0,[],rows,rfl,by omega,rfl,g1,g2,g3⟩
 clear g1 g2 g3 hle
 rintro m _ _ t _ T ⟨rfl,rfl,rfl,i,done,rest,rfl,hi,hd,g1,g2,g3⟩
 have hrl:=g2.len
 rw[List.length_drop]at hrl
 unfold X6
 rw[g1.len,oD,M7,oD,V7]
 refine⟨fun hlt=> ?_,fun hge=> ?_⟩
 ·rw[List.length_append]at hlt
  have hlt:i<(z6 code).1.length:=by omega
  have eb:(z6 code).1[i]? =some (z6 code).1[i]:=List.getElem?_eq_getElem hlt
  have hbi:=hbn (z6 code).1[i] (List.getElem_mem _)
  rw[List.drop_eq_getElem_cons hlt]at g2
  generalize (z6 code).1[i]=b at eb hbi g2
  obtain⟨r,rest,rfl⟩:∃r rs,rest=r::rs:=by
   cases rest with
   |nil=>exact absurd hrl (by simp;omega)
   |cons r rs=>exact⟨r,rs,rfl⟩
  obtain⟨⟨d,rfl,hs⟩,g2⟩:=g2
  have hdo:(done++[D.int .i64 b.at', .int .i64 b.end',d]::rest)[i]? =some [D.int .i64 b.at', .int .i64 b.end',d]:=by rw[List.getElem?_append_right (by omega),hd,Nat.sub_self];rfl
  have e2:([D.int .i64 b.at', .int .i64 b.end',d]:List D)[2]? =some d:=rfl
  have hob:obR ([D.int .i64 b.at', .int .i64 b.end',d]::rest)=ob d++obR rest:=rfl
  rw[hob]at g1 g3
  obtain⟨_,n2,n3⟩:=List.nodup_append.1 g3
  refine a5x (I:=fun m' x3 x4 x6 x8 x9 T=>x3=bX code∧x4=I3 (z6 code).1∧x6=t∧x8= .int .i64 (i:Int)∧∃(j:Nat) (cur:List Int),x9= .int .i64 (j:Int)∧j+m'=b.next.length∧cur.length=b.next.length∧O4 S (ob d++obR rest) t (done++[D.int .i64 b.at', .int .i64 b.end',d]::rest) 3 T∧K2 S ((z6 code).1.drop (i+1)) rest T∧Sl S [] d cur T) ?_ (n:=b.next.length)
   ⟨rfl,rfl,rfl,rfl,0,b.next,rfl,by omega,rfl,g1,g2,hs⟩
  clear g1 g2 hs
  rintro m' _ _ t _ _ T ⟨rfl,rfl,rfl,rfl,j,cur,rfl,hj,hc,g1,g2,hs⟩
  obtain⟨p,p1,p2,p3⟩:=c4M g1 hdo
  obtain⟨q2,o2,q2'⟩:=p2 2
  unfold X2
  simp only[p1,o2,q2',e2,hs.len,oD,M7]
  rw[V7]
  refine⟨fun hlt2=> ?_,fun hge2=> ?_⟩
  ·obtain⟨p',p1',p2'⟩:=c3C hs (i:=j) (by omega) (n:= -9)
   rw[p1',oD]
   refine p2' _ fun T2 h2 hs2=> ?_
   rw[C4,oD,i6 (by omega) (by omega)]
   refine⟨m' - 1,by omega,by trivial,by trivial,by trivial,by trivial,j+1,_,by simp,by omega,by rw[List.length_set];exact hc,g1.of fun k o hk e=> ?_,g2.of fun k hk=>h2 k fun hm=> ?_,hs2⟩
   ·rw[h2 k fun hm=>hk (List.mem_append.2 (.inl hm))]
    exact e
   ·exact n3 k hm k hk rfl
  ·rw[show l8 [D.int .i64 0, .int .i64 0, .nilSlc] [(0,1, .int .i64 (-9))]=some [.int .i64 (-9), .int .i64 0, .nilSlc]from rfl,agS,oD]
   refine p3 _ rfl rfl _ fun T2 hg2 hs2=> ?_
   rw[C4,oD,i6 (by omega) (by omega)]
   refine⟨m - 1,by omega,by trivial,by trivial,by trivial,i+1,done++[[.int .i64 (-9), .int .i64 0, .nilSlc]],rest,by simp,by omega,by simp[hd], ?_,g2.of fun k hk=>hs2 k (List.mem_append.2 (.inr hk)),n2⟩
   have e:(done++[D.int .i64 b.at', .int .i64 b.end',d]::rest).set i [.int .i64 (-9), .int .i64 0, .nilSlc]=(done++[[.int .i64 (-9), .int .i64 0, .nilSlc]])++rest:=by
    rw[List.set_append_right _ _ (by omega),hd,Nat.sub_self]
    simp
   rw[e]at hg2
   rcases hg2 with h|⟨k,acs,m0,m1,m2⟩
   ·exact .inl h
   ·exact .inr ⟨k,acs,m0,fun hm=>m1 (List.mem_append.2 (.inr hm)),m2⟩
 ·refine DF.weak (es:=[bD code]) ⟨c8I code,trivial⟩ ?_
  refine(b1y hb hl2).use ?_
  unfold ofD
  simp only[exD,List.getElem?_cons_zero,List.getElem?_cons_succ,oD]
  refine(show p8 Try.prog E w0 Y6 [I3 (z6 code).1,I3 (z6 code).1] _ _ from(b8d (by omega) (by omega) (fun x hx=>by have:=hbn x hx;omega) fun x hx=>by have:=hbn x hx;omega).use ?_)
  rw[decide_eq_true rfl,wdB,t4,gdT]
  refine b5r.use ?_
  rw[pdB,if_pos rfl,oD]
  exact b9.here rfl
end
end Go.Proofs.Ytdkidgkiplcggaa.d
end
section
namespace Go.Am
open Go.ChangeShapes Go.WideShapes Go.ChangeAt Go.RowKit
def a2j:Value→AV
 | .slice (some a) len cap=>if len≤cap∧(cap=0∨a.spot=none) then .slc (.old a.block) a.off len cap true 1 else .opq (.slice (some a) len cap)
 | .pointer (some a)=>if a.spot=none then .ptr (.old a.block) a.off else .opq (.pointer (some a))
 |v=>b3E v
def c1h:Value→AV
 | .agg cs=> .agg (cs.toList.map a2j)
 |v=>a2j v
theorem c1N(ρ:u5)(v:Value):rel ρ (a2j v) v:=by
 unfold a2j
 split
 ·rename_i a len cap
  split
  ·rename_i h
   simp only[rel,E4,b3l]
   refine⟨a,cap,rfl,h.1,Nat.le_refl _,fun _=>rfl, ?_,trivial⟩
   rcases h.2 with e|e
   ·exact .inl e
   ·right
    refine⟨a.block,0,rfl, ?_⟩
    obtain⟨b,o,s⟩:=a
    simp only at e
    subst e
    simp
  ·simp only[rel]
 ·rename_i a
  split
  ·rename_i e
   simp only[rel,E4]
   refine⟨a.block,0,rfl, ?_⟩
   obtain⟨b,o,s⟩:=a
   simp only at e
   subst e
   simp
  ·simp only[rel]
 ·exact b0u _
theorem b3h(ρ:u5):∀l:List Value,m6 ρ (l.map a2j) l
 | []=>m7.2 rfl
 |v::l=>j3.2 ⟨c1N ρ v,b3h ρ l⟩
theorem c6o(ρ:u5)(v:Value):rel ρ (c1h v) v:=by
 unfold c1h
 split
 ·simp only[rel]
  exact⟨_,rfl,b3h ρ _⟩
 ·exact c1N ρ _
theorem b9c(ρ:u5):∀l:List Value,m6 ρ (l.map c1h) l
 | []=>m7.2 rfl
 |v::l=>j3.2 ⟨c6o ρ v,b9c ρ l⟩
def a0Z(W:World):g8:=fun b=>match W.heap[b]? with
 |some (.cells arr _ _)=>some (arr.toList.map a2j)
 |_=>none
theorem c7a(W:World)(b:Nat)(cs:List AV)(h:a0Z W b=some cs):b<W.heap.size∧∃arr el fr,W.heap[b]? =some (.cells arr el fr)∧m6 (fun _=>none) cs arr.toList:=by
 unfold a0Z at h
 split at h
 ·rename_i arr el fr e
  cases h
  exact⟨(Array.getElem?_eq_some_iff.1 e).1,arr,el,fr,e,b3h _ _⟩
 ·cases h
theorem c5B{P:Program}{f:FuncId}{W:World}{vargs:Array Value}(h:FnW P (a0Z W) (c6B W) f (vargs.toList.map c1h) AHeap.empty fun v _=>v= .bool true):
  Calls P f vargs W fun e w=>e= .returned (.bool true)∧b4p W w:=
 c0M h (c7a W) (b9c _ _)
theorem b4p.same{W W':World}(h:b4p W W'){p:MemPlace}(hp:p.block<W.heap.size):W.sameAt W' p:=by
 cases p with
 |cell b off=>
  show W'.cell? ⟨b,off,none⟩=W.cell? ⟨b,off,none⟩
  unfold World.cell?
  rw[h.2.2 b hp]
 |map b=>
  show W'.heap[b]? =W.heap[b]?
  exact h.2.2 b hp
theorem a9x{H:Type}{enc:TypeId×Value→H}{P:Program}(hl:laidOutB P=true){W W':World}{sp:Nat→Bool}:∀ {ts:List TypeId} {vs:List Value} {ds:List (DataW H)} {ps:List MemPlace},(∀t∈ts,P.readableRec t=true∧t<P.types.size)→
  DataW.TrodAll enc P W 0 (fun _=>true) true ts vs ds ps→(∀p∈ps,W.sameAt W' p)→(∀p∈ps,sp p.block=true)→DataW.TrodAll enc P W' 0 sp true ts vs ds ps
 | [],[],[],ps,_,h,_,_=>h
 |t::ts,v::vs,d::ds,ps,ht,h,hs,hp=>by
  obtain⟨p,q,h1,h2,rfl⟩:=h
  refine⟨p,q,WideElems.Trod_stays hl (ht t List.mem_cons_self).1 (ht t List.mem_cons_self).2 h1 (fun x hx=>hs x (List.mem_append_left _ hx)) (fun x hx=>hp x (List.mem_append_left _ hx)), ?_,rfl⟩
  exact a9x hl (fun t ht'=>ht t (List.mem_cons_of_mem _ ht')) h2 (fun x hx=>hs x (List.mem_append_right _ hx)) (fun x hx=>hp x (List.mem_append_right _ hx))
theorem c2I{H:Type}{enc:TypeId×Value→H}{P:Program}{f:Func}{s:ChangeSpec}{apart fresh handsOn again:Bool}{W W':World}{args:Array Value}{ds gs:List (DataW H)}{before:List MemPlace}{b:TypeId}
  (hW:DataW.Whole enc P f.params.toList s.vars apart W args.toList ds gs before) (hvars:s.vars=[]) (hl:laidOutB P=true) (hts:∀t∈f.params.toList,P.readableRec t=true∧t<P.types.size)
  (hb:P.underlying b=some .bool) (hrt:f.resultTypes= #[b])
  (hres:(s.fn H ds).results=[.lit (.bool true)]) (hargs:(s.fn H ds).args=ds) (hvs:(s.fn H ds).vars=[]) (hk:b4p W W'):
  s.post enc P f apart fresh handsOn again W args (.bool true) W':=by
 have hW':=hW
 obtain⟨p,q,hA,hV,rfl,_,_⟩:=hW
 rw[hvars]at hV
 obtain⟨rfl,rfl⟩:=trodVars_none hV
 have hlt:∀x∈p,x.block<W.heap.size:=fun x hx=>hW'.lt x (by simpa using hx)
 refine b9T (pa:=p) (pv:=[]) hW' ?_ ?_ ?_ rfl hk ?_
 ·intro b0 sp hd
  rw[List.append_nil,hres,hrt]
  exact trodAll_cons_mk (shut_bool hb _) trodAll_mk0
 ·intro sp hsp
  rw[List.append_nil,hargs]
  exact a9x hl hts hA (fun x hx=>hk.same (hlt x hx)) (fun x hx=>hsp x (by simpa using hx))
 ·intro sp _
  rw[hvars,List.append_nil,hvs]
  rfl
 ·intro j t r h1 h2
  rw[hrt]at h1 h2
  match j,h1,h2 with
  |0,h1,h2=>
   simp[Value.resultList]at h1 h2
   subst h1 h2
   exact okWide_bool_mk hb _
theorem a2T{w:World}{a:Addr}{v:Value}(h:w.cell? a=some v):a.spot=none∧∃arr el fr,w.heap[a.block]? =some (.cells arr el fr)∧arr[a.off]? =some v:=by
 unfold World.cell? at h
 split at h
 ·rename_i c el fr hb
  split at h
  ·cases h
  ·rename_i hns
   exact⟨by cases hs:a.spot with
    |none=>rfl
    |some x=>rw[hs]at hns;exact(hns rfl).elim,c,el,fr,hb,h⟩
 ·cases h
end Go.Am
end
