/-
  BlocksCutsSaid: part Pbb of its proof.
-/
import Derived.Test.YtdkidgkiplcggaaPba
import Derived.Test.YtdkidgkiplcggaaPax
import Derived.Below
import Derived.Laws.AppendOwn
set_option linter.unusedVariables false
set_option linter.unusedSimpArgs false
set_option maxRecDepth 100000
section
open Go.Proofs Go Go.Am Go.Op
namespace Go.Proofs.Ytdkidgkiplcggaa.d
set_option linter.unusedSectionVars false
theorem c0s{bs:List Int}(hb:∀b∈bs,J0 b):∀(n p:Nat) (l:List (Dat×Nat)),a2r bs n p= .ok l→(∀x∈l,isS (a0H x.1)=true)∧∀x,l[0]? =some x→x.2=p
 |0,p,l,h=>by cases h;exact⟨fun x h=>(by cases h),fun x h=>(by cases h)⟩
 |n+1,p,l,h=>by
  by_cases hp:p<bs.length
  ·rw[a2W hp]at h
   by_cases he:(s4 bs p).2.2=0
   ·rw[if_pos he]at h
    cases hr:a2r bs n (s4 bs p).2.1 with
    |error e=>rw[hr]at h;cases h
    |ok l'=>
     rw[hr]at h
     cases h
     obtain⟨_,_,_,h4,_⟩:=c0S hb he (b7j _)
     refine⟨fun x hx=> ?_,fun x hx=> ?_⟩
     ·rcases List.mem_cons.1 hx with rfl|hx
      ·exact h4
      ·exact(c0s hb n _ l' hr).1 x hx
     ·simp at hx;rw[←hx]
   ·rw[if_neg he]at h;cases h
  ·rw[a2r,if_pos (by omega)]at h;cases h;exact⟨fun x h=>(by cases h),fun x h=>(by cases h)⟩
theorem c5x{y:In}(hs:isS y=true){n:Int}(hn:0≤n):∀q∈p4 y n,0≤q:=by
 obtain⟨l,e1,e2,h49,_⟩:=b2Z hs
 have ha:y.op=46∨y.op=47∨y.op=48→0≤y.a:=fun ho=>by
  have:l=[E1]:=by
   rcases ho with ho|ho|ho<;>rw[ho]at e1
   ·have:lay 46=some [E1]:=by decide
    rw[this]at e1;cases e1;rfl
   ·have:lay 47=some [E1]:=by decide
    rw[this]at e1;cases e1;rfl
   ·have:lay 48=some [E1]:=by decide
    rw[this]at e1;cases e1;rfl
  rw[this]at e2
  simp[b6X,Fld.may,E1,In.num]at e2
  omega
 intro q hq
 unfold p4 at hq
 split at hq
 ·cases hq
 split at hq
 ·rename_i h46;rw[List.mem_singleton.1 hq];exact ha (.inl h46)
 rw[(D4 _).2]at hq
 split at hq
 ·rename_i h
  simp at hq
  rcases hq with rfl|rfl
  ·exact hn
  ·exact ha (.inr h)
 split at hq
 ·rename_i h
  obtain⟨_,h2,h3⟩:=h49 h
  rcases List.mem_cons.1 hq with rfl|hq
  ·exact(of_decide_eq_true h3).1
  ·obtain⟨x,hx,rfl⟩:=List.mem_map.1 hq
   have:=List.all_eq_true.1 h2 x hx
   unfold c1g at this
   simp only[Bool.and_eq_true,decide_eq_true_eq]at this
   omega
 ·rw[List.mem_singleton.1 hq];exact hn
theorem b8K{hs:List Int}(h0:(0:Int)∈hs)(hp:∀q∈hs,0≤q):(X8 hs).head? =some 0:=by
 obtain⟨h1,h2⟩:=D4 hs
 have hm:=(h2 0).2 h0
 cases hr:X8 hs with
 |nil=>rw[hr]at hm;cases hm
 |cons a l=>
  rw[hr]at h1 hm
  have ha:=hp a ((h2 a).1 (by rw[hr];exact List.mem_cons_self))
  rcases List.mem_cons.1 hm with h|h
  ·rw[←h];rfl
  ·have:=(List.pairwise_cons.1 h1).1 0 h;omega
theorem c4K(l:List Int):(X8 l).length≤l.length:=by
 have:=a1G (srt l);rw[a6d]at this;exact this
theorem c6W{ys:List In}(harm:∀y∈ys,y.arms.length≤65535)(ext:List Int)(i:Nat):(b1x ys ext i).length≤65541:=by
 unfold b1x
 split
 ·rename_i y hy
  have:=a8S (harm y (List.mem_of_getElem? hy)) (ext.getD (i+1) 0)
  split
  ·rw[List.length_append];split<;>simp only[List.length_singleton,List.length_nil]<;>omega
  ·simp
 ·simp
theorem a4m{ys:List In}(harm:∀y∈ys,y.arms.length≤65535)(ext:List Int):∀n,(l7 ys ext n).length≤65541*n+1
 |0=>by simp[l7]
 |n+1=>by
  have:=a4m harm ext n
  have:=c6W harm ext n
  rw[H7,List.length_append];omega
theorem a7v{ys:List In}{ext:List Int}(hs:∀y∈ys,isS y=true)(he:∀q∈ext,0≤q):∀n,∀q∈l7 ys ext n,0≤q
 |0,q,h=>by simp[l7]at h;omega
 |n+1,q,h=>by
  rw[H7]at h
  have hx:0≤ext.getD (n+1) 0:=by
   rw[List.getD_eq_getElem?_getD]
   cases hq:ext[n+1]? with
   |none=>exact Int.le_refl 0
   |some v=>exact he v (List.mem_of_getElem? hq)
  rcases List.mem_append.1 h with h|h
  ·exact a7v hs he n q h
  ·unfold b1x at h
   split at h
   ·rename_i y hy
    split at h
    ·rcases List.mem_append.1 h with h|h
     ·exact c5x (hs y (List.mem_of_getElem? hy)) hx q h
     ·split at h
      ·rw[List.mem_singleton.1 h];exact hx
      ·cases h
    ·cases h
   ·cases h
def z6(code:List Int):List L9×Int:=match a5v code with
 | .error e=>([],e)
 | .ok L=>Z9 code.length (s6 (t8 L) (C5 L++[(code.length:Int)]) (X8 (l7 (t8 L) (C5 L++[(code.length:Int)]) (t8 L).length)) (t8 L).length)
theorem c6O{code:List Int}(hb:∀b∈code,J0 b){L:List (Dat×Nat)}(h:a5v code= .ok L)(hne:t8 L≠[])(e:List Int):(C5 L++e).getD 0 0=0:=by
 have h2:=(c0s hb _ _ L h).2
 cases L with
 |nil=>exact absurd rfl hne
 |cons x L=>
  have:=h2 x rfl
  simp[C5,this]
section
variable{E:g8}{w0:j0}
theorem a9N{code:List Int}(hb:∀b∈code,J0 b)(hl:code.length<2^20){S:b5}{Q:D→b5→Prop}(herr:∀e T,a5v code= .error e→S.le T→b9 E Q (.tup [.nilSlc, .int .i64 e]) T)
  (hend:∀L,a5v code= .ok L→(t8 L≠[]→(X8 (l7 (t8 L) (C5 L++[(code.length:Int)]) (t8 L).length)).head? =some ((C5 L++[(code.length:Int)]).getD 0 0))→(t8 L).length<2^39→(C5 L++[(code.length:Int)]).length=(t8 L).length+1→(X8 (l7 (t8 L) (C5 L++[(code.length:Int)]) (t8 L).length)).length<2^40→
   (∀y∈t8 L,y.arms.length≤65535)→∀T,S.le T→f9 Try.prog E w0 (.loop M3) (i7 173 [0,5,14,16,94,95,96] [bD code,iD (C5 L++[(code.length:Int)]),iD (X8 (l7 (t8 L) (C5 L++[(code.length:Int)]) (t8 L).length)), .nilSlc,H6 (t8 L), .int .i64 ((t8 L).length:Int),(.int .i64 0)]) T (M4 E w0 (b9 E Q))):
  p8 Try.prog E w0 O9 [bD code] S Q:=by
 refine b5m ?_
 unfold b3U
 refine(c1i hb (by omega)).use fun v T hall=> ?_
 unfold c6P at hall
 cases h:a5v code with
 |error e=>
  rw[h]at hall
  obtain⟨rfl,rfl⟩:=hall
  have he:=b6w _ _ _ h
  simp only[exD,List.getElem?_cons_zero,List.getElem?_cons_succ,oD,b6V]
  rw[decide_eq_true he,cdT]
  exact herr e _ h (b5.le_refl _)
 |ok L=>
  rw[h]at hall
  obtain⟨u,rfl,htip⟩:=hall
  obtain⟨a1,a2⟩:=c1R hb _ _ L h (Nat.zero_le _)
  obtain⟨s1,_⟩:=c0s hb _ _ L h
  have hpl:(C5 L).length=(t8 L).length:=by simp[C5,t8]
  have hil:(t8 L).length≤code.length:=by simp[t8];omega
  have hsi:∀y∈t8 L,isS y=true:=fun y hy=>by obtain⟨x,hx,rfl⟩:=List.mem_map.1 hy;exact s1 x hx
  have harm:∀y∈t8 L,y.arms.length≤65535:=fun y hy=>by
   obtain⟨_,_,_,h49,hn⟩:=b2Z (hsi y hy)
   by_cases h:y.op=49
   ·exact(h49 h).1
   ·rw[(hn h).1];simp
  have hend:=hend L h
  have h00:=c6O hb h
  generalize hys:t8 L=ys at*
  have lb:j9 (bD code)=some (.int .i64 code.length):=by simp[bD,J5]
  have e0:decide ((0:Int)≠0)=false:=by simp
  simp only[exD,List.getElem?_cons_zero,List.getElem?_cons_succ,oD,b6V,e0,cdF,lb]
  rw[show o7 1 (List.replicate 1 [D.int .i64 0]) [(0, .int .i64 (code.length:Int))]=some (iC [(code.length:Int)]) from rfl]
  refine E8 rfl ?_
  refine htip.push (b5.le_refl T) (n:=(code.length:Int)) (by simp[rowsS,C1]) (by omega) fun T1 l1 _=> ?_
  have hext:(C5 L++[(code.length:Int)]).length=ys.length+1:=by simp;omega
  have hpos:∀q∈C5 L++[(code.length:Int)],0≤q:=fun q hq=>by
   rcases List.mem_append.1 hq with hq|hq
   ·obtain⟨x,_,rfl⟩:=List.mem_map.1 hq;omega
   ·rw[List.mem_singleton.1 hq];omega
  have hz:ys≠[]→(C5 L++[(code.length:Int)]).getD 0 0=0:=fun hne=>h00 hne _
  generalize C5 L++[(code.length:Int)]=ext at*
  refine N6.new fun k T2 hk hm hs2=> ?_
  refine hm.put fun ts T3 hks hm3 hs3=> ?_
  have hkS:S k=none:=b5.none_of l1 hk
  have l3:S.le T3:=fun j o hj=>by
   have hne:j≠k:=fun e=>by rw[e,hkS]at hj;cases hj
   rw[hs3 j hne,hs2 j hne];exact l1 _ _ hj
  rw[a8K,oD]
  refine d1t hext (by omega) harm hm3 hkS l3 (fun n=>by rw[hks];simp) fun ts' T4 hks4 hm4 l4=> ?_
  have h1:=a4m harm ext ys.length
  refine hm4.range fun j T5 hj hw hs5=> ?_
  have hjS:S j=none:=b5.none_of l4 hj
  have l5:S.le T5:=fun i o hi=>by
   rw[hs5 i (fun e=>by rw[e,hjS]at hi;cases hi) (fun e=>by rw[e,hkS]at hi;cases hi)];exact l4 _ _ hi
  have hlen:ts'.length≤(l7 ys ext ys.length).length:=by
   have:=a5E hm4.keys (l2:=l7 ys ext ys.length) fun a ha=>(hks4 a).1 ha
   simpa using this
  refine d1m hw hjS l5 hm4.keys hm4.stamps hks4 (by simp[l7]) (by omega) fun k' acs T6 hk' hT6 l6=> ?_
  refine c0T hT6 (.inl (show 1<H3 by decide)) ?_
  have hrl:=c4K (l7 ys ext ys.length)
  have hfz:a0W k' ⟨1,iC (X8 (l7 ys ext ys.length)),acs⟩ [bD code,iD ext, .raw k' 0 (X8 (l7 ys ext ys.length)).length (X8 (l7 ys ext ys.length)).length false 1, .nilSlc,H6 ys, .int .i64 (ys.length:Int),(.int .i64 0)]=[bD code,iD ext,iD (X8 (l7 ys ext ys.length)), .nilSlc,H6 ys, .int .i64 (ys.length:Int),(.int .i64 0)]:=by
   simp only[a0W]
   rw[c4T (by rw[m8];omega) (Nat.le_refl _),List.drop_zero,List.take_of_length_le (by rw[m8];exact Nat.le_refl _)]
   rfl
  rw[hfz]
  refine hend (fun hne=> ?_) (by omega) hext (by omega) harm _ (b5.le_erase l6 hk')
  rw[hz hne]
  exact b8K (by simp[l7]) (a7v hsi hpos _)
theorem a6o{code:List Int}{L:List (Dat×Nat)}(h:a5v code= .ok L):z6 code=Z9 code.length (s6 (t8 L) (C5 L++[(code.length:Int)]) (X8 (l7 (t8 L) (C5 L++[(code.length:Int)]) (t8 L).length)) (t8 L).length):=by unfold z6;rw[h]
theorem b1y{code:List Int}(hb:∀b∈code,J0 b)(hl:code.length<2^20):U2 Try.prog E w0 O9 [bD code] (ofD (z6 code)):=fun S=>by
 refine a9N hb hl (fun e T h hle=> ?_) fun L h h0 h1 h2 h3 h4 T hle=> ?_
 ·refine b9.less hle (b9.weak (d':=ofD ([],e)) (Wk.tup ⟨Wk.nil 3,Wk.refl _,trivial⟩) (b9.here ⟨?_,rfl⟩))
  unfold z6;rw[h]
 ·rw[a6o h]
  exact d1c h0 h1 h2 h3 h4 hle
end
end Go.Proofs.Ytdkidgkiplcggaa.d
end
section
namespace Go.Am
def prs(ts:List (Int×Int×Nat)):List (Int×Int):=ts.map fun t=>(t.1,t.2.1)
theorem N6.lookV{S:b5}{k:Nat}{ts:List (Int×Int×Nat)}(h:N6 S k ts)(q:Int)(ok:Bool):
  (∃v:Int,(q,v)∈prs ts∧a7O S 0 (.int .i64 0) ok (.mp k) (.int .i64 q)=some (if ok then .tup [.int .i64 v, .bool true]else .int .i64 v))∨
  ((∀v,(q,v) ∉ prs ts)∧a7O S 0 (.int .i64 0) ok (.mp k) (.int .i64 q)=some (if ok then .tup [.int .i64 0, .bool false]else .int .i64 0)):=by
 obtain⟨acs,hS⟩:=h.has
 simp only[a7O,b1N,c3D,hS,a8x,beq_self_eq_true,if_true]
 rcases a3I q ts 0 with ⟨h1,h2⟩|⟨j,t,h1,h2,h3⟩
 ·refine .inr ⟨fun v hv=>h1 ?_,by rw[h2];rfl⟩
  obtain⟨t,ht,e⟩:=List.mem_map.1 hv
  simp only[Prod.mk.injEq]at e
  exact List.mem_map.2 ⟨t,ht,e.1⟩
 ·refine .inl ⟨t.2.1,List.mem_map.2 ⟨t,List.mem_of_getElem? h1,by rw[h2]⟩,by rw[h3];rfl⟩
theorem c8z{ts:List (Int×Int×Nat)}(h:(ts.map (·.1)).Nodup){q v v':Int}(h1:(q,v)∈prs ts)(h2:(q,v')∈prs ts):v=v':=by
 obtain⟨t,ht,e⟩:=List.mem_map.1 h1
 obtain⟨t',ht',e'⟩:=List.mem_map.1 h2
 simp only[Prod.mk.injEq]at e e'
 have:=a8t (f:=fun t:Int×Int×Nat=>t.1) h ht ht' (by rw[e.1,e'.1])
 subst this
 rw[←e.2, ←e'.2]
theorem N6.putV{S:b5}{k:Nat}{ts:List (Int×Int×Nat)}(h:N6 S k ts){q v:Int}{K:D→b5→Prop}
  (hK:∀ts' S',(∀n x,(n,x)∈prs ts'↔(n=q∧x=v)∨(n≠q∧(n,x)∈prs ts))→N6 S' k ts'→(∀j,j≠k→S' j=S j)→K b6 S'):b4t S 0 (.mp k) (.int .i64 q) (.int .i64 v) K:=by
 obtain⟨acs,hS⟩:=h.has
 simp only[b4t,b1N,hS,a8x,beq_self_eq_true,if_true]
 rcases a3I q ts 0 with ⟨h1,h2⟩|⟨j,t,h1,h2,h3⟩
 ·rw[h2]
  intro n acs' hn
  refine hK (ts++[(q,v,n)]) _ (fun m x=> ?_) ⟨⟨acs',by rw[b5.set_same,List.map_append];rfl⟩, ?_, ?_⟩ fun j hj=>b5.set_ne _ _ _ hj
  ·unfold prs
   rw[List.map_append,List.mem_append]
   simp only[List.map_cons,List.map_nil,List.mem_singleton,Prod.mk.injEq]
   constructor
   ·rintro(h|h)
    ·refine .inr ⟨fun e=>h1 ?_,h⟩
     obtain⟨t,ht,e'⟩:=List.mem_map.1 h
     simp only[Prod.mk.injEq]at e'
     exact List.mem_map.2 ⟨t,ht,by rw[e'.1,e]⟩
    ·exact .inl h
   ·rintro(h|h)
    ·exact .inr h
    ·exact .inl h.2
  ·rw[List.map_append,List.nodup_append]
   exact⟨h.keys,by simp,fun a ha b hb=>by simp at hb;subst hb;exact fun e=>h1 (by rw[←e];exact ha)⟩
  ·rw[List.map_append,List.nodup_append]
   refine⟨h.stamps,by simp,fun a ha b hb=> ?_⟩
   simp at hb
   subst hb
   rintro rfl
   obtain⟨t,ht,e⟩:=List.mem_map.1 ha
   exact hn (b4N t) (List.mem_map.2 ⟨t,ht,rfl⟩) (by simp[b4N,e])
 ·rw[h3]
  intro acs'
  have hj:j<ts.length:=(List.getElem?_eq_some_iff.1 h1).1
  have e0:∀ {α:Type} (f:Int×Int×Nat→α),f (q,v,t.2.2)=f t→(ts.set j (q,v,t.2.2)).map f=ts.map f:=fun f hf=>by
   rw[List.map_set,hf]
   apply List.ext_getElem?
   intro i
   rw[List.getElem?_set]
   split
   ·rename_i e
    subst e
    rw[List.length_map,if_pos hj,List.getElem?_map,h1];rfl
   ·rfl
  have k1:=e0 (·.1) h2.symm
  have k2:=e0 (·.2.2) rfl
  have hkn:((ts.set j (q,v,t.2.2)).map (·.1)).Nodup:=by rw[k1];exact h.keys
  refine hK (ts.set j (q,v,t.2.2)) _ (fun n x=> ?_) ⟨⟨acs', ?_⟩,hkn,by rw[k2];exact h.stamps⟩ fun j hj=>b5.set_ne _ _ _ hj
  ·have hq:(q,v)∈prs (ts.set j (q,v,t.2.2)):=List.mem_map.2 ⟨_,List.mem_set hj _,rfl⟩
   constructor
   ·intro hm
    by_cases hn:n=q
    ·subst hn;exact .inl ⟨rfl,c8z hkn hm hq⟩
    ·refine .inr ⟨hn, ?_⟩
     obtain⟨t',ht',e⟩:=List.mem_map.1 hm
     rcases List.mem_or_eq_of_mem_set ht' with ht'|rfl
     ·exact List.mem_map.2 ⟨t',ht',e⟩
     ·simp only[Prod.mk.injEq]at e;exact absurd e.1.symm hn
   ·rintro(⟨rfl,rfl⟩|⟨hn,hm⟩)
    ·exact hq
    ·obtain⟨t',ht',e⟩:=List.mem_map.1 hm
     simp only[Prod.mk.injEq]at e
     obtain⟨i,hi⟩:=List.getElem?_of_mem ht'
     have hij:j≠i:=fun e'=>by
      subst e'
      rw[h1]at hi
      cases hi
      exact hn (by rw[←e.1,h2])
     refine List.mem_map.2 ⟨t',List.mem_of_getElem? (i:=i) ?_,by rw[e.1,e.2]⟩
     rw[List.getElem?_set,if_neg hij];exact hi
  ·rw[b5.set_same,List.map_set,Nat.zero_add];rfl
end Go.Am
end
section
open Go.Proofs Go Go.Am Go.Op
namespace Go.Proofs.Ytdkidgkiplcggaa.d
section
set_option linter.unusedSectionVars false
def D2(l:List L9)(n:Int):Option Nat:=l.findIdx? fun b=>decide (b.at'=n)
theorem a2P(b:L9)(l:List L9)(n:Int):D2 (b::l) n=if b.at'=n then some 0 else(D2 l n).map (· +1):=by
 unfold D2
 rw[List.findIdx?_cons]
 by_cases h:b.at'=n
 ·rw[if_pos h,decide_eq_true h];rfl
 ·rw[if_neg h,decide_eq_false h];rfl
theorem a1d{l:List L9}{i:Nat}{b:L9}(h:l[i]? =some b):j5 3 (I3 l) (.int .i64 (i:Int))=some (.elt (D5 b) 0):=b9u (by rw[List.getElem?_map,h];rfl)
theorem a2X(l:List L9):j9 (I3 l)=some (.int .i64 l.length):=by simp[I3]
def AtM(l:List L9)(ts:List (Int×Int×Nat))(i:Nat):Prop:=∀n x,(n,x)∈prs ts↔ ∃j,D2 (l.drop i) n=some j∧x=((i+j:Nat):Int)
section
variable{E:g8}{w0:j0}
theorem d1d{l:List L9}(hl:l.length<2^40){k:Nat}{Q:D→b5→Prop}{S0 S:b5}(hm:N6 S k [])(hk0:S0 k=none)(hle:S0.le S)
  (hend:∀ts S',N6 S' k ts→AtM l ts 0→S0.le S'→b7l S' fun v11 S12=>b4 (j9 (I3 l)) fun v55=>b4 (d5 .gtr v55 (.int .i64 0)) fun v56=>i5 v56
   (C7 S12 1 (o7 1 (List.replicate 1 [(.int .i64 0)]) [(0,(.int .i64 0))]) 1 fun v57 S58=>G5 E w0 Q (I3 l) (.mp k) v11 v57 S58)
   (G5 E w0 Q (I3 l) (.mp k) v11 .nilSlc S12)):
  f9 Try.prog E w0 (.loop Y3) (i7 79 [0,3,4] [I3 l, .mp k, .int .i64 ((l.length:Int) - 1)]) S (Y7 E w0 Q):=by
 refine a9f (I:=fun n x0 x3 x4 T=>x0=I3 l∧x3= .mp k∧x4= .int .i64 ((n:Int) - 1)∧n≤l.length∧∃ts,N6 T k ts∧AtM l ts n∧S0.le T) ?_ (n:=l.length)
  ⟨rfl,rfl,rfl,Nat.le_refl _,[],hm,fun n x=>by simp[prs,D2],hle⟩
 rintro n _ _ _ T ⟨rfl,rfl,rfl,hn,ts,hm,ha,hle⟩
 unfold a1E
 rw[c1u,oD,V7]
 refine⟨fun hge=> ?_,fun hlt=> ?_⟩
 ·obtain⟨i,rfl⟩:∃i,n=i+1:=⟨n - 1,by omega⟩
  have e1:((i+1:Nat):Int) - 1=(i:Int):=by omega
  rw[e1]
  have hb:l[i]? =some l[i]:=List.getElem?_eq_getElem (by omega)
  have hd:l.drop i=l[i]::l.drop (i+1):=List.drop_eq_getElem_cons (by omega)
  generalize l[i]=b at hb hd
  rw[a1d hb,oD,ofE,oD,lsE,show(D5 b)[0+0]? =some (.int .i64 b.at') from rfl,oD]
  refine hm.putV fun ts' S' hp hm' hs'=> ?_
  rw[a0M,oD,i6 (by omega) (by omega)]
  refine⟨i,by omega,rfl,rfl,rfl,by omega,ts',hm',fun q x=> ?_,fun j o hj=>by rw[hs' j (fun e=>by rw[e,hk0]at hj;cases hj)];exact hle _ _ hj⟩
  rw[hp,hd,a2P]
  by_cases hq:b.at'=q
  ·rw[if_pos hq]
   constructor
   ·rintro(⟨_,rfl⟩|⟨h,_⟩)
    ·exact⟨0,rfl,rfl⟩
    ·exact absurd hq.symm h
   ·rintro⟨j,hj,rfl⟩
    cases hj
    exact .inl ⟨hq.symm,rfl⟩
  ·rw[if_neg hq]
   constructor
   ·rintro(⟨h,_⟩|⟨_,h⟩)
    ·exact absurd h.symm hq
    ·obtain⟨j,hj,rfl⟩:=(ha q x).1 h
     exact⟨j+1,by rw[hj];rfl,by omega⟩
   ·rintro⟨j,hj,rfl⟩
    refine .inr ⟨fun h=>hq h.symm,(ha q _).2 ?_⟩
    cases hf:D2 (l.drop (i+1)) q with
    |none=>rw[hf]at hj;cases hj
    |some j'=>rw[hf]at hj;cases hj;exact⟨j',rfl,by show((i+(j'+1):Nat):Int)=((i+1+j':Nat):Int);omega⟩
 ·have:n=0:=by omega
  subst this
  exact hend ts T hm ha hle
end
end
section
set_option linter.unusedSectionVars false
theorem c9d{S0 T:b5}{av:List Nat}{d:D}{l:List Int}(h:Sl S0 av d l T){n:Nat}(hn:n≤l.length):∃d',V2 1 d none (some (.int .i64 (n:Int))) none=some d'∧ob d'=ob d∧Sl S0 av d' (l.take n) T:=by
 rcases h with ⟨rfl,rfl⟩|⟨k,cap,ex,rows,acs,h0,h1,rfl,h2,h3,h4⟩
 ·have:n=0:=by simpa using hn
  subst this
  exact⟨.nilSlc,rfl,rfl, .inl ⟨rfl,rfl⟩⟩
 ·have hnl:(l.take n).length=n:=by rw[List.length_take];omega
  refine⟨.raw k (0+0) (n - 0) (cap - 0) (ex||false) 1, ?_,rfl, .inr ⟨k,cap,ex||false,rows,acs,h0,h1,by rw[hnl];rfl,h2, ?_,by rw[hnl];omega⟩⟩
  ·simp only[V2,G4,b7E,a6Q,b2Q,if_true,Option.bind_some,c7O (show n≤cap by omega),Option.map_some,Option.isSome_none]
  ·rw[hnl]
   have:=congrArg (List.take n) h3
   rw[List.take_take,Nat.min_eq_left hn]at this
   rw[this]
   simp[iC,J5,List.map_take]
def a0e(l:List L9)(ns:List Int):List Int:=(ns.filterMap (D2 l)).map fun i:Nat=>(i:Int)
theorem b7i(l:List L9)(ns:List Int):(a0e l ns).length≤ns.length:=by
 unfold a0e
 rw[List.length_map]
 exact List.length_filterMap_le _ _
section
variable{E:g8}{w0:j0}
theorem d1A{l:List L9}{k k2:Nat}{ts:List (Int×Int×Nat)}(ha:AtM l ts 0){next todo:List Int}(hnl:next.length<2^38)(htl:todo.length<2^39){N1:D→D→D→D→b5→Prop}{Q:D→b5→Prop}{S0 S:b5}(hm:N6 S k ts)(hk2:S k2≠none){x6:D}(ht:Sl S0 [k,k2] x6 todo S)(hle:S0.le S)
  (hN:∀d' S',Sl S0 [k,k2] d' (todo++a0e l next) S'→S0.le S'→S' k=S k→S' k2=S k2→N1 (I3 l) (.mp k) (.mp k2) d' S'):
  f9 Try.prog E w0 (.loop Y2) (i7 79 [0,3,5,6,58,59,60] [I3 l, .mp k, .mp k2,x6,iD next, .int .i64 (next.length:Int),(.int .i64 0)]) S (Z7 E w0 N1 Q):=by
 refine a9n (I:=fun n x0 x3 x5 x6 x58 x59 x60 T=>x0=I3 l∧x3= .mp k∧x5= .mp k2∧x58=iD next∧x59= .int .i64 (next.length:Int)∧∃j:Nat,x60= .int .i64 (j:Int)∧j+n=next.length∧Sl S0 [k,k2] x6 (todo++a0e l (next.take j)) T∧S0.le T∧T k=S k∧T k2=S k2) ?_ (n:=next.length)
  ⟨rfl,rfl,rfl,rfl,rfl,0,rfl,by omega,by simpa [a0e]using ht,hle,rfl,rfl⟩
 rintro n _ _ _ x6 _ _ _ T ⟨rfl,rfl,rfl,rfl,rfl,j,rfl,hj,hs,hle,e1,e2⟩
 unfold a1A
 rw[M7,oD,V7]
 refine⟨fun hlt=> ?_,fun hge=> ?_⟩
 ·have hlt:j<next.length:=by omega
  have hq:next[j]? =some next[j]:=List.getElem?_eq_getElem hlt
  generalize next[j]=q at hq
  have hm':N6 T k ts:=hm.of e1
  rw[a0y hq,oD,lsE,List.getElem?_cons_zero,oD]
  rcases hm'.lookV q true with ⟨v,hv,h1⟩|⟨hv,h1⟩
  ·obtain⟨i,hi,rfl⟩:=(ha q v).1 hv
   rw[List.drop_zero]at hi
   have hn:a0e l (next.take (j+1))=a0e l (next.take j)++[((0+i:Nat):Int)]:=by
    unfold a0e
    rw[List.take_add_one,hq,List.filterMap_append,List.map_append]
    simp[hi]
   rw[h1]
   simp only[if_true,exD,List.getElem?_cons_zero,List.getElem?_cons_succ,oD,cdT]
   rw[show o7 1 (List.replicate 1 [D.int .i64 0]) [(0, .int .i64 ((0+i:Nat):Int))]=some (iC [((0+i:Nat):Int)]) from rfl]
   refine E8 rfl ?_
   have hlen:=b7i l (next.take j)
   rw[List.length_take]at hlen
   refine hs.push hle (fun x hx=> ?_) (news:=[((0+i:Nat):Int)]) (by simp[rowsS,C1]) (by rw[List.length_append,List.length_singleton];omega) fun d' T' hle' hav hs'=> ?_
   ·rcases List.mem_cons.1 hx with rfl|hx
    ·rw[e1];exact hm.there
    ·rw[List.mem_singleton.1 hx,e2];exact hk2
   ·rw[C4,oD,i6 (by omega) (by omega)]
    refine⟨n - 1,by omega,by trivial,by trivial,by trivial,by trivial,by trivial,j+1,by trivial,by omega, ?_,hle',by rw[hav k (by simp),e1],by rw[hav k2 (by simp),e2]⟩
    rw[hn, ←List.append_assoc];exact hs'
  ·have hn:a0e l (next.take (j+1))=a0e l (next.take j):=by
    have:D2 l q=none:=by
     cases hf:D2 l q with
     |none=>rfl
     |some i=>exact absurd ((ha q _).2 ⟨i,by rw[List.drop_zero];exact hf,rfl⟩) (hv _)
    unfold a0e
    rw[List.take_add_one,hq,List.filterMap_append,List.map_append]
    simp[this]
   rw[h1]
   simp only[if_true,exD,List.getElem?_cons_zero,List.getElem?_cons_succ,oD,cdF,C4]
   rw[i6 (by omega) (by omega)]
   exact⟨n - 1,by omega,by trivial,by trivial,by trivial,by trivial,by trivial,j+1,by trivial,by omega,by rw[hn];exact hs,hle,e1,e2⟩
 ·rw[List.take_of_length_le (by omega)]at hs
  exact hN _ T hs hle e1 e2
end
end
section
set_option linter.unusedSectionVars false
inductive a9m (l:List L9):Int→Prop
 |base {b:L9}:l[0]? =some b→a9m l b.at'
 |step {a n:Int} {i:Nat} {b:L9}:a9m l a→D2 l a=some i→l[i]? =some b→n∈b.next→(D2 l n).isSome=true→a9m l n
def wgt(p:Int→Bool):List L9→Nat
 | []=>0
 |b::l=>(if p b.at' then b.next.length+1 else 0)+wgt p l
theorem c3F{p p':Int→Bool}(h:∀a,p' a=true→p a=true):∀l:List L9,wgt p' l≤wgt p l
 | []=>Nat.le_refl _
 |b::l=>by
  have:=c3F h l
  simp only[wgt]
  by_cases h1:p' b.at'=true
  ·rw[if_pos h1,if_pos (h _ h1)];omega
  ·rw[if_neg h1];split<;>omega
theorem c2e{p p':Int→Bool}(h:∀a,p' a=true→p a=true){b:L9}(h1:p b.at'=true)(h2:p' b.at'=false):∀ {l:List L9},b∈l→wgt p' l+(b.next.length+1)≤wgt p l
 | [],hb=>by cases hb
 |c::l,hb=>by
  simp only[wgt]
  rcases List.mem_cons.1 hb with rfl|hb
  ·have:=c3F h l
   rw[if_pos h1,h2]
   simp only[Bool.false_eq_true,if_false]
   omega
  ·have:=c2e h h1 h2 hb
   by_cases h3:p' c.at'=true
   ·rw[if_pos h3,if_pos (h _ h3)];omega
   ·rw[if_neg h3];split<;>omega
theorem a2S{l:List L9}{n:Int}{i:Nat}(h:D2 l n=some i):∃b,l[i]? =some b∧b.at'=n:=by
 unfold D2 at h
 rw[List.findIdx?_eq_some_iff_getElem]at h
 obtain⟨hi,he,_⟩:=h
 exact⟨l[i],List.getElem?_eq_getElem hi,by simpa using he⟩
structure b7k (l:List L9) (todo:List Int) (ts:List (Int×Int×Nat)):Prop where
 one:∀n x,(n,x)∈prs ts→x=1∧a9m l n
 num:∀t∈todo,∃(i:Nat) (b:L9),t=(i:Int)∧l[i]? =some b∧D2 l b.at'=some i∧a9m l b.at'
 nxt:∀a i b n i',(a,(1:Int))∈prs ts→D2 l a=some i→l[i]? =some b→n∈b.next→D2 l n=some i'→(n,(1:Int))∈prs ts∨(i':Int)∈todo
 bas:∀b,l[0]? =some b→(b.at',(1:Int))∈prs ts∨(0:Int)∈todo
theorem b7k.done{l:List L9}{ts:List (Int×Int×Nat)}(h:b7k l [] ts)(n:Int):n∈ts.map (·.1)↔a9m l n:=by
 have key:∀n,n∈ts.map (·.1)↔(n,(1:Int))∈prs ts:=fun n=>by
  constructor
  ·intro hm
   obtain⟨t,ht,rfl⟩:=List.mem_map.1 hm
   have hp:(t.1,t.2.1)∈prs ts:=List.mem_map.2 ⟨t,ht,rfl⟩
   rw[(h.one _ _ hp).1]at hp
   exact hp
  ·intro hm
   obtain⟨t,ht,e⟩:=List.mem_map.1 hm
   simp only[Prod.mk.injEq]at e
   exact List.mem_map.2 ⟨t,ht,e.1⟩
 rw[key]
 constructor
 ·exact fun hm=>(h.one _ _ hm).2
 ·intro hr
  induction hr with
  |base hb=>
   rcases h.bas _ hb with h1|h1
   ·exact h1
   ·cases h1
  |step hr hf hb hn hs ih=>
   obtain⟨i',hi'⟩:=Option.isSome_iff_exists.1 hs
   rcases h.nxt _ _ _ _ i' ih hf hb hn hi' with h1|h1
   ·exact h1
   ·cases h1
theorem b7k.skip{l:List L9}{todo:List Int}{ts:List (Int×Int×Nat)}{i:Nat}{b:L9}(h:b7k l (todo++[(i:Int)]) ts)(hb:l[i]? =some b)(hf:D2 l b.at'=some i)(hseen:(b.at',(1:Int))∈prs ts):b7k l todo ts:=by
 have back:∀n i',D2 l n=some i'→(i':Int)∈todo++[(i:Int)]→(n,(1:Int))∈prs ts∨(i':Int)∈todo:=fun n i' hn hm=>by
  rcases List.mem_append.1 hm with hm|hm
  ·exact .inr hm
  ·have:i'=i:=by rw[List.mem_singleton]at hm;omega
   subst this
   obtain⟨b',hb',e⟩:=a2S hn
   rw[hb]at hb';cases hb'
   rw[←e];exact .inl hseen
 refine⟨h.one,fun t ht=>h.num t (List.mem_append_left _ ht),fun a i1 b1 n i' h1 h2 h3 h4 h5=> ?_,fun b0 h0=> ?_⟩
 ·rcases h.nxt a i1 b1 n i' h1 h2 h3 h4 h5 with g|g
  ·exact .inl g
  ·exact back n i' h5 g
 ·rcases h.bas b0 h0 with g|g
  ·exact .inl g
  ·have h00:D2 l b0.at'=some 0:=by
    cases l with
    |nil=>cases h0
    |cons c l=>simp at h0;subst h0;rw[a2P,if_pos rfl]
   exact back _ 0 h00 g
theorem b7k.take{l:List L9}{todo:List Int}{ts ts':List (Int×Int×Nat)}{i:Nat}{b:L9}(h:b7k l (todo++[(i:Int)]) ts)(hb:l[i]? =some b)(hf:D2 l b.at'=some i)(hr:a9m l b.at')(hp:∀n x,(n,x)∈prs ts'↔(n=b.at'∧x=1)∨(n≠b.at'∧(n,x)∈prs ts)):b7k l (todo++a0e l b.next) ts':=by
 have b5M:∀n,(n,(1:Int))∈prs ts→(n,(1:Int))∈prs ts':=fun n hn=>by
  rw[hp]
  by_cases e:n=b.at'
  ·exact .inl ⟨e,rfl⟩
  ·exact .inr ⟨e,hn⟩
 have back:∀n i',D2 l n=some i'→(i':Int)∈todo++[(i:Int)]→(n,(1:Int))∈prs ts'∨(i':Int)∈todo++a0e l b.next:=fun n i' hn hm=>by
  rcases List.mem_append.1 hm with hm|hm
  ·exact .inr (List.mem_append_left _ hm)
  ·have:i'=i:=by rw[List.mem_singleton]at hm;omega
   subst this
   obtain⟨b',hb',e⟩:=a2S hn
   rw[hb]at hb';cases hb'
   exact .inl ((hp _ _).2 (.inl ⟨e.symm,rfl⟩))
 refine⟨fun n x hn=> ?_,fun t ht=> ?_,fun a i1 b1 n i' h1 h2 h3 h4 h5=> ?_,fun b0 h0=> ?_⟩
 ·rcases(hp n x).1 hn with ⟨rfl,rfl⟩|⟨_,hn⟩
  ·exact⟨rfl,hr⟩
  ·exact h.one n x hn
 ·rcases List.mem_append.1 ht with ht|ht
  ·exact h.num t (List.mem_append_left _ ht)
  ·unfold a0e at ht
   obtain⟨j,hj,rfl⟩:=List.mem_map.1 ht
   obtain⟨n,hn,hfn⟩:=List.mem_filterMap.1 hj
   obtain⟨c,hc,e⟩:=a2S hfn
   subst e
   exact⟨j,c,rfl,hc,hfn, .step hr hf hb hn (by rw[hfn];rfl)⟩
 ·rcases(hp a 1).1 h1 with ⟨rfl,_⟩|⟨_,h1⟩
  ·rw[hf]at h2;cases h2
   rw[hb]at h3;cases h3
   exact .inr (List.mem_append_right _ (List.mem_map.2 ⟨i',List.mem_filterMap.2 ⟨n,h4,h5⟩,rfl⟩))
  ·rcases h.nxt a i1 b1 n i' h1 h2 h3 h4 h5 with g|g
   ·exact .inl (b5M n g)
   ·exact back n i' h5 g
 ·rcases h.bas b0 h0 with g|g
  ·exact .inl (b5M _ g)
  ·have h00:D2 l b0.at'=some 0:=by
    cases l with
    |nil=>cases h0
    |cons c l=>simp at h0;subst h0;rw[a2P,if_pos rfl]
   exact back _ 0 h00 g
end
section
set_option linter.unusedSectionVars false
def a3h(ts:List (Int×Int×Nat))(a:Int):Bool:=decide (a ∉ ts.map (·.1))
theorem b9V{ts:List (Int×Int×Nat)}{n:Int}:n∈ts.map (·.1)↔ ∃x,(n,x)∈prs ts:=by
 constructor
 ·intro h
  obtain⟨t,ht,rfl⟩:=List.mem_map.1 h
  exact⟨t.2.1,List.mem_map.2 ⟨t,ht,rfl⟩⟩
 ·rintro⟨x,h⟩
  obtain⟨t,ht,e⟩:=List.mem_map.1 h
  simp only[Prod.mk.injEq]at e
  exact List.mem_map.2 ⟨t,ht,e.1⟩
section
variable{E:g8}{w0:j0}
theorem d1h{l:List L9}(hl:l.length<2^37)(hW:wgt (fun _=>true) l<2^37)(hnx:∀b∈l,b.next.length<2^37){k k2:Nat}{ts ts2:List (Int×Int×Nat)}(ha:AtM l ts 0){Q:D→b5→Prop}{S0 S:b5}(hm:N6 S k ts)(hm2:N6 S k2 ts2)(hk0:S0 k=none)(hk20:S0 k2=none)(hkk:k≠k2){x6:D}{todo:List Int}(ht:Sl S0 [k,k2] x6 todo S)(htl:todo.length≤1)(hle:S0.le S)(hI:b7k l todo ts2)
  (hend:∀ts2 S',N6 S' k2 ts2→(∀n,n∈ts2.map (·.1)↔a9m l n)→S0.le S'→V6 E w0 Q (.mp k2) S'):
  f9 Try.prog E w0 (.loop Z0) (i7 79 [0,3,5,6] [I3 l, .mp k, .mp k2,x6]) S (Z8 E w0 Q):=by
 refine a9o (I:=fun n x0 x3 x5 x6 T=>x0=I3 l∧x3= .mp k∧x5= .mp k2∧n<2^38∧∃todo ts2,n=todo.length+wgt (a3h ts2) l∧Sl S0 [k,k2] x6 todo T∧N6 T k ts∧N6 T k2 ts2∧S0.le T∧b7k l todo ts2) ?_ (n:=todo.length+wgt (a3h ts2) l)
  ⟨rfl,rfl,rfl,by have:=c3F (p:=fun _=>true) (p':=a3h ts2) (fun _ _=>rfl) l;omega,todo,ts2,rfl,ht,hm,hm2,hle,hI⟩
 rintro n _ _ _ x6 T ⟨rfl,rfl,rfl,hn38,todo,ts2,hn,ht,hm,hm2,hle,hI⟩
 unfold a1y
 rw[ht.len,oD,a8g,oD,V7]
 refine⟨fun hgt=> ?_,fun hng=> ?_⟩
 case refine_2=>
  have:todo=[]:=List.length_eq_zero_iff.1 (by omega)
  subst this
  exact hend ts2 T hm2 hI.done hle
 obtain⟨td,t,rfl⟩:∃td t,todo=td++[t]:=by
  have hne:todo≠[]:=fun e=>by rw[e]at hgt;simp at hgt
  exact⟨_,_,(List.dropLast_concat_getLast hne).symm⟩
 obtain⟨i,b,rfl,hb,hf,hr⟩:=hI.num t (by simp)
 have hbm:=List.mem_of_getElem? hb
 have tln:(td++[(i:Int)]).length=td.length+1:=by simp
 have hlen:(((td++[(i:Int)]).length:Nat):Int) - 1=(td.length:Int):=by simp
 have hwr:IntKind.i64.wrap ((((td++[(i:Int)]).length:Nat):Int) - 1)=(td.length:Int):=by
  rw[i6 (by rw[tln];omega) (by rw[tln];omega),hlen]
 obtain⟨p,p1,p2⟩:=ht.rd.2 td.length (i:Int) (by simp)
 rw[oD,a0M,oD,hwr,p1,oD,p2,oD,a1d hb,oD,laE,if_pos ⟨by decide,by simp[D5]⟩,oD]
 intro ka a na
 refine(D3.new (sz:=3) (c:=[.int .i64 0, .int .i64 0, .nilSlc])).st (ds:=D5 b) (clA _) ⟨rfl,by decide,by simp[D5]⟩ fun c=> ?_
 rw[b5.set_set,show j4 [D.int .i64 0, .int .i64 0, .nilSlc] 0 (D5 b)=D5 b from rfl]
 have ca:D3 (T.set ka ⟨3,[D5 b],c⟩) ka 3 (D5 b):=D3.new
 have l1:S0.le (T.set ka ⟨3,[D5 b],c⟩):=b5.le_trans hle (b5.le_new na)
 have nk:k≠ka:=fun e=>hm.there (by rw[e];exact na)
 have nk2:k2≠ka:=fun e=>hm2.there (by rw[e];exact na)
 have hm:=hm.of (S':=T.set ka ⟨3,[D5 b],c⟩) (b5.set_ne _ _ _ nk)
 have hm2:=hm2.of (S':=T.set ka ⟨3,[D5 b],c⟩) (b5.set_ne _ _ _ nk2)
 have hka0:S0 ka=none:=b5.none_of hle na
 have ht:=ht.of (T':=T.set ka ⟨3,[D5 b],c⟩) fun j hj=>b5.set_ne _ _ _ fun e=>ht.ob_some j hj (by rw[e];exact na)
 generalize (T.set ka ⟨3,[D5 b],c⟩)=T1 at ca l1 hm hm2 ht
 obtain⟨d',d1,d2,d3⟩:=c9d ht (n:=td.length) (by simp)
 rw[List.take_left' rfl]at d3
 have q0:d9 T1 (.ptr ka 0)=some (.int .i64 b.at'):=ca.ld 0
 rw[tln]at hn
 rw[oD,a0M,oD,hwr,d1,oD,ofP,oD,q0,oD]
 rcases hm2.lookV b.at' false with ⟨v,hv,h1⟩|⟨hv,h1⟩
 ·have hv1:=(hI.one _ _ hv).1
  subst hv1
  rw[h1]
  simp only[Bool.false_eq_true,if_false,oD,a8g]
  rw[show decide ((1:Int)>0)=true from rfl,cdT]
  exact⟨n - 1,by omega,by trivial,by trivial,by trivial,by omega,td,ts2,by omega,d3,hm,hm2,l1,hI.skip hb hf hv⟩
 ·rw[h1]
  simp only[Bool.false_eq_true,if_false,oD,a8g]
  rw[show decide ((0:Int)>0)=false from rfl,cdF]
  simp only[ofP,Nat.zero_add,oD,q0]
  refine hm2.putV fun ts3 T3 hp hm3 hs3=> ?_
  have ca3:D3 T3 ka 3 (D5 b):=ca.of (hs3 ka (Ne.symm nk2))
  have q2:d9 T3 (.ptr ka 2)=some (iD b.next):=ca3.ld 2
  have l3:S0.le T3:=fun j o hj=>by rw[hs3 j (fun e=>by rw[e,hk20]at hj;cases hj)];exact l1 _ _ hj
  have hsl:Sl S0 [k,k2] d' td T3:=d3.of fun j hj=>hs3 j fun e=>by have:=(d3.ob_none j hj).2;rw[e]at this;simp at this
  simp only[ofP,Nat.zero_add,oD,q2,a1I]
  have hnl:=hnx b hbm
  refine d1A ha (by omega) (by omega) (hm.of (hs3 k hkk)) hm3.there hsl l3 fun d2 T4 hs4 l4 e4 e42=> ?_
  have hun:a3h ts2 b.at'=true:=by
   unfold a3h
   rw[decide_eq_true_eq,b9V]
   rintro⟨x,hx⟩
   exact hv x hx
  have hseen:a3h ts3 b.at'=false:=by
   unfold a3h
   rw[decide_eq_false_iff_not,Classical.not_not,b9V]
   exact⟨1,(hp _ _).2 (.inl ⟨rfl,rfl⟩)⟩
  have hmono:∀a,a3h ts3 a=true→a3h ts2 a=true:=fun a h=>by
   unfold a3h at h ⊢
   rw[decide_eq_true_eq,b9V]at h ⊢
   rintro⟨x,hx⟩
   by_cases e:a=b.at'
   ·exact h ⟨1,(hp _ _).2 (.inl ⟨e,rfl⟩)⟩
   ·exact h ⟨x,(hp _ _).2 (.inr ⟨e,hx⟩)⟩
  have hd:=c2e hmono hun hseen hbm
  have hnm:=b7i l b.next
  refine⟨(td++a0e l b.next).length+wgt (a3h ts3) l,by rw[List.length_append];omega,rfl,rfl,rfl,by rw[List.length_append];omega,td++a0e l b.next,ts3,rfl,hs4,(hm.of (hs3 k hkk)).of e4,hm3.of e42,l4,hI.take hb hf hr hp⟩
end
end
end Go.Proofs.Ytdkidgkiplcggaa.d
end
section
namespace Go.Am
open Go.Sort
section
variable{P:Program}{E:g8}{w0:a4P}
theorem b2B{ops:Array Oper}:∀ {l:List Oper} {T:List AV} {H:AHeap} {Q Q':List AV→AHeap→Prop},(∀T' H',Q T' H'→Q' T' H')→c0v P E w0 ops l T H Q→c0v P E w0 ops l T H Q'
 | [],T,H,Q,Q',hq,h=>hq T H h
 |o::l,T,H,Q,Q',hq,h=>by
  unfold c0v at h ⊢
  exact a0I h fun v H' hv=>b2B hq hv
theorem c9J{ops:Array Oper}{i:Nat}{o1 o2:Oper}{l:List Oper}(hops:ops.toList.drop i=o1::o2::l){t1 t2:Tmp}{f1 f2:FuncId}(g1:o1.guard=none)(g2:o2.guard=none)(d1:o1.dst=some t1)(d2:o2.dst=some t2)
  {T:List AV} {H:AHeap} {args1:List AV} (e1:V8 P E T H o1=some (.call f1 args1 H)) (e2:∀u,V8 P E (T.set t1 (.opq u)) H o2=some (.call f2 [.opq u] H)) {Q:AV→AHeap→Prop} {Q':List AV→AHeap→Prop}
  (hc:∀w ρ vargs,B6 E w0 H w ρ→M5 ρ H→m6 ρ args1 vargs.toList→Calls P f1 vargs w fun e w1=>∃u,e= .returned u∧B6 E w0 H w1 ρ∧Calls P f2 #[u] w1 (b5t E w0 ρ H Q))
  (hQ:∀u v H',Q v H'→c0v P E w0 ops l ((T.set t1 (.opq u)).set t2 v) H' Q') {w:World} {ρ:u5} {a:Act} (hR:B6 E w0 H w ρ) (hT:m6 ρ T a.tmps.toList) (hf:M5 ρ H) {R:Exit→Act→World→Prop}
  (hk:∀T' H' a' w',Q' T' H'→StA E w0 H ρ a.defers T' H' a' w'→R .normal a' w') (hp:b4y E w0 H ρ a.defers R):wpOps P ops R (List.range' i (o1::o2::l).length) a w:=by
 have ho1:ops[i]? =some o1:=by
  have:(ops.toList.drop i)[0]? =some o1:=by rw[hops];rfl
  rw[List.getElem?_drop]at this
  simpa using this
 have ho2:ops[i+1]? =some o2:=by
  have:(ops.toList.drop i)[1]? =some o2:=by rw[hops];rfl
  rw[List.getElem?_drop]at this
  simpa using this
 have hdr:ops.toList.drop (i+2)=l:=by
  have:=congrArg (List.drop 2) hops
  rw[List.drop_drop]at this
  exact this
 have hn:List.range' i (o1::o2::l).length=i::(i+1)::List.range' (i+2) l.length:=by
  simp[List.range'_succ]
 rw[hn,wpOps_cons]
 unfold wpOp
 rw[ho1]
 simp only
 have w1:∀(o:Oper) (y:Nat→Option Bool),o.guard=none→Region.wanted o y=true:=fun o y h=>by unfold Region.wanted;rw[h]
 rw[w1 _ _ g1,if_pos rfl]
 left
 unfold Oper.wp
 obtain⟨_,vargs,k1,k2⟩:=a8E hR e1 (a3B hT)
 rw[k1]
 refine Calls.mono (hc w ρ vargs hR hf k2) ?_
 rintro e wa ⟨u,rfl,hRa,hcall⟩
 show wpOps P ops R _ (a.put o1.dst u) wa
 have hT1:m6 ρ (T.set t1 (.opq u)) (a.put o1.dst u).tmps.toList:=by
  have:=a8G (dst:=o1.dst) (a:=a) (v:= .opq u) (vv:=u) hT (by simp only[rel])
  rw[d1]at this ⊢
  exact this
 rw[wpOps_cons]
 unfold wpOp
 rw[ho2]
 simp only
 rw[w1 _ _ g2,if_pos rfl]
 left
 unfold Oper.wp
 obtain⟨_,vargs2,k3,k4⟩:=a8E hRa (e2 u) (a3B hT1)
 rw[k3]
 have hv2:vargs2= #[u]:=by
  obtain⟨l2⟩:=vargs2
  simp only[m6]at k4
  obtain⟨v,vs,rfl,h1,rfl⟩:=k4
  simp only[rel]at h1
  rw[h1]
 rw[hv2]
 refine Calls.mono hcall ?_
 intro e w2 he
 cases e with
 |returned v2=>
  obtain⟨ρ',v,H',k5,k6,k7,k8⟩:=he
  show wpOps P ops R _ ((a.put o1.dst u).put o2.dst v2) w2
  have hT2:m6 ρ' ((T.set t1 (.opq u)).set t2 v) ((a.put o1.dst u).put o2.dst v2).tmps.toList:=by
   have:=a8G (dst:=o2.dst) (a:=a.put o1.dst u) (v:=v) (vv:=v2) (H5 k6.1 _ _ hT1) k7
   rw[d2]at this ⊢
   exact this
  refine b0G l (i+2) _ _ _ (hQ u v H' k5) hdr w2 ρ' _ k8 hT2 (hf.step k6) ?_ ?_
  ·intro T' H'' a' w'' hq hst
   rw[I7,I7]at hst
   exact hk _ _ _ _ hq (StA.trans k6 hst)
  ·rw[I7,I7]
   exact hp.trans k6
 |panicked c=>
  obtain⟨u2,ρ',v,H',rfl,k5,k6,k7,k8⟩:=he
  exact hp u2 v ρ' H' (a.put o1.dst u) w2 k5 k6 k7 k8 (by rw[I7])
 |outgrown=>exact he.elim
theorem c5L{id:Nat}{ops:Array Oper}{o0 o1 o2:Oper}{l:List Oper}(hops:ops.toList=o0::o1::o2::l){t0 t1 t2 x:Tmp}{f1 f2:FuncId}(g0:o0.guard=none)(g1:o1.guard=none)(g2:o2.guard=none)(d0:o0.dst=some t0)(d1:o1.dst=some t1)(d2:o2.dst=some t2)
  {T:List AV} {H:AHeap} (p0:o0.op= .move (.tmp x)) {args1:List AV} (e1:V8 P E (T.set t0 (T.getD x s8)) H o1=some (.call f1 args1 H)) (e2:∀u,V8 P E ((T.set t0 (T.getD x s8)).set t1 (.opq u)) H o2=some (.call f2 [.opq u] H)) {Q:AV→AHeap→Prop} {Q':j7→List AV→AHeap→Prop}
  (hc:∀w ρ vargs,B6 E w0 H w ρ→M5 ρ H→m6 ρ args1 vargs.toList→Calls P f1 vargs w fun e w1=>∃u,e= .returned u∧B6 E w0 H w1 ρ∧Calls P f2 #[u] w1 (b5t E w0 ρ H Q))
  (hQ:∀u v H',Q v H'→c0v P E w0 ops l (((T.set t0 (T.getD x s8)).set t1 (.opq u)).set t2 v) H' (Q' .normal)):E6 P E w0 (.region id ops false) T H Q':=by
 intro w ρ a R hR hf hT hk hp
 refine wp_region ?_
 have ho0:ops[0]? =some o0:=by rw[←Array.getElem?_toList,hops];rfl
 have hn:List.range ops.size=0::List.range' 1 (o1::o2::l).length:=by
  rw[←Array.length_toList,hops,List.range_eq_range',List.length_cons,List.range'_succ]
 rw[hn,wpOps_cons]
 have hst:a1t P E w0 ops T H o0 fun v H'=>v=T.getD x s8∧H'=H:=by
  obtain⟨dst,op,ty,pos,after,guard⟩:=o0
  simp only at p0 g0
  subst p0 g0
  exact⟨rfl,rfl⟩
 refine a4o hst ho0 hR hT hf ?_ hp
 rintro v H1 ρ' vv w' ⟨rfl,rfl⟩ h1 h2 h3
 have hT1:=a8G (dst:=o0.dst) (H5 h1.1 _ _ hT) h2
 rw[d0]at hT1
 simp only[a0X]at hT1
 refine c9J (i:=1) (by rw[hops];rfl) g1 g2 d1 d2 e1 e2 hc hQ h3 (by rw[d0];exact hT1) (hf.step h1) ?_ ?_
 ·intro T' H'' a' w'' hq hst
  rw[I7]at hst
  exact hk _ _ _ _ _ hq (StA.trans h1 hst)
 ·rw[I7]
  exact hp.trans h1
end
theorem B6.below{E:g8}{w0:World}{H:AHeap}{w w2:World}{ρ:u5}(R:B6 E w0 H w ρ)(hb:RowKit.Below w.heap.size w w2):B6 E w0 H w2 ρ:=
 ⟨by have:=R.size;have:=hb.size;omega,fun b h=>by rw[hb.block b (by have:=R.size;omega)];exact R.old b h,R.env,⟨by rw[hb.os];exact R.side.1,by rw[hb.output];exact R.side.2⟩,
  fun k o e=>let ⟨l,h1,h2,h3⟩:=R.objs k o e;⟨l,h1,h2,G6 h3 (hb.block _ (W3 h3))⟩,R.apart,R.pres,R.kin⟩
theorem B6.newAt{E:g8}{w0:World}{H:AHeap}{w w2:World}{ρ:u5}(R:B6 E w0 H w ρ)(hk:ρ H.next=none)(hb:RowKit.Below w.heap.size w w2){g:Nat}{cs:List AV}{arr:Array Value}{el:TypeId}{lo hi:Nat}(hgw:w.heap.size≤g)(hc:w2.heap[g]? =some (.cells arr el (lo,hi)))
  (hl:cs.length≤arr.size) (hr:m6 ρ cs (arr.toList.take cs.length)) (hf:lo=hi∨arr.size≤lo):B6 E w0 (newCells H cs) w2 (upd ρ H.next ⟨g,0,arr.size⟩):=by
 have R2:=R.below hb
 have hx:=a0E (ρ:=ρ) ⟨g,0,arr.size⟩ hk
 have hg:∀k o,(newCells H cs).get k=some o→(k=H.next∧o= .cells cs true [])∨(k≠H.next∧H.get k=some o):=by
  intro k o e
  rw[show newCells H cs=H.new (.cells cs true []) from rfl,AHeap.get_new]at e
  split at e
  ·rename_i h;cases e;exact .inl ⟨h.symm,rfl⟩
  ·rename_i h;exact .inr ⟨fun h'=>h h'.symm,e⟩
 have far:∀k o l,H.get k=some o→ρ k=some l→l.blk≠g:=fun k o l e h=>by
  obtain⟨m,hm,_,ho⟩:=R.objs k o e
  rw[h]at hm;cases hm
  have:=W3 ho
  omega
 refine⟨R2.size,R2.old,R2.env,R2.side, ?_, ?_, ?_, ?_⟩
 ·intro k o e
  rcases hg k o e with ⟨rfl,rfl⟩|⟨h1,h2⟩
  ·refine⟨_,A8 _ _,by have:=R.size;show _≤g;omega,arr,el,lo,hi,hc,rfl,by simpa using hl, ?_,fun _=>hf⟩
   simp only[List.drop_zero]
   exact H5 hx _ _ hr
  ·obtain⟨l,hl,hs,ho⟩:=R2.objs k o h2
   exact⟨l,by rw[t6 _ h1];exact hl,hs,a5t hx ho⟩
 ·intro k k' o o' l l' h1 h2 h3 h4 h5 h6
  rcases hg k o h1 with ⟨rfl,rfl⟩|⟨g1,g2⟩<;>rcases hg k' o' h2 with ⟨rfl,rfl⟩|⟨g1',g2'⟩
  ·exact absurd rfl h5
  ·rw[A8]at h3;rw[t6 _ g1']at h4
   cases h3
   exact absurd h6.symm (far _ _ _ g2' h4)
  ·rw[A8]at h4;rw[t6 _ g1]at h3
   cases h4
   exact absurd h6 (far _ _ _ g2 h3)
  ·rw[t6 _ g1]at h3;rw[t6 _ g1']at h4
   exact R.apart k k' o o' l l' g2 g2' h3 h4 h5 h6
 ·intro k o e p hpp
  rcases hg k o e with ⟨rfl,rfl⟩|⟨h1,h2⟩
  ·cases hpp
  ·obtain⟨a,b⟩:=R.pres k o h2 p hpp
   obtain⟨m,hm⟩:=Option.isSome_iff_exists.1 b
   exact⟨a,by rw[hx _ _ hm];rfl⟩
 ·intro k p o op l lp h1 h2 h3 h4 h5
  rcases hg k o h1 with ⟨rfl,rfl⟩|⟨g1,g2⟩
  ·cases h2
  ·rcases hg p op h3 with ⟨rfl,_⟩|⟨g1',g2'⟩
   ·have:=(R.pres k o g2 _ h2).2
    rw[hk]at this;cases this
   ·rw[t6 _ g1]at h4;rw[t6 _ g1']at h5
    exact R.kin k p o op l lp g2 h2 g2' h4 h5
def b8w(P:Program)(fk fs:FuncId):Prop:=∀(b:Nat) (es:Array MapEntry) (clock:Nat) (ns:List Int) (w:World),w.heap[b]? =some (.map es clock)→es.toList.map (·.key)=ns.map (Value.int .i64)→ns.Nodup→(es.toList.map (·.born)).Nodup→(∀e∈es.toList,e.born<clock)→
 (∀n∈ns, -(2^63)≤n∧n<2^63)→ns.length<2^38→
 Calls P fk #[.map (some b)] w fun e w1=>∃u el,e= .returned u∧w1=w.alloc (.cells #[.map (some b)] el)∧Calls P fs #[u] w1 fun e' w2=>∃v ss T,e'= .returned v∧ss.Perm ns∧
  w2.ownsRow w1.heap.size T 1 v ss.length ((ss.mergeSort fun x y=>decide (x≤y)).map (Value.int .i64))∧(v= .slice none 0 0↔ss=[])∧RowKit.Below w1.heap.size w1 w2
theorem b8N{ρ:u5}:∀ {es:List (AV×AV×Nat)} {l:List MapEntry} {ns:List Int},a0d ρ es l→es.map (·.1)=ns.map (.int .i64)→l.map (·.key)=ns.map (Value.int .i64)∧l.map (·.born)=es.map (·.2.2)
 | [],_,ns,h,e=>by
  cases ns with
  |nil=>rw[show _=[]from h];exact⟨rfl,rfl⟩
  |cons n ns=>cases e
 |(a,b,c)::es,_,ns,⟨x,r,h0,h1,h2,h3,h4⟩,e=>by
  cases ns with
  |nil=>cases e
  |cons n ns=>
   simp only[List.map_cons,List.cons.injEq]at e
   obtain⟨rfl,e⟩:=e
   obtain⟨k1,k2⟩:=b8N h4 e
   simp only[rel]at h1
   rw[h0]
   simp only[List.map_cons,k1,k2,h1,h3]
   exact⟨trivial,trivial⟩
theorem b8M{P:Program}{E:g8}{T:List AV}{H:AHeap}{o:Oper}{f:FuncId}{x:Tmp}{ty:Array TypeId}(ho:o.op= .call ⟨.value (.func f), #[.tmp x],ty⟩)(hb:a3L P f=true):V8 P E T H o=some (.call f [T.getD x s8] H):=by
 obtain⟨dst,op,t,pos,after,guard⟩:=o
 simp only at ho
 subst ho
 simp only[V8,Q8,i4,J7,hb]
 rfl
theorem c2O{E:g8}{R:Fz}:∀ {ts:List (Int×Int×Nat)} {es:List (AV×AV×Nat)},RpE E R (ts.map b4N) es→es.map (·.1)=(ts.map (·.1)).map (.int .i64)∧es.map (·.2.2)=ts.map (·.2.2)
 | [],es,h=>by rw[show es=[]from h];exact⟨rfl,rfl⟩
 |t::ts,_,⟨kd,vd,e,es',e1,h,e2,e3,e4⟩=>by
  rw[h]
  simp only[b4N,List.cons.injEq,and_true,D.int.injEq,true_and]at e1
  obtain⟨rfl,rfl,e5⟩:=e1
  obtain⟨i1,i2⟩:=c2O e4
  simp only[Rp]at e2
  simp only[List.map_cons,i1,i2,e2]
  exact⟨trivial,by congr 1;omega⟩
theorem c2q{E:g8}{R:Fz}:∀(l:List Int),s7 E R (J1 l).flatten (l.map (.int .i64))
 | []=>A7
 |n::l=>q9 (by simp only[Rp]) (c2q l)
theorem c4d{P:Program}{E:g8}{w0:j0}{fk fs:FuncId}(hs:b8w P fk fs)(bk:a3L P fk=true)(bs:a3L P fs=true){id:Nat}{ops:Array Oper}{o0 o1 o2:Oper}{l:List Oper}(hops:ops.toList=o0::o1::o2::l){x t0 t1 t2:Tmp}{ty1 ty2:Array TypeId}
  (p0:o0.op= .move (.tmp x)) (g0:o0.guard=none) (d0:o0.dst=some t0) (p1:o1.op= .call ⟨.value (.func fk), #[.tmp t0],ty1⟩) (p2:o2.op= .call ⟨.value (.func fs), #[.tmp t1],ty2⟩) (g1:o1.guard=none) (g2:o2.guard=none) (d1:o1.dst=some t1) (d2:o2.dst=some t2) {T:List D} (ht0:t0<T.length) (ht1:t1<T.length) {S:b5} {k:Nat} {ts:List (Int×Int×Nat)} (hx:T.getD x b6= .mp k)
  (hm:N6 S k ts) (hI:∀t∈ts, -(2^63)≤t.1∧t.1<2^63) (hl:ts.length<2^38) {Q:j7→List D→b5→Prop}
  (hQ:∀(ss:List Int) (d:D) (S2:b5),ss.Perm (ts.map (·.1))→O4 S [] d (J1 (ss.mergeSort fun x y=>decide (x≤y))) 1 S2→S.le S2→b4D P (p8 P E w0) (a8l E w0) ops l (((T.set t0 .any).set t1 .any).set t2 d) S2 (Q .ret)):f9 P E w0 (.seq (.region id ops false) .ret) T S Q:=fun R H avs F hC hT=>by
 obtain⟨acs,hSk⟩:=hm.has
 obtain⟨hRk,es,clock,hacs,hHk,hE,hnd,hcl⟩:=hC.mapAt hSk (a8x _ _)
 have hxa:avs.getD x s8= .map k:=by
  have:=a7C hT x
  rw[hx]at this
  simpa only[Rp]using this
 have hal:=hT.length
 obtain⟨hk1,hk2⟩:=c2O hE
 have hns:(ts.map (·.1)).length<2^38:=by rw[List.length_map];exact hl
 refine b8J (c5L hops g0 g1 g2 d0 d1 d2 p0 (args1:=[.map k]) (f1:=fk) (f2:=fs) (by
   have:t0<avs.length:=(by rw[hal];exact ht0)
   rw[b8M p1 bk,List.getD_eq_getElem?_getD,List.getElem?_set,if_pos rfl,if_pos this];simp only[Option.getD_some];rw[hxa]) (fun u=>by have:t1<avs.length:=(by rw[hal];exact ht1);rw[b8M p2 bs];simp[List.getD_eq_getElem?_getD,List.getElem?_set,this])
  (Q:=fun v H'=>∃ss:List Int,ss.Perm (ts.map (·.1))∧((ss=[]∧v= .nilSlc∧H'=H)∨(ss≠[]∧v= .slc (.new H.next) 0 ss.length ss.length false 1∧H'=newCells H ((ss.mergeSort fun x y=>decide (x≤y)).map (.int .i64))))) ?_ ?_)
 ·intro w ρ vargs hR hf hr
  obtain⟨vs⟩:=vargs
  simp only[m6]at hr
  obtain⟨v,vs',rfl,hv,rfl⟩:=hr
  simp only[rel]at hv
  obtain⟨lc,hlc,rfl⟩:=hv
  obtain⟨lc',mes,e1,e2,e3⟩:=hR.mapOf hHk
  rw[hlc]at e1
  cases e1
  obtain⟨i1,i2⟩:=b8N e3 hk1
  refine Calls.mono (hs lc.blk mes clock (ts.map (·.1)) w e2 i1 hm.keys (by rw[i2];exact hnd) (fun e he=> ?_) (fun n hn=> ?_) hns) ?_
  ·have:e.born∈es.map (·.2.2):=by rw[←i2];exact List.mem_map.2 ⟨e,he,rfl⟩
   obtain⟨x,hx,hx2⟩:=List.mem_map.1 this
   rw[←hx2];exact hcl x hx
  ·obtain⟨t,ht,rfl⟩:=List.mem_map.1 hn
   exact hI t ht
  rintro e w1 ⟨u,el,rfl,rfl,hcall⟩
  have hb1:RowKit.Below w.heap.size w (w.alloc (.cells #[.map (some lc.blk)] el)):=(RowKit.Below.refl _ w).alloc (Nat.le_refl _) _
  have hR1:=hR.below hb1
  refine⟨u,rfl,hR1,Calls.mono hcall ?_⟩
  rintro e' w2 ⟨v,ss,tt,rfl,hperm,hrow,hnil,hb⟩
  rcases hrow.2 with ⟨rfl,hz⟩|⟨g,cap,cur,rfl,hbase,hg,r1,r2,r3,r4⟩
  ·have h0:ss=[]:=hnil.1 rfl
   exact⟨ρ,_,H,⟨ss,hperm, .inl ⟨h0,rfl,rfl⟩⟩,Nx.refl _ _,by simp only[rel],hR1.below hb⟩
  ·have h0:ss≠[]:=fun e=>by have:=hnil.2 e;cases this
   have hfr:ρ H.next=none:=hf _ (Nat.le_refl _)
   have hlen:(ss.mergeSort fun x y=>decide (x≤y)).length=ss.length:=List.length_mergeSort ss
   rw[Nat.mul_one]at r3 r4
   have hR2:=hR1.newAt hfr hb hbase hg (cs:=(ss.mergeSort fun x y=>decide (x≤y)).map (.int .i64)) (by rw[List.length_map,hlen];omega) (by rw[List.length_map,hlen,r4];exact b3c _) (.inl rfl)
   refine⟨_, .slc (.new H.next) 0 ss.length ss.length false 1,_,⟨ss,hperm, .inr ⟨h0,rfl,rfl⟩⟩,⟨a0E _ hfr,Nat.le_succ _,fun j hj=>t6 _ (fun e=>hj ⟨by rw[e];exact Nat.le_refl _,by rw[e];exact Nat.lt_succ_self _⟩)⟩, ?_,hR2⟩
   simp only[rel,E4,A8,Option.map_some]
   exact⟨_,cap,rfl,r1,r1,fun h=>(by cases h), .inr ⟨g,0,rfl,rfl⟩,⟨_,A8 _ _,by simp only;omega⟩⟩
 ·rintro u v H' ⟨ss,hperm,h⟩
  have hlen:(ss.mergeSort fun x y=>decide (x≤y)).length=ss.length:=List.length_mergeSort ss
  have hT1:∀R',R.le R'→∀d,Rp E R' d v→s7 E R' (((T.set t0 .any).set t1 .any).set t2 d) (((avs.set t0 (avs.getD x s8)).set t1 (.opq u)).set t2 v):=fun R' hle d hd=>s7.set (s7.set (s7.set (s7.le hle _ _ hT) t0 a8n) t1 a8n) t2 hd
  have hTl:∀d,(((T.set t0 .any).set t1 .any).set t2 d).length=T.length:=fun d=>by simp
  rcases h with ⟨h0,rfl,rfl⟩|⟨h0,rfl,rfl⟩
  ·have:=hQ ss .nilSlc S hperm (.inl ⟨rfl,by rw[List.length_eq_zero_iff.1 (by rw[hlen,h0];rfl:(ss.mergeSort fun x y=>decide (x≤y)).length=0)];rfl⟩) (b5.le_refl S)
   have:=b1T (b9U (Fz.le_refl R) F hC (hT1 R (Fz.le_refl R) .nilSlc (by simp only[Rp])) this)
   rw[hTl]at this
   exact b2B (fun T' H' hp=>b3b hp) this
  ·obtain⟨k1,k2,k3,F'⟩:=F.newCells ((ss.mergeSort fun x y=>decide (x≤y)).map (.int .i64))
   have hfr:=hC.fresh
   have hC':=(hC.stays F' k2).put (k:=H.next) (o:=⟨1,J1 (ss.mergeSort fun x y=>decide (x≤y)),(ss.mergeSort fun x y=>decide (x≤y)).map (.int .i64)⟩) hfr.1 k1 (fun p hp=>by cases hp) (a4z _)
    (fun row hr=>by rw[J1,List.mem_map]at hr;obtain⟨n,_,rfl⟩:=hr;rfl) (c2q _)
   have hil:(J1 (ss.mergeSort fun x y=>decide (x≤y))).length=ss.length:=by rw[J1,List.length_map,hlen]
   have:=hQ ss (.raw H.next 0 ss.length ss.length false 1) (S.set H.next ⟨1,J1 (ss.mergeSort fun x y=>decide (x≤y)),(ss.mergeSort fun x y=>decide (x≤y)).map (.int .i64)⟩) hperm (.inr ⟨H.next,_,hfr.2,by simp,by rw[hil],b5.set_same _ _ _⟩) (b5.le_new hfr.2)
   have:=b1T (b9U (Fz.le_refl R) F' hC' (hT1 R (Fz.le_refl R) _ (by simp only[Rp,Nat.zero_mul];exact⟨by decide,trivial⟩)) this)
   rw[hTl]at this
   exact b2B (fun T' H' hp=>b3b hp) this
end Go.Am
end
