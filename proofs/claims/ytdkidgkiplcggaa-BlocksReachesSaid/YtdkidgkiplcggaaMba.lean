/-
  BlocksReachesSaid: part Mba of its proof.
-/
import Derived.Test.YtdkidgkiplcggaaMay
import Derived.Test.YtdkidgkiplcggaaMav
import Derived.Test.YtdkidgkiplcggaaRows
import Derived.Test.YtdkidgkiplcggaaMar
import Derived.KernelRfl
import Derived.Test.YtdkidgkiplcggaaMaz
set_option linter.unusedVariables false
set_option linter.unusedSimpArgs false
set_option maxRecDepth 100000
section
open Go.Proofs Go Go.Am Go.Op
namespace Go.Proofs.Ytdkidgkiplcggaa.d
section
set_option linter.unusedSectionVars false
theorem c4t(t:Int)(l:List Int):N6 1 (iD (t::l)) (some (.int .i64 1)) none none=some (iD l):=by
 have h:1≤(iC (t::l)).length:=by rw[j3];simp
 have hb:A6 (.int .i64 1) (iC (t::l)).length=some 1:=c4r (n:=1) h
 unfold iD
 simp only[N6,D8,b5r,a5l,b0Q,if_true,Option.bind_some,hb,Option.map_some]
 rw[List.take_of_length_le (by rw[List.length_drop];exact Nat.le_refl _),Nat.sub_self,List.take_zero]
 rfl
theorem b5C(ys:List In)(ext tops:List Int):∀n,(B0 ys ext tops n).2.length≤n∧(B0 ys ext tops n).1.length≤tops.length
 |0=>⟨Nat.le_refl _,Nat.le_refl _⟩
 |n+1=>by
  obtain⟨h1,h2⟩:=b5C ys ext tops n
  simp only[B0,b9u]
  split
  ·split
   ·refine⟨by simp;omega, ?_⟩
    show(B0 ys ext tops n).1.tail.length≤_
    rw[List.length_tail];omega
   ·refine⟨?_,h2⟩
    show(a1J (B0 ys ext tops n).2 _ _).length≤_
    unfold a1J
    split
    ·simp;omega
    ·simp
  ·exact⟨by omega,h2⟩
theorem b3b{ys:List In}(harm:∀y∈ys,y.arms.length≤65535)(ext tops:List Int):∀n,∀b∈(B0 ys ext tops n).2,b.next.length≤65540
 |0,b,h=>by cases h
 |n+1,b,h=>by
  have ih:=b3b harm ext tops n
  simp only[B0,b9u]at h
  split at h
  ·rename_i y hy
   have hl:=b1d (harm y (List.mem_of_getElem? hy)) (ext.getD (n+1) 0)
   split at h
   ·rcases List.mem_append.1 h with h|h
    ·exact ih b h
    ·rw[List.mem_singleton.1 h];exact hl
   ·have h:b∈a1J (B0 ys ext tops n).2 (ext.getD (n+1) 0) (C4 y (ext.getD (n+1) 0)):=h
    unfold a1J at h
    split at h
    ·rcases List.mem_append.1 h with h|h
     ·exact ih b (List.dropLast_subset _ h)
     ·rw[List.mem_singleton.1 h];exact hl
    ·cases h
  ·exact ih b h
theorem c3g{S0 S:b4}{t:D}{rows:List (List D)}{row:List D}(hg:Z1 S0 [] t (rows++[row]) 3 S):∃p,j5 3 t (.int .i64 (rows.length:Int))=some p∧∀i,∃q,t8 i p=some q∧c9 S q=row[i]? :=by
 rcases hg with ⟨_,e⟩|⟨k,acs,h0,h1,rfl,h3⟩
 ·simp at e
 ·refine⟨_,c3K (by simp),fun i=>⟨_,ofR .., ?_⟩⟩
  rw[ldR h3 (row:=row) (by simp),Nat.zero_add]
section
variable{E:d6}{w0:i5}
theorem c3A{l:List Int}(hl:l.length<2^40){q:Int}{S:b4}:r8 Try.prog E w0 Y0 [iD l, .int .i64 q] S fun d S'=>S'=S∧∃r:Int,d= .int .i64 r∧(0≤r↔q∈l):=by
 refine a5v ?_
 unfold a2y
 rw[a0c,oD]
 refine a4a (I:=fun n x0 x1 x7 x8 T=>x0=iD l∧x1= .int .i64 q∧x7= .int .i64 (l.length:Int)∧T=S∧∃i:Nat,x8= .int .i64 (i:Int)∧i+n=l.length∧q ∉ l.take i) ?_ (n:=l.length) ⟨rfl,rfl,rfl,rfl,0,rfl,by omega,by simp⟩
 rintro n _ _ _ _ _ ⟨rfl,rfl,rfl,rfl,i,rfl,hi,hq⟩
 unfold P7
 rw[V6,oD,cdI]
 refine⟨fun hlt=> ?_,fun hge=>b9.here ⟨rfl,_,rfl, ?_⟩⟩
 ·have hlt:i<l.length:=by omega
  have ht:l[i]? =some l[i]:=List.getElem?_eq_getElem hlt
  generalize l[i]=t at ht
  rw[a3q ht,oD,lsE,List.getElem?_cons_zero,oD,a4e,oD,cdI]
  refine⟨fun h=>b9.here ⟨rfl,_,rfl, ?_⟩,fun h=> ?_⟩
  ·rw[h];exact⟨fun _=>List.mem_of_getElem? ht,fun _=>by omega⟩
  ·rw[C6,oD,g9 (by omega) (by omega)]
   refine⟨n - 1,by omega,rfl,rfl,rfl,rfl,i+1,rfl,by omega, ?_⟩
   rw[List.take_add_one,ht]
   simp[hq,h]
 ·rw[List.take_of_length_le (by omega)]at hq
  exact⟨fun h=>by omega,fun h=>absurd h hq⟩
theorem b8D{l:List Int}(hl:l.length<2^40){q:Int}:a1o Try.prog E w0 M6 [iD l, .int .i64 q] (.bool (decide (q∈l))):=fun S=>by
 refine a3L ?_
 unfold a0v
 refine(c3A hl).use ?_
 rintro d S' ⟨rfl,r,rfl,h⟩
 rw[c4b,oD]
 refine b9.here ⟨?_,rfl⟩
 congr 1
 exact decide_eq_decide.2 h
def a5D(len:Int)(st:List Int×List G8):List G8×Int:=match st.1,st.2.getLast? with
 | [],some b=>if len∈b.next then([],190) else(st.2,0)
 |_,_=>([],190)
def ofD(r:List G8×Int):D:= .tup [p6 r.1, .int .i64 r.2]
theorem c7z{code:List Int}{ys:List In}{ext tops:List Int}(h0:ys≠[]→tops.head? =some (ext.getD 0 0))(hyl:ys.length<2^39)(he:ext.length=ys.length+1)(htl:tops.length<2^40)(harm:∀y∈ys,y.arms.length≤65535){S0 S:b4}(hle:S0.le S):
  b8 Try.prog E w0 (.loop W7) (d8 173 [0,5,14,16,94,95,96] [bD code,iD ext,iD tops, .nilSlc,a1k ys, .int .i64 (ys.length:Int),(.int .i64 0)]) S (W6 E w0 (b9 E fun d S'=>d=ofD (a5D code.length (B0 ys ext tops ys.length))∧S'=S0)):=by
 refine b0N (I:=fun n x0 x5 x14 x16 x94 x95 x96 T=>x0=bD code∧x5=iD ext∧x94=a1k ys∧x95= .int .i64 (ys.length:Int)∧∃i:Nat,x96= .int .i64 (i:Int)∧i+n=ys.length∧x14=iD (B0 ys ext tops i).1∧Z1 S0 [] x16 ((B0 ys ext tops i).2.map C3) 3 T∧S0.le T) ?_ (n:=ys.length)
  ⟨rfl,rfl,rfl,rfl,0,rfl,by omega,rfl,Z1.nil,hle⟩
 rintro n _ _ _ x16 _ _ _ T ⟨rfl,rfl,rfl,rfl,i,rfl,hi,rfl,hg,hle⟩
 unfold a3H
 obtain⟨b1,b2⟩:=b5C ys ext tops i
 rw[V6,oD,cdI]
 refine⟨fun hlt=> ?_,fun hge=> ?_⟩
 ·have hlt:i<ys.length:=by omega
  have hy:ys[i]? =some ys[i]:=List.getElem?_eq_getElem hlt
  have hmem:ys[i]∈ys:=List.getElem_mem hlt
  generalize ys[i]=y at hy hmem
  have hx:ext[i+1]? =some (ext.getD (i+1) 0):=by rw[List.getD_eq_getElem?_getD,List.getElem?_eq_getElem (by omega)];rfl
  have hix:j5 1 (iD ext) (.int .i64 ((i:Int)+1))=some (.elt [.int .i64 (ext.getD (i+1) 0)] 0):=a3q hx
  have hx0:ext[i]? =some (ext.getD i 0):=by rw[List.getD_eq_getElem?_getD,List.getElem?_eq_getElem (by omega)];rfl
  rw[b9q hy,oD,laE,if_pos ⟨by decide,by simp[inC]⟩,oD]
  intro ka a na
  refine(I1.new (sz:=4) (c:=[.int .u8 0, .int .i64 0, .int .i64 0, .nilSlc])).st (ds:=inC y) (clA _) ⟨rfl,by decide,by simp[inC]⟩ fun c=> ?_
  rw[b4.set_set,show o5 [D.int .u8 0, .int .i64 0, .int .i64 0, .nilSlc] 0 (inC y)=inC y from rfl]
  have ca:I1 (T.set ka ⟨4,[inC y],c⟩) ka 4 (inC y):=I1.new
  have l1:S0.le (T.set ka ⟨4,[inC y],c⟩):=b4.le_trans hle (b4.le_new na)
  have hg:=hg.set (o:=⟨4,[inC y],c⟩) (.inr na)
  generalize (T.set ka ⟨4,[inC y],c⟩)=T1 at ca l1 hg
  rw[ca.all (n:=4) (by decide) rfl,oD,C6,oD,g9 (by omega) (by omega),hix,oD,lsE,List.getElem?_cons_zero,oD]
  refine(show r8 Try.prog E w0 J3 [inD y, .int .i64 (ext.getD (i+1) 0)] T1 _ from(a5h (harm y hmem)).use ?_)
  simp only[exD,List.getElem?_cons_zero,List.getElem?_cons_succ,oD,a0c,b2q]
  have hrow:∀p:Int,(⟨p,ext.getD (i+1) 0,C4 y (ext.getD (i+1) 0)⟩:G8)=⟨p,ext.getD (i+1) 0,C4 y (ext.getD (i+1) 0)⟩:=fun _=>rfl
  have stay:(B0 ys ext tops i).1.head? ≠some (ext.getD i 0)→P6 E w0 (fun x0 x5 x14 x16 x94 x95 x96 S=>∃m,m<n∧x0=bD code∧x5=iD ext∧x94=a1k ys∧x95= .int .i64 (ys.length:Int)∧∃i:Nat,x96= .int .i64 (i:Int)∧i+m=ys.length∧x14=iD (B0 ys ext tops i).1∧Z1 S0 [] x16 ((B0 ys ext tops i).2.map C3) 3 S∧S0.le S) (b9 E fun d S'=>d=ofD (a5D code.length (B0 ys ext tops ys.length))∧S'=S0) (bD code) (iD ext) (iD (B0 ys ext tops i).1) x16 (.int .i64 (i:Int)) (iD (C4 y (ext.getD (i+1) 0))) (a1k ys) (.int .i64 (ys.length:Int)) (.int .i64 (i:Int)) T1:=fun hc=>by
   have hne:(B0 ys ext tops i).2≠[]:=by
    cases i with
    |zero=>exact absurd (h0 (fun e=>by rw[e]at hlt;cases hlt)) hc
    |succ i=>exact b4P (ys:=ys) (h0 (fun e=>by rw[e]at hlt;cases hlt)) (by omega) (by omega)
   obtain⟨l,b,e⟩:∃l b,(B0 ys ext tops i).2=l++[b]:=⟨_,_,(List.dropLast_concat_getLast hne).symm⟩
   have hs:B0 ys ext tops (i+1)=((B0 ys ext tops i).1,l++[⟨b.at',ext.getD (i+1) 0,C4 y (ext.getD (i+1) 0)⟩]):=by
    simp only[B0,b9u,hy]
    rw[if_neg hc,e,a8V]
   rw[e,List.map_append]at hg
   rw[e,List.length_append,List.length_singleton]at b1
   refine c5s hlt (by omega) he (rows:=l.map C3) (a:= .int .i64 b.at') (e0:= .int .i64 b.end') (n0:=iD b.next) (by rw[List.length_map];omega) hg l1 fun S' hg' hle'=> ?_
   refine⟨n - 1,by omega,rfl,rfl,rfl,rfl,i+1,rfl,by omega,by rw[hs], ?_,hle'⟩
   rw[hs,List.map_append]
   exact hg'
  cases htp:(B0 ys ext tops i).1 with
  |nil=>
   have e1:decide (((([]:List Int).length:Nat):Int)>0)=false:=by simp
   simp only[e1,wdB,t3,vdF,oD,pdB,Bool.false_eq_true,if_false,cdF,wdU]
   rw[htp]at stay
   exact stay (by simp)
  |cons t tl=>
   have e1:decide ((((t::tl).length:Nat):Int)>0)=true:=decide_eq_true (by rw[List.length_cons];omega)
   have i0:j5 1 (iD (t::tl)) (.int .i64 0)=some (.elt [.int .i64 t] 0):=a3q (i:=0) rfl
   simp only[e1,wdB,t4,vdT,oD,i0,lsE,List.getElem?_cons_zero,a3q hx0,a4e,pdB,if_true]
   rw[cdI]
   refine⟨fun ht=> ?_,fun ht=> ?_⟩
   ·subst ht
    rw[c4t,oD,
     show s9 [D.int .i64 0, .int .i64 0, .nilSlc] [(0,1, .int .i64 (ext.getD i 0))]=some [.int .i64 (ext.getD i 0), .int .i64 0, .nilSlc]from rfl,agS,oD,
     show s4 3 (List.replicate 1 [D.int .i64 0, .int .i64 0, .nilSlc]) [(0, .agg [.int .i64 (ext.getD i 0), .int .i64 0, .nilSlc])]=some [[.int .i64 (ext.getD i 0), .int .i64 0, .nilSlc]]from rfl]
    refine I8 rfl ?_
    refine hg.push (news:=[[.int .i64 (ext.getD i 0), .int .i64 0, .nilSlc]]) l1 (fun j hj=>by cases hj) (by simp[rowsS,E0]) (by simp) (by simp;omega) fun t' S3 hle3 _ hg3=> ?_
    have hs:B0 ys ext tops (i+1)=(tl,(B0 ys ext tops i).2++[⟨ext.getD i 0,ext.getD (i+1) 0,C4 y (ext.getD (i+1) 0)⟩]):=by
     simp only[B0,b9u,hy]
     rw[if_pos (by rw[htp];rfl),htp];rfl
    refine c5s hlt (by omega) he (rows:=(B0 ys ext tops i).2.map C3) (by rw[List.length_map];omega) hg3 hle3 fun S' hg' hle'=> ?_
    refine⟨n - 1,by omega,rfl,rfl,rfl,rfl,i+1,rfl,by omega,by rw[hs], ?_,hle'⟩
    rw[hs,List.map_append]
    exact hg'
   ·rw[htp]at stay
    exact stay (by simp;exact ht)
 ·have hin:i=ys.length:=by omega
  subst hin
  have lb:m6 (bD code)=some (.int .i64 code.length):=by simp[bD,Z7]
  have bad:a5D code.length (B0 ys ext tops ys.length)=([],190)→b9 E (fun d S'=>d=ofD (a5D code.length (B0 ys ext tops ys.length))∧S'=S0) (.tup [.nilSlc, .int .i64 190]) T:=fun e=>by
   rw[e]
   exact b9.less hle (b9.weak (d':=ofD ([],190)) (Wk.tup ⟨Wk.nil 3,Wk.refl _,trivial⟩) (b9.here ⟨rfl,rfl⟩))
  have hnx:=b3b harm ext tops ys.length
  generalize B0 ys ext tops ys.length=st at*
  obtain⟨tp,out⟩:=st
  simp only[a0c,oD,b2q]
  cases tp with
  |cons t tl=>
   have e1:decide ((((t::tl).length:Nat):Int)>0)=true:=decide_eq_true (by rw[List.length_cons];omega)
   simp only[e1,wdB,t1,vdF,gdF,oD,pdB,if_true,cdT]
   exact bad rfl
  |nil=>
   have e1:decide (((([]:List Int).length:Nat):Int)>0)=false:=by simp
   simp only[e1,wdB,t2,vdT,oD,hg.len,a4e,pdB,Bool.false_eq_true,if_false]
   rcases List.eq_nil_or_concat out with rfl|⟨l,b,rfl⟩
   ·have e2:decide (((([]:List G8).map C3).length:Int)=0)=true:=by simp
    simp only[e2,wdB,t1,vdF,gdF,oD,pdB,if_true,cdT]
    exact bad rfl
   ·rw[List.concat_eq_append]at*
    have e2:decide ((((l++[b]).map C3).length:Int)=0)=false:=decide_eq_false (by rw[List.length_map,List.length_append,List.length_singleton];omega)
    have e3:IntKind.i64.wrap ((((l++[b]).map C3).length:Int) - 1)=((l.map C3).length:Int):=by
     rw[List.length_append,List.length_singleton]at b1
     rw[List.length_map,List.length_map,List.length_append,List.length_singleton,g9 (by omega) (by omega)];omega
    have hg2:Z1 S0 [] x16 (l.map C3++[C3 b]) 3 T:=by have:=hg;rw[List.map_append]at this;exact this
    obtain⟨p,p1,p2⟩:=c3g hg2
    obtain⟨q,q1,q2⟩:=p2 2
    have q2:c9 T q=some (iD b.next):=q2
    simp only[e2,wdB,t2,vdT,oD,hg.len,a3V,e3,p1,q1,q2,lb,gdT,pdB,Bool.false_eq_true,if_false]
    refine(b8D (l:=b.next) (q:=(code.length:Int)) (by have:=hnx b (by simp);omega)).use ?_
    rw[cdI]
    have he1:∀r:List G8×Int,(if(code.length:Int)∈b.next then([],190) else(l++[b],0))=r→a5D code.length ([],l++[b])=r:=fun r h=>by
     unfold a5D
     simp only[List.getLast?_append,List.getLast?_singleton,Option.some_or]
     exact h
    refine⟨fun hm=>bad (he1 _ (if_pos hm)),fun hm=> ?_⟩
    rw[he1 (l++[b],0) (if_neg hm)]
    refine b9.grA (pre:=[]) hg hle fun T2 hle2 _=> ?_
    exact b9.less hle2 (b9.here ⟨rfl,rfl⟩)
end
end
section
set_option linter.unusedSectionVars false
theorem b6y{bs:List Int}(hb:∀b∈bs,W3 b):∀(n p:Nat) (l:List (Dat×Nat)),a5u bs n p= .ok l→(∀x∈l,isS (a5z x.1)=true)∧∀x,l[0]? =some x→x.2=p
 |0,p,l,h=>by cases h;exact⟨fun x h=>(by cases h),fun x h=>(by cases h)⟩
 |n+1,p,l,h=>by
  by_cases hp:p<bs.length
  ·rw[a6L hp]at h
   by_cases he:(A7 bs p).2.2=0
   ·rw[if_pos he]at h
    cases hr:a5u bs n (A7 bs p).2.1 with
    |error e=>rw[hr]at h;cases h
    |ok l'=>
     rw[hr]at h
     cases h
     obtain⟨_,_,_,h4,_⟩:=c1c hb he (b8B _)
     refine⟨fun x hx=> ?_,fun x hx=> ?_⟩
     ·rcases List.mem_cons.1 hx with rfl|hx
      ·exact h4
      ·exact(b6y hb n _ l' hr).1 x hx
     ·simp at hx;rw[←hx]
   ·rw[if_neg he]at h;cases h
  ·rw[a5u,if_pos (by omega)]at h;cases h;exact⟨fun x h=>(by cases h),fun x h=>(by cases h)⟩
theorem c2f{y:In}(hs:isS y=true){n:Int}(hn:0≤n):∀q∈C4 y n,0≤q:=by
 obtain⟨l,e1,e2,h49,_⟩:=b5Q hs
 have ha:y.op=46∨y.op=47∨y.op=48→0≤y.a:=fun ho=>by
  have:l=[F4]:=by
   rcases ho with ho|ho|ho<;>rw[ho]at e1
   ·have:lay 46=some [F4]:=by decide
    rw[this]at e1;cases e1;rfl
   ·have:lay 47=some [F4]:=by decide
    rw[this]at e1;cases e1;rfl
   ·have:lay 48=some [F4]:=by decide
    rw[this]at e1;cases e1;rfl
  rw[this]at e2
  simp[b3H,Fld.may,F4,In.num]at e2
  omega
 intro q hq
 unfold C4 at hq
 split at hq
 ·cases hq
 split at hq
 ·rename_i h46;rw[List.mem_singleton.1 hq];exact ha (.inl h46)
 rw[(N7 _).2]at hq
 split at hq
 ·rename_i h
  simp at hq
  rcases hq with rfl|rfl
  ·exact hn
  ·exact ha (.inr h)
 split at hq
 ·rename_i h
  obtain⟨_,h2,h3⟩:=h49 h
  rcases List.mem_cons.1 hq with rfl|hq
  ·exact(of_decide_eq_true h3).1
  ·obtain⟨x,hx,rfl⟩:=List.mem_map.1 hq
   have:=List.all_eq_true.1 h2 x hx
   unfold b9a at this
   simp only[Bool.and_eq_true,decide_eq_true_eq]at this
   omega
 ·rw[List.mem_singleton.1 hq];exact hn
theorem c2p{hs:List Int}(h0:(0:Int)∈hs)(hp:∀q∈hs,0≤q):(a2e hs).head? =some 0:=by
 obtain⟨h1,h2⟩:=N7 hs
 have hm:=(h2 0).2 h0
 cases hr:a2e hs with
 |nil=>rw[hr]at hm;cases hm
 |cons a l=>
  rw[hr]at h1 hm
  have ha:=hp a ((h2 a).1 (by rw[hr];exact List.mem_cons_self))
  rcases List.mem_cons.1 hm with h|h
  ·rw[←h];rfl
  ·have:=(List.pairwise_cons.1 h1).1 0 h;omega
theorem c4T(l:List Int):(a2e l).length≤l.length:=by
 have:=a0C (srt l);rw[a4P]at this;exact this
theorem c3M{ys:List In}(harm:∀y∈ys,y.arms.length≤65535)(ext:List Int)(i:Nat):(b5d ys ext i).length≤65541:=by
 unfold b5d
 split
 ·rename_i y hy
  have:=b1d (harm y (List.mem_of_getElem? hy)) (ext.getD (i+1) 0)
  split
  ·rw[List.length_append];split<;>simp only[List.length_singleton,List.length_nil]<;>omega
  ·simp
 ·simp
theorem b2c{ys:List In}(harm:∀y∈ys,y.arms.length≤65535)(ext:List Int):∀n,(B6 ys ext n).length≤65541*n+1
 |0=>by simp[B6]
 |n+1=>by
  have:=b2c harm ext n
  have:=c3M harm ext n
  rw[a1S,List.length_append];omega
theorem b1F{ys:List In}{ext:List Int}(hs:∀y∈ys,isS y=true)(he:∀q∈ext,0≤q):∀n,∀q∈B6 ys ext n,0≤q
 |0,q,h=>by simp[B6]at h;omega
 |n+1,q,h=>by
  rw[a1S]at h
  have hx:0≤ext.getD (n+1) 0:=by
   rw[List.getD_eq_getElem?_getD]
   cases hq:ext[n+1]? with
   |none=>exact Int.le_refl 0
   |some v=>exact he v (List.mem_of_getElem? hq)
  rcases List.mem_append.1 h with h|h
  ·exact b1F hs he n q h
  ·unfold b5d at h
   split at h
   ·rename_i y hy
    split at h
    ·rcases List.mem_append.1 h with h|h
     ·exact c2f (hs y (List.mem_of_getElem? hy)) hx q h
     ·split at h
      ·rw[List.mem_singleton.1 h];exact hx
      ·cases h
    ·cases h
   ·cases h
def a4C(code:List Int):List G8×Int:=match b5e code with
 | .error e=>([],e)
 | .ok L=>a5D code.length (B0 (F9 L) (L9 L++[(code.length:Int)]) (a2e (B6 (F9 L) (L9 L++[(code.length:Int)]) (F9 L).length)) (F9 L).length)
theorem c3c{code:List Int}(hb:∀b∈code,W3 b){L:List (Dat×Nat)}(h:b5e code= .ok L)(hne:F9 L≠[])(e:List Int):(L9 L++e).getD 0 0=0:=by
 have h2:=(b6y hb _ _ L h).2
 cases L with
 |nil=>exact absurd rfl hne
 |cons x L=>
  have:=h2 x rfl
  simp[L9,this]
section
variable{E:d6}{w0:i5}
theorem b6K{code:List Int}(hb:∀b∈code,W3 b)(hl:code.length<2^20):a1o Try.prog E w0 a3v [bD code] (ofD (a4C code)):=fun S=>by
 refine b4N ?_
 unfold b1N
 refine(b8k hb (by omega)).use fun v T hall=> ?_
 unfold c2F at hall
 cases h:b5e code with
 |error e=>
  rw[h]at hall
  obtain⟨rfl,rfl⟩:=hall
  have he:=b8d _ _ _ h
  simp only[exD,List.getElem?_cons_zero,List.getElem?_cons_succ,oD,c5e]
  rw[decide_eq_true he,cdT]
  refine b9.weak (d':=ofD ([],e)) (Wk.tup ⟨Wk.nil 3,Wk.refl _,trivial⟩) (b9.here ⟨?_,rfl⟩)
  unfold a4C;rw[h]
 |ok L=>
  rw[h]at hall
  obtain⟨u,rfl,htip⟩:=hall
  obtain⟨a1,a2⟩:=b9h hb _ _ L h (Nat.zero_le _)
  obtain⟨s1,_⟩:=b6y hb _ _ L h
  have hpl:(L9 L).length=(F9 L).length:=by simp[L9,F9]
  have hil:(F9 L).length≤code.length:=by simp[F9];omega
  have hsi:∀y∈F9 L,isS y=true:=fun y hy=>by obtain⟨x,hx,rfl⟩:=List.mem_map.1 hy;exact s1 x hx
  have harm:∀y∈F9 L,y.arms.length≤65535:=fun y hy=>by
   obtain⟨_,_,_,h49,hn⟩:=b5Q (hsi y hy)
   by_cases h:y.op=49
   ·exact(h49 h).1
   ·rw[(hn h).1];simp
  have hbs:a4C code=a5D code.length (B0 (F9 L) (L9 L++[(code.length:Int)]) (a2e (B6 (F9 L) (L9 L++[(code.length:Int)]) (F9 L).length)) (F9 L).length):=by unfold a4C;rw[h]
  have h00:=c3c hb h
  generalize hys:F9 L=ys at*
  have lb:m6 (bD code)=some (.int .i64 code.length):=by simp[bD,Z7]
  have e0:decide ((0:Int)≠0)=false:=by simp
  simp only[exD,List.getElem?_cons_zero,List.getElem?_cons_succ,oD,c5e,e0,cdF,lb]
  rw[show s4 1 (List.replicate 1 [D.int .i64 0]) [(0, .int .i64 (code.length:Int))]=some (iC [(code.length:Int)]) from rfl]
  refine I8 rfl ?_
  refine htip.push (b4.le_refl T) (n:=(code.length:Int)) (by simp[rowsS,E0]) (by omega) fun T1 l1 _=> ?_
  have hext:(L9 L++[(code.length:Int)]).length=ys.length+1:=by simp;omega
  have hpos:∀q∈L9 L++[(code.length:Int)],0≤q:=fun q hq=>by
   rcases List.mem_append.1 hq with hq|hq
   ·obtain⟨x,_,rfl⟩:=List.mem_map.1 hq;omega
   ·rw[List.mem_singleton.1 hq];omega
  have hz:ys≠[]→(L9 L++[(code.length:Int)]).getD 0 0=0:=fun hne=>h00 hne _
  generalize L9 L++[(code.length:Int)]=ext at*
  refine K0.new fun k T2 hk hm hs2=> ?_
  refine hm.put fun ts T3 hks hm3 hs3=> ?_
  have hkS:S k=none:=b4.none_of l1 hk
  have l3:S.le T3:=fun j o hj=>by
   have hne:j≠k:=fun e=>by rw[e,hkS]at hj;cases hj
   rw[hs3 j hne,hs2 j hne];exact l1 _ _ hj
  rw[b7C,oD]
  refine c7L hext (by omega) harm hm3 hkS l3 (fun n=>by rw[hks];simp) fun ts' T4 hks4 hm4 l4=> ?_
  have h1:=b2c harm ext ys.length
  refine hm4.range fun j T5 hj hw hs5=> ?_
  have hjS:S j=none:=b4.none_of l4 hj
  have l5:S.le T5:=fun i o hi=>by
   rw[hs5 i (fun e=>by rw[e,hjS]at hi;cases hi) (fun e=>by rw[e,hkS]at hi;cases hi)];exact l4 _ _ hi
  have hlen:ts'.length≤(B6 ys ext ys.length).length:=by
   have:=a2g hm4.keys (l2:=B6 ys ext ys.length) fun a ha=>(hks4 a).1 ha
   simpa using this
  refine c7I hw hjS l5 hm4.keys hm4.stamps hks4 (by simp[B6]) (by omega) fun k' acs T6 hk' hT6 l6=> ?_
  refine a9p hT6 (.inl (show 1<E9 by decide)) ?_
  have hrl:=c4T (B6 ys ext ys.length)
  have hfz:V1 k' ⟨1,iC (a2e (B6 ys ext ys.length)),acs⟩ [bD code,iD ext, .raw k' 0 (a2e (B6 ys ext ys.length)).length (a2e (B6 ys ext ys.length)).length false 1, .nilSlc,a1k ys, .int .i64 (ys.length:Int),(.int .i64 0)]=[bD code,iD ext,iD (a2e (B6 ys ext ys.length)), .nilSlc,a1k ys, .int .i64 (ys.length:Int),(.int .i64 0)]:=by
   simp only[V1]
   rw[b7N (by rw[j3];omega) (Nat.le_refl _),List.drop_zero,List.take_of_length_le (by rw[j3];exact Nat.le_refl _)]
   rfl
  rw[hfz,hbs]
  refine c7z (fun hne=> ?_) (by omega) hext (by omega) harm (b4.le_erase l6 hk')
  rw[hz hne]
  exact c2p (by simp[B6]) (b1F hsi hpos _)
end
end
section
theorem Mo.Small.fits{m:Mo}{N:Nat}(hm:m.Ok)(h:m.Small N)(hN:N<2^30):m.Fits:=
 ⟨hm,by have:=h.types;omega,by have:=h.texts;omega,by have:=h.funcs;omega,fun t ht=>by have:=h.fields t ht;omega,fun r hr=>by have:=h.params r hr;omega⟩
end
section
set_option linter.unusedSectionVars false
def a9O(a:Int):List Int→List Int
 | []=>[a]
 |b::l=>if a<b then a::b::l else if a=b then b::l else b::a9O a l
theorem V8(a:Int):∀(l:List Int) (n:Int),n∈a9O a l↔n=a∨n∈l
 | [],n=>by simp[a9O]
 |b::l,n=>by
  unfold a9O
  by_cases h1:a<b
  ·rw[if_pos h1];simp
  rw[if_neg h1]
  by_cases h2:a=b
  ·rw[if_pos h2];subst h2;simp
  rw[if_neg h2,List.mem_cons,V8 a l n,List.mem_cons]
  constructor
  ·rintro(h|h|h)
   ·exact .inr (.inl h)
   ·exact .inl h
   ·exact .inr (.inr h)
  ·rintro(h|h|h)
   ·exact .inr (.inl h)
   ·exact .inl h
   ·exact .inr (.inr h)
theorem a2s(a:Int):∀(l:List Int),l.Pairwise (· < ·)→(a9O a l).Pairwise (· < ·)
 | [],_=>List.pairwise_singleton _ _
 |b::l,h=>by
  obtain⟨h0,h3⟩:=List.pairwise_cons.1 h
  unfold a9O
  by_cases h1:a<b
  ·rw[if_pos h1]
   refine List.pairwise_cons.2 ⟨fun n hn=> ?_,h⟩
   rcases List.mem_cons.1 hn with rfl|hn
   ·exact h1
   ·have:=h0 n hn;omega
  rw[if_neg h1]
  by_cases h2:a=b
  ·rw[if_pos h2];exact h
  rw[if_neg h2]
  refine List.pairwise_cons.2 ⟨fun n hn=> ?_,a2s a l h3⟩
  rcases(V8 a l n).1 hn with rfl|hn
  ·omega
  ·exact h0 n hn
def b5I(l:List Int):List Int:=l.foldr a9O []
theorem b3C:∀l:List Int,(b5I l).Pairwise (· < ·)∧∀n,n∈b5I l↔n∈l
 | []=>⟨List.Pairwise.nil,fun n=>Iff.rfl⟩
 |a::l=>by
  obtain⟨h1,h2⟩:=b3C l
  refine⟨a2s a _ h1,fun n=> ?_⟩
  show n∈a9O a (b5I l)↔_
  rw[V8,h2,List.mem_cons]
theorem c2O(l:List Int):a2e l=b5I l:=a0D (N7 l).1 (b3C l).1 fun n=>by rw[(N7 l).2,(b3C l).2]
def b3k(y:In)(next:Int):List Int:=
 if y.op=51∨y.op=52 then[]else if y.op=46 then[y.a]else b5I (if y.op=47∨y.op=48 then[next,y.a]else if y.op=49 then y.b::y.arms.map (·.2) else[next])
theorem c1x(y:In)(next:Int):C4 y next=b3k y next:=by unfold C4 b3k;rw[c2O]
section
variable{E:d6}{w0:i5}
end
end
end Go.Proofs.Ytdkidgkiplcggaa.d
end
section
open Go.Proofs Go Go.Am
namespace Go.Proofs.Ytdkidgkiplcggaa.d
def b2W:List (Nat×List Nat):=[]
def b4e:List (Nat×List Nat):=[]
def b3l:List (Nat×Arr):=[]
def a7N(E:d6)(w0:i5)(Q:D→b4→Prop)(S:b4):Prop:=
 I4 S 1 (s4 1 (List.replicate 3 [(.int .u8 0)]) [(0,(.int .u8 52)),(1,(.int .u8 1)),(2,(.int .u8 51))]) 3 fun v0 S1=>
 r8 Try.prog E w0 a3v [v0] S1 fun v2 S3=>
 b5 (u4 v2 0) fun v4=>
 b5 (u4 v2 1) fun v5=>
 b5 (d4 .eql v5 (.int .i64 0)) fun v6=>
 b5 (d9 (b7 v6 true) (some v4)) fun v7=>
 b5 (d9 (b7 v6 true) (m6 v7)) fun v8=>
 b5 (d9 (b7 v6 true) (d4 .eql v8 (.int .i64 2))) fun v9=>
 b5 (H5 v6 v9 (.bool false)) fun v10=>
 b5 (d9 (b7 v10 true) (some v4)) fun v11=>
 b5 (d9 (b7 v10 true) (j5 3 v11 (.int .i64 0))) fun v12=>
 b5 (d9 (b7 v10 true) (t8 0 v12)) fun v13=>
 b5 (d9 (b7 v10 true) (c9 S3 v13)) fun v14=>
 b5 (d9 (b7 v10 true) (d4 .eql v14 (.int .i64 0))) fun v15=>
 b5 (H5 v10 v15 (.bool false)) fun v16=>
 b5 (d9 (b7 v16 true) (some v4)) fun v17=>
 b5 (d9 (b7 v16 true) (j5 3 v17 (.int .i64 0))) fun v18=>
 b5 (d9 (b7 v16 true) (t8 1 v18)) fun v19=>
 b5 (d9 (b7 v16 true) (c9 S3 v19)) fun v20=>
 b5 (d9 (b7 v16 true) (d4 .eql v20 (.int .i64 2))) fun v21=>
 b5 (H5 v16 v21 (.bool false)) fun v22=>
 b5 (d9 (b7 v22 true) (some v4)) fun v23=>
 b5 (d9 (b7 v22 true) (j5 3 v23 (.int .i64 1))) fun v24=>
 b5 (d9 (b7 v22 true) (t8 0 v24)) fun v25=>
 b5 (d9 (b7 v22 true) (c9 S3 v25)) fun v26=>
 b5 (d9 (b7 v22 true) (d4 .eql v26 (.int .i64 2))) fun v27=>
 b5 (H5 v22 v27 (.bool false)) fun v28=>
 b5 (d9 (b7 v28 true) (some v4)) fun v29=>
 b5 (d9 (b7 v28 true) (j5 3 v29 (.int .i64 1))) fun v30=>
 b5 (d9 (b7 v28 true) (t8 1 v30)) fun v31=>
 b5 (d9 (b7 v28 true) (c9 S3 v31)) fun v32=>
 b5 (d9 (b7 v28 true) (d4 .eql v32 (.int .i64 3))) fun v33=>
 b5 (H5 v28 v33 (.bool false)) fun v34=>
 b5 (d9 (b7 v34 true) (some v4)) fun v35=>
 b5 (d9 (b7 v34 true) (j5 3 v35 (.int .i64 0))) fun v36=>
 b5 (d9 (b7 v34 true) (t8 2 v36)) fun v37=>
 b5 (d9 (b7 v34 true) (c9 S3 v37)) fun v38=>
 b5 (d9 (b7 v34 true) (m6 v38)) fun v39=>
 b5 (d9 (b7 v34 true) (d4 .eql v39 (.int .i64 0))) fun v40=>
 b5 (H5 v34 v40 (.bool false)) fun v41=>
 b5 (d9 (b7 v41 true) (some v4)) fun v42=>
 Z6 (b7 v41 true) (fun K=>r8 Try.prog E w0 C0 [v42] S3 K) S3 fun v43 S44=>
 Z6 (b7 v41 true) (fun K=>I4 S44 1 (s4 1 (List.replicate 1 [(.int .i64 0)]) [(0,(.int .i64 0))]) 1 K) S44 fun v45 S46=>
 Z6 (b7 v41 true) (fun K=>r8 Try.prog E w0 A1 [v43,v45] S46 K) S46 fun v47 S48=>
 b5 (H5 v41 v47 (.bool false)) fun v49=>
 Q v49 S48
theorem b0T{E:d6}{w0:i5}{Q:D→b4→Prop}{S:b4}(h:a7N E w0 (b9 E Q) S):r8 Try.prog E w0 M2 [] S Q:=
 o6 b2W b4e b3l (fn:=Try.f11) (c:=Try.f11.body.getD .skip) mixed Try.func11 (by kernel_rfl) (by kernel_rfl) h
def a3R:List (Nat×List Nat):=[(8,[0,1,5])]
def a3B:List (Nat×List Nat):=[]
def a3w:List (Nat×Arr):=[]
noncomputable def a2I:Code:=(f0 [1,1,0,1,0,0] (Try.f15.body.getD .skip))
def a2z(E:d6)(w0:i5)(Q:D→b4→Prop):j2→List D→b4→Prop:=
 (i4 0 (J0 Try.prog E w0 a3R a3B a3w (f0 [1,1,1] (Try.f15.body.getD .skip)) (E3 Try.prog Try.f15 Q)))
def a2O(E:d6)(w0:i5)(N0:D→D→D→b4→Prop)(Q:D→b4→Prop)(x0 x1 x5:D)(S:b4):Prop:=
 b5 (m6 x0) fun v3=>
 b5 (d4 .lss x5 v3) fun v4=>
 g8 v4
 (b5 (j5 3 x0 x5) fun v5=>
 b5 (t8 0 v5) fun v6=>
 b5 (c9 S v6) fun v7=>
 b5 (j5 3 x1 x5) fun v8=>
 b5 (t8 0 v8) fun v9=>
 b5 (c9 S v9) fun v10=>
 b5 (d4 .neq v7 v10) fun v11=>
 b5 (d9 (b7 v11 false) (some x0)) fun v12=>
 b5 (d9 (b7 v11 false) (some x5)) fun v13=>
 b5 (d9 (b7 v11 false) (j5 3 v12 v13)) fun v14=>
 b5 (d9 (b7 v11 false) (t8 1 v14)) fun v15=>
 b5 (d9 (b7 v11 false) (c9 S v15)) fun v16=>
 b5 (d9 (b7 v11 false) (some x1)) fun v17=>
 b5 (d9 (b7 v11 false) (some x5)) fun v18=>
 b5 (d9 (b7 v11 false) (j5 3 v17 v18)) fun v19=>
 b5 (d9 (b7 v11 false) (t8 1 v19)) fun v20=>
 b5 (d9 (b7 v11 false) (c9 S v20)) fun v21=>
 b5 (d9 (b7 v11 false) (d4 .neq v16 v21)) fun v22=>
 b5 (H5 v11 (.bool true) v22) fun v23=>
 b5 (d9 (b7 v23 false) (some x0)) fun v24=>
 b5 (d9 (b7 v23 false) (some x5)) fun v25=>
 b5 (d9 (b7 v23 false) (j5 3 v24 v25)) fun v26=>
 b5 (d9 (b7 v23 false) (t8 2 v26)) fun v27=>
 b5 (d9 (b7 v23 false) (c9 S v27)) fun v28=>
 b5 (d9 (b7 v23 false) (some x1)) fun v29=>
 b5 (d9 (b7 v23 false) (some x5)) fun v30=>
 b5 (d9 (b7 v23 false) (j5 3 v29 v30)) fun v31=>
 b5 (d9 (b7 v23 false) (t8 2 v31)) fun v32=>
 b5 (d9 (b7 v23 false) (c9 S v32)) fun v33=>
 Z6 (b7 v23 false) (fun K=>r8 Try.prog E w0 A1 [v28,v33] S K) S fun v34 S35=>
 b5 (d9 (b7 v23 false) (unD .not v34)) fun v36=>
 b5 (H5 v23 (.bool true) v36) fun v37=>
 g8 v37
 (Q (.bool false) S35)
 (b5 (d4 .add x5 (.int .i64 1)) fun v38=>
 N0 x0 x1 v38 S35))
 (Q (.bool true) S)
theorem a8T{E:d6}{w0:i5}{N0:D→D→D→b4→Prop}{Q:D→b4→Prop}{x0 x1 x5:D}{S:b4}(h:a2O E w0 N0 Q x0 x1 x5 S):
  b8 Try.prog E w0 a2I (d8 55 [0,1,5] [x0,x1,x5]) S (m9 (fun T S=>N0 (T.getD 0 a8) (T.getD 1 a8) (T.getD 5 a8) S) (a2z E w0 Q)):=d5 a3R a3B a3w mixed (by kernel_rfl) h
theorem a9I{E:d6}{w0:i5}{Q:D→b4→Prop}(I:Nat→D→D→D→b4→Prop)
  (step:∀n x0 x1 x5 S,I n x0 x1 x5 S→a2O E w0 (fun x0 x1 x5 S=>∃m,m<n∧I m x0 x1 x5 S) Q x0 x1 x5 S)
  {n:Nat} {x0 x1 x5:D} {S:b4} (h:I n x0 x1 x5 S):b8 Try.prog E w0 (.loop a2I) (d8 55 [0,1,5] [x0,x1,x5]) S (a2z E w0 Q):=
 j7 (k:=55) (n:=n) (I:=fun n T S=>I n (T.getD 0 a8) (T.getD 1 a8) (T.getD 5 a8) S) (fun n T S hl hI=>l9 [0,1,5] hl (b8.mono (a8T (step n _ _ _ S hI)) fun ex T' S' _ hq=>by cases ex<;>exact hq)) (f9 ..) (Eq.mp (by kernel_rfl) h)
def a9Y(E:d6)(w0:i5)(Q:D→b4→Prop)(a0 a1:D)(S:b4):Prop:=
 b5 (m6 a0) fun v0=>
 b5 (m6 a1) fun v1=>
 b5 (d4 .neq v0 v1) fun v2=>
 g8 v2
 (Q (.bool false) S)
 (b8 Try.prog E w0 (.loop a2I) (d8 55 [0,1,5] [a0,a1,(.int .i64 0)]) S (a2z E w0 Q))
theorem b2H{E:d6}{w0:i5}{Q:D→b4→Prop}{a0 a1:D}{S:b4}(h:a9Y E w0 (b9 E Q) a0 a1 S):r8 Try.prog E w0 a1R [a0,a1] S Q:=
 o6 a3R a3B a3w (fn:=Try.f15) (c:=Try.f15.body.getD .skip) mixed Try.func15 (by kernel_rfl) (by kernel_rfl) h
def T8:List (Nat×List Nat):=[(2,[0,2]),(12,[3,4])]
def R7:List (Nat×List Nat):=[]
def U0:List (Nat×Arr):=[]
noncomputable def a0d:Code:=(f0 [1,1,1,0,0] (Try.f22.body.getD .skip))
def Z9(E:d6)(w0:i5)(Q:D→b4→Prop):j2→List D→b4→Prop:=
 (i4 2 (E3 Try.prog Try.f22 Q))
def a0j(E:d6)(w0:i5)(N1:D→D→b4→Prop)(Q:D→b4→Prop)(x3 x4:D)(S:b4):Prop:=
 b5 (d4 .lss x4 (.int .i64 8)) fun v6=>
 g8 v6
 (I4 S 1 (s4 1 (List.replicate 1 [(.int .i64 0)]) [(0,(.int .i64 (-778)))]) 1 fun v7 S8=>
 s0 S8 1 8 x3 v7 fun v9 S10=>
 b5 (d4 .add x4 (.int .i64 1)) fun v11=>
 N1 v9 v11 S10)
 (Q a8 S)
theorem a5F{E:d6}{w0:i5}{N1:D→D→b4→Prop}{Q:D→b4→Prop}{x3 x4:D}{S:b4}(h:a0j E w0 N1 Q x3 x4 S):
  b8 Try.prog E w0 a0d (d8 22 [3,4] [x3,x4]) S (m9 (fun T S=>N1 (T.getD 3 a8) (T.getD 4 a8) S) (Z9 E w0 Q)):=d5 T8 R7 U0 mixed (by kernel_rfl) h
theorem a6n{E:d6}{w0:i5}{Q:D→b4→Prop}(I:Nat→D→D→b4→Prop)
  (step:∀n x3 x4 S,I n x3 x4 S→a0j E w0 (fun x3 x4 S=>∃m,m<n∧I m x3 x4 S) Q x3 x4 S)
  {n:Nat} {x3 x4:D} {S:b4} (h:I n x3 x4 S):b8 Try.prog E w0 (.loop a0d) (d8 22 [3,4] [x3,x4]) S (Z9 E w0 Q):=
 j7 (k:=22) (n:=n) (I:=fun n T S=>I n (T.getD 3 a8) (T.getD 4 a8) S) (fun n T S hl hI=>l9 [3,4] hl (b8.mono (a5F (step n _ _ S hI)) fun ex T' S' _ hq=>by cases ex<;>exact hq)) (f9 ..) (Eq.mp (by kernel_rfl) h)
noncomputable def a0e:Code:=(f0 [0,1,0,0] (Try.f22.body.getD .skip))
def a0f(E:d6)(w0:i5)(Q:D→b4→Prop):j2→List D→b4→Prop:=
 (i4 0 (J0 Try.prog E w0 T8 R7 U0 (f0 [1] (Try.f22.body.getD .skip)) (E3 Try.prog Try.f22 Q)))
def a0g(E:d6)(w0:i5)(N0:D→D→b4→Prop)(Q:D→b4→Prop)(x0 x2:D)(S:b4):Prop:=
 b5 (m6 x0) fun v0=>
 b5 (d4 .lss x2 v0) fun v1=>
 g8 v1
 (b5 (j5 1 x0 x2) fun v2=>
 j4 S 1 v2 (.int .i64 (-777)) fun v3 S4=>
 b5 (d4 .add x2 (.int .i64 1)) fun v5=>
 N0 x0 v5 S4)
 (b8 Try.prog E w0 (.loop a0d) (d8 22 [3,4] [x0,(.int .i64 0)]) S (Z9 E w0 Q))
theorem a5X{E:d6}{w0:i5}{N0:D→D→b4→Prop}{Q:D→b4→Prop}{x0 x2:D}{S:b4}(h:a0g E w0 N0 Q x0 x2 S):
  b8 Try.prog E w0 a0e (d8 22 [0,2] [x0,x2]) S (m9 (fun T S=>N0 (T.getD 0 a8) (T.getD 2 a8) S) (a0f E w0 Q)):=d5 T8 R7 U0 mixed (by kernel_rfl) h
theorem a5U{E:d6}{w0:i5}{Q:D→b4→Prop}(I:Nat→D→D→b4→Prop)
  (step:∀n x0 x2 S,I n x0 x2 S→a0g E w0 (fun x0 x2 S=>∃m,m<n∧I m x0 x2 S) Q x0 x2 S)
  {n:Nat} {x0 x2:D} {S:b4} (h:I n x0 x2 S):b8 Try.prog E w0 (.loop a0e) (d8 22 [0,2] [x0,x2]) S (a0f E w0 Q):=
 j7 (k:=22) (n:=n) (I:=fun n T S=>I n (T.getD 0 a8) (T.getD 2 a8) S) (fun n T S hl hI=>l9 [0,2] hl (b8.mono (a5X (step n _ _ S hI)) fun ex T' S' _ hq=>by cases ex<;>exact hq)) (f9 ..) (Eq.mp (by kernel_rfl) h)
def a5j(E:d6)(w0:i5)(Q:D→b4→Prop)(a0:D)(S:b4):Prop:=
 b8 Try.prog E w0 (.loop a0e) (d8 22 [0,2] [a0,(.int .i64 0)]) S (a0f E w0 Q)
theorem a8h{E:d6}{w0:i5}{Q:D→b4→Prop}{a0:D}{S:b4}(h:a5j E w0 (b9 E Q) a0 S):r8 Try.prog E w0 a1s [a0] S Q:=
 o6 T8 R7 U0 (fn:=Try.f22) (c:=Try.f22.body.getD .skip) mixed Try.func22 (by kernel_rfl) (by kernel_rfl) h
end Go.Proofs.Ytdkidgkiplcggaa.d
end
section
open Go.Proofs Go Go.Am Go.Op
namespace Go.Proofs.Ytdkidgkiplcggaa.d
set_option linter.unusedSectionVars false
def c1l(ys:List In)(ext:List Int)(i:Nat):List Int:=match ys[i]? with
 |some y=>if a2C y then b3k y (ext.getD (i+1) 0)++(if i+1<ys.length then[ext.getD (i+1) 0]else[]) else[]
 |none=>[]
theorem c5L(ys:List In)(ext:List Int)(i:Nat):b5d ys ext i=c1l ys ext i:=by
 unfold b5d c1l
 cases ys[i]? with
 |none=>rfl
 |some y=>simp only[c1x]
def c3U(ys:List In)(ext:List Int)(i:Nat)(st:List Int×List G8):List Int×List G8:=match ys[i]? with
 |some y=>if st.1.head? =some (ext.getD i 0) then(st.1.tail,st.2++[⟨ext.getD i 0,ext.getD (i+1) 0,b3k y (ext.getD (i+1) 0)⟩])
  else(st.1,a1J st.2 (ext.getD (i+1) 0) (b3k y (ext.getD (i+1) 0)))
 |none=>st
def b6I(ys:List In)(ext tops:List Int):Nat→List Int×List G8
 |0=>(tops,[])
 |n+1=>c3U ys ext n (b6I ys ext tops n)
theorem c5J(ys:List In)(ext:List Int)(i:Nat)(st:List Int×List G8):b9u ys ext i st=c3U ys ext i st:=by
 unfold b9u c3U
 cases ys[i]? with
 |none=>rfl
 |some y=>simp only[c1x]
theorem c0P(ys:List In)(ext tops:List Int):∀n,B0 ys ext tops n=b6I ys ext tops n
 |0=>rfl
 |n+1=>by rw[B0,b6I,c5J,c0P]
def c0L(code:List Int):List G8×Int:=match b5e code with
 | .error e=>([],e)
 | .ok L=>a5D code.length (b6I (F9 L) (L9 L++[(code.length:Int)]) (b5I (0::(List.range (F9 L).length).flatMap (c1l (F9 L) (L9 L++[(code.length:Int)])))) (F9 L).length)
theorem c3d(code:List Int):a4C code=c0L code:=by
 unfold a4C c0L
 cases b5e code with
 |error e=>rfl
 |ok L=>
  show a5D _ (B0 _ _ (a2e (B6 _ _ _)) _)=a5D _ _
  rw[c0P,c2O]
  unfold B6
  rw[show b5d (F9 L) (L9 L++[(code.length:Int)])=c1l (F9 L) (L9 L++[(code.length:Int)]) from funext fun i=>c5L _ _ i]
theorem b4h{l:List G8}{s:List Int}(h0:∀b,l[0]? =some b→b.at'∈s)(hc:∀a i b,a∈s→r7 l a=some i→l[i]? =some b→∀n∈b.next,(r7 l n).isSome=true→n∈s):∀ {n:Int},a4H l n→n∈s:=by
 intro n h
 induction h with
 |base hb=>exact h0 _ hb
 |step _ h1 h2 h3 h4 ih=>exact hc _ _ _ ih h1 h2 _ h3 h4
theorem b7S{a b:List Int}(ha:a.Pairwise (· < ·))(hb:b.Pairwise (· < ·))(h:∀n,n∈a↔n∈b):a=b:=a0D ha hb h
section
variable{E:d6}{w0:i5}
theorem neI{a b:Int}:(a != b)=decide (a≠b):=by by_cases h:a=b<;>simp[h,bne]
theorem eqI{a b:Int}:(a==b)=decide (a=b):=by by_cases h:a=b<;>simp[h]
theorem b4W{a b:List G8}(ha:a.length<2^40)(hb:b.length<2^40)(hna:∀x∈a,x.next.length<2^60)(hnb:∀x∈b,x.next.length<2^60):a1o Try.prog E w0 a1R [p6 a,p6 b] (.bool (decide (a=b))):=fun S=>by
 refine b2H ?_
 unfold a9Y
 rw[J5,oD,J5,oD,a9f,oD,neI,cdI]
 refine⟨fun h=> ?_,fun h=> ?_⟩
 ·rw[decide_eq_false (fun e=>h (by rw[e]))]
  exact b9.pure
 have h:a.length=b.length:=by omega
 refine a9I (I:=fun n x0 x1 x5 S'=>S'=S∧x0=p6 a∧x1=p6 b∧∃i:Nat,x5= .int .i64 (i:Int)∧i+n=a.length∧a.take i=b.take i) ?_ (n:=a.length) ⟨rfl,rfl,rfl,0,rfl,by omega,rfl⟩
 rintro n _ _ _ _ ⟨rfl,rfl,rfl,i,rfl,hi,ht⟩
 unfold a2O
 rw[J5,oD,V6,oD,cdI]
 refine⟨fun hlt=> ?_,fun hge=> ?_⟩
 ·have hlt:i<a.length:=by omega
  have ea:a[i]? =some a[i]:=List.getElem?_eq_getElem hlt
  have eb:b[i]? =some b[i]:=List.getElem?_eq_getElem (by omega)
  have ma:=hna a[i] (List.getElem_mem _)
  have mb:=hnb b[i] (List.getElem_mem _)
  have hne:a[i]≠b[i]→a≠b:=fun h e=>h (by simp only[e])
  generalize a[i]=x at*
  generalize b[i]=y at*
  have r0:∀b:G8,(C3 b)[0]? =some (.int .i64 b.at'):=fun _=>rfl
  have r1:∀b:G8,(C3 b)[1]? =some (.int .i64 b.end'):=fun _=>rfl
  have r2:∀b:G8,(C3 b)[2]? =some (iD b.next):=fun _=>rfl
  simp only[E7 ea,E7 eb,oD,ofE,Nat.zero_add,lsE,r0,a9f,neI]
  by_cases c0:x.at'=y.at'
  case neg=>
   simp only[decide_eq_true c0,wdB,t1,vdF,oD,pdB,if_true,gdF,cdT]
   rw[decide_eq_false (hne fun e=>c0 (by rw[e]))]
   exact b9.pure
  have c0':¬(x.at'≠y.at'):=fun h=>h c0
  simp only[decide_eq_false c0',wdB,t2,vdT,oD,E7 ea,E7 eb,ofE,Nat.zero_add,lsE,r1,a9f,neI,pdB,Bool.false_eq_true,if_false]
  by_cases c1:x.end'=y.end'
  case neg=>
   simp only[decide_eq_true c1,wdB,t1,vdF,oD,pdB,if_true,gdF,cdT]
   rw[decide_eq_false (hne fun e=>c1 (by rw[e]))]
   exact b9.pure
  have c1':¬(x.end'≠y.end'):=fun h=>h c1
  simp only[decide_eq_false c1',wdB,t2,vdT,oD,E7 ea,E7 eb,ofE,Nat.zero_add,lsE,r2,pdB,Bool.false_eq_true,if_false,gdT]
  refine(show r8 Try.prog E w0 A1 [iD x.next,iD y.next] _ _ from(a1F ma mb).use ?_)
  by_cases c2:x.next=y.next
  case neg=>
   simp only[decide_eq_false c2,unN,Bool.not_false,vdT,oD,pdB,Bool.false_eq_true,if_false,cdT]
   rw[decide_eq_false (hne fun e=>c2 (by rw[e]))]
   exact b9.pure
  simp only[decide_eq_true c2,unN,Bool.not_true,vdT,oD,pdB,Bool.false_eq_true,if_false,cdF]
  rw[C6,oD,g9 (by omega) (by omega)]
  refine⟨n - 1,by omega,by trivial,by trivial,by trivial,i+1,rfl,by omega, ?_⟩
  have hxy:x=y:=by cases x;cases y;simp only at c0 c1 c2;rw[c0,c1,c2]
  rw[List.take_add_one,List.take_add_one,ht,ea,eb,hxy]
 ·rw[List.take_of_length_le (by omega),List.take_of_length_le (by omega)]at ht
  rw[decide_eq_true ht]
  exact b9.pure
end
end Go.Proofs.Ytdkidgkiplcggaa.d
end
