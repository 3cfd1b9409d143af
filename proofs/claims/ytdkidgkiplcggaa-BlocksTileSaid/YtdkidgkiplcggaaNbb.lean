/-
  BlocksTileSaid: part Nbb of its proof.
-/
import Derived.Test.YtdkidgkiplcggaaNba
import Derived.Test.YtdkidgkiplcggaaNaz
import Derived.Test.YtdkidgkiplcggaaNal
import Derived.ChangeSlices
import Derived.Carry
import Derived.Test.YtdkidgkiplcggaaNat
import Derived.SizedLaws
import Derived.Test.YtdkidgkiplcggaaNav
import Derived.Test.YtdkidgkiplcggaaRows
set_option linter.unusedVariables false
set_option linter.unusedSimpArgs false
set_option maxRecDepth 100000
section
open Go.Proofs Go Go.Am Go.Op
namespace Go.Proofs.Ytdkidgkiplcggaa.d
set_option linter.unusedSectionVars false
structure c3i (code:List Int) (b:P6) (ys:List In):Prop where
 lo:0≤b.at'
 hi:b.end'≤(code.length:Int)
 lt:b.at'<b.end'
 is:(code.drop b.at'.toNat).take (b.end' - b.at').toNat=A8 ys
 good:∀y∈ys,isS y=true
 ne:ys≠[]
 inner:∀(j:Nat) y,j+1<ys.length→ys[j]? =some y→J3 y=false
 last:∀y,ys.getLast? =some y→J3 y=false→b.next=[b.end']
structure c0L (code:List Int) (l:List P6):Prop where
 ne:l≠[]
 first:∀b,l[0]? =some b→b.at'=0
 last:∀b,l.getLast? =some b→b.end'=(code.length:Int)
 side:∀(i:Nat) b c,l[i+1]? =some b→l[i]? =some c→b.at'=c.end'
 rises:∀b∈l,b.next.Pairwise (· < ·)
 heads:∀b∈l,∀q∈b.next,q∈l.map (·.at')
 body:∀b∈l,∃ys,c3i code b ys
theorem b6d(y:In)(n:Int):(t8 y n).Pairwise (· < ·):=by
 unfold t8
 split
 ·exact List.Pairwise.nil
 split
 ·exact List.pairwise_singleton _ _
 ·exact(D1 _).1
theorem a7b{y:In}(h:J3 y=false)(n:Int):t8 y n=[n]:=by
 have hn:¬(46≤y.op∧y.op≤49∨y.op=51∨y.op=52):=fun hh=>by unfold J3 at h;rw[decide_eq_true hh]at h;cases h
 unfold t8
 rw[if_neg (by omega),if_neg (by omega),if_neg (by omega),if_neg (by omega)]
 exact Y6 (D1 _).1 (List.pairwise_singleton _ _) fun q=>(D1 _).2 q
theorem b6z{cuts:List (Nat×Nat)}{n:Nat}(h:chn 0 cuts n)(h0:cuts≠[]):∃cs s,cuts=cs++[(s,n)]∧s<n:=by
 obtain⟨cs,⟨s,t⟩,e⟩:∃cs c,cuts=cs++[c]:=⟨_,_,(List.dropLast_concat_getLast h0).symm⟩
 rw[e]at h
 obtain⟨_,h2,h3⟩:=a3n.1 h
 exact⟨cs,s,by rw[e,h3],by omega⟩
theorem b7A:∀ {l:List (Nat×Nat)} {a b:Nat},chn a l b→∀(i:Nat) c d,l[i+1]? =some c→l[i]? =some d→c.1=d.2
 | [],_,_,_,i,c,d,h,_=>by simp at h
 |(s,t)::l,a,b,⟨h1,h2,h3⟩,0,c,d,hc,hd=>by
  simp at hd hc
  subst hd
  cases l with
  |nil=>simp at hc
  |cons x l=>obtain⟨u,v⟩:=x;simp at hc;subst hc;exact h3.1
 |(s,t)::l,a,b,⟨h1,h2,h3⟩,i+1,c,d,hc,hd=>b7A h3 i c d (by simpa using hc) (by simpa using hd)
theorem b1q{ys:List In}{c:Nat×Nat}(h0:0<c.2)(h:c.2≤ys.length):∃y,ys[c.2 - 1]? =some y∧(mkB ys c).next=t8 y (Z9 ys c.2):=by
 have ey:ys[c.2 - 1]? =some ys[c.2 - 1]:=List.getElem?_eq_getElem (by omega)
 refine⟨_,ey, ?_⟩
 simp only[mkB,ey]
theorem b7v{ys:List In}{cuts:List (Nat×Nat)}(hs:∀y∈ys,isS y=true)(h:Cut ys cuts):c0L (A8 ys) (cuts.map (mkB ys)):=by
 have hch:=b2j h.chain
 have hin:=b2G h.chain
 have isat:∀q,q∈(cuts.map (mkB ys)).map (·.at')↔b5i ys q:=fun q=>by
  rw[List.map_map]
  exact h.heads q
 obtain⟨cs,sl,hcs,hsl⟩:=b6z h.chain h.ne
 have hnx:∀(c:Nat×Nat),c∈cuts→∀j y,c.1≤j→j+1<c.2→ys[j]? =some y→J3 y=false:=fun c hc j y h1 h2 hy=>by
  cases he:J3 y with
  |false=>rfl
  |true=>
   exfalso
   have h3:=(hch.2 c hc).2.2
   have:=(h.heads (Z9 ys (j+1))).2 (.inr ⟨j,y,hy,he, .inr ⟨by omega,rfl⟩⟩)
   obtain⟨d,hd,e⟩:=List.mem_map.1 this
   have hd2:=hch.2 d hd
   have:=c2u (by omega) (by omega) e
   exact hin c hc d hd ⟨by omega,by omega⟩
 refine⟨fun e=>h.ne (List.map_eq_nil_iff.1 e),fun b hb=> ?_,fun b hb=> ?_,fun i b c hb hc=> ?_,fun b hb=> ?_,fun b hb q hq=> ?_,fun b hb=> ?_⟩
 ·have hc:=h.chain
  cases hcs':cuts with
  |nil=>exact absurd hcs' h.ne
  |cons c l=>
   obtain⟨s,t⟩:=c
   rw[hcs']at hb hc
   simp only[List.map_cons,List.getElem?_cons_zero,Option.some.injEq]at hb
   rw[←hb]
   show Z9 ys s=0
   rw[hc.1];rfl
 ·rw[hcs,List.map_append,List.map_cons,List.map_nil,List.getLast?_concat]at hb
  cases hb
  show Z9 ys ys.length=_
  rw[a5D]
 ·rw[List.getElem?_map,Option.map_eq_some_iff]at hb hc
  obtain⟨b',hb',rfl⟩:=hb
  obtain⟨c',hc',rfl⟩:=hc
  show Z9 ys b'.1=Z9 ys c'.2
  rw[b7A h.chain i b' c' hb' hc']
 ·obtain⟨c,hc,rfl⟩:=List.mem_map.1 hb
  have:=hch.2 c hc
  obtain⟨y,_,e⟩:=b1q (ys:=ys) (c:=c) (by omega) (by omega)
  rw[e]
  exact b6d y _
 ·obtain⟨c,hc,rfl⟩:=List.mem_map.1 hb
  have hc2:=hch.2 c hc
  obtain⟨y,hy,e⟩:=b1q (ys:=ys) (c:=c) (by omega) (by omega)
  rw[isat]
  rw[e]at hq
  have hc1:c.2 - 1+1=c.2:=by omega
  cases he:J3 y with
  |true=>exact .inr ⟨c.2 - 1,y,hy,he, .inl (by rw[hc1];exact hq)⟩
  |false=>
   rw[a7b he,List.mem_singleton]at hq
   subst hq
   rcases b7z h.chain c hc with hn|⟨d,hd,hde⟩
   ·exfalso
    refine h.last y ?_ ?_
    ·rw[List.getLast?_eq_getElem?, ←hn];exact hy
    ·rw[a7b he,List.mem_singleton]
   ·rw[←h.heads, ←hde]
    exact List.mem_map.2 ⟨d,hd,rfl⟩
 ·obtain⟨c,hc,rfl⟩:=List.mem_map.1 hb
  have hc2:=hch.2 c hc
  have hbl:((ys.drop c.1).take (c.2 - c.1)).length=c.2 - c.1:=by rw[List.length_take,List.length_drop];omega
  have hget:∀j,j<c.2 - c.1→((ys.drop c.1).take (c.2 - c.1))[j]? =ys[c.1+j]? :=fun j hj=>by rw[List.getElem?_take,if_pos hj,List.getElem?_drop]
  have hlt:Z9 ys c.1<Z9 ys c.2:=b2V (by omega) (by omega)
  have hge:0≤Z9 ys c.1:=by unfold Z9;omega
  refine⟨(ys.drop c.1).take (c.2 - c.1),hge, ?_,hlt, ?_,fun y hy=>hs y (List.mem_of_mem_drop (List.mem_of_mem_take hy)),fun e=>by rw[e]at hbl;simp at hbl;omega,fun j y hj hy=> ?_,fun y hy he=> ?_⟩
  ·show Z9 ys c.2≤_
   rw[a5D]
   by_cases e:c.2=ys.length
   ·rw[e];exact Int.le_refl _
   ·exact Int.le_of_lt (b2V (by omega) (Nat.le_refl _))
  ·show((A8 ys).drop (Z9 ys c.1).toNat).take (Z9 ys c.2 - Z9 ys c.1).toNat=_
   have e1:A8 ys=A8 (ys.take c.1)++(A8 ((ys.drop c.1).take (c.2 - c.1))++A8 (ys.drop c.2)):=by
    rw[←a0M, ←a0M]
    congr 1
    have:ys.drop c.2=(ys.drop c.1).drop (c.2 - c.1):=by rw[List.drop_drop];congr 1;omega
    rw[this,List.take_append_drop,List.take_append_drop]
   have e2:Z9 ys c.2 - Z9 ys c.1=((A8 ((ys.drop c.1).take (c.2 - c.1))).length:Int):=by
    have:ys.take c.2=ys.take c.1++(ys.drop c.1).take (c.2 - c.1):=by
     rw[←List.take_append_drop c.1 (ys.take c.2),List.take_take,List.drop_take,Nat.min_eq_left (by omega)]
    unfold Z9
    rw[this,a0M,List.length_append]
    omega
   rw[e2,Int.toNat_natCast]
   have e3:(Z9 ys c.1).toNat=(A8 (ys.take c.1)).length:=by unfold Z9;rw[Int.toNat_natCast]
   rw[e3]
   conv=>lhs;rw[e1]
   rw[List.drop_left,List.take_left]
  ·rw[hbl]at hj
   rw[hget j (by omega)]at hy
   exact hnx c hc (c.1+j) y (by omega) (by omega) hy
  ·rw[List.getLast?_eq_getElem?,hbl,hget _ (by omega),show c.1+(c.2 - c.1 - 1)=c.2 - 1 by omega]at hy
   obtain⟨y',hy',e⟩:=b1q (ys:=ys) (c:=c) (by omega) (by omega)
   rw[hy]at hy'
   cases hy'
   rw[e,a7b he]
   rfl
section
variable{E:d6}{w0:i9}
theorem c6c{rows:List (List D)}{sz a b:Nat}(h:a≤b)(hb:b≤rows.length):∃x,W9 sz (.lst rows sz) (some (.int .i64 (a:Int))) (some (.int .i64 (b:Int))) none=some x∧Wk x (.lst ((rows.drop a).take (b - a)) sz):=by
 refine⟨b5k ((rows.drop a).take (b - a)) ((rows.drop b).take (rows.length - b)) sz, ?_,c2H _ _ _⟩
 ·simp only[W9,E3,b5P,a4G,b0A,if_true,Option.bind_some,c2T hb,c2T h,Option.map_some]
theorem c4i{ys:List In}(hs:∀y∈ys,isS y=true)(hb:∀b∈A8 ys,I2 b)(hl:(A8 ys).length<2^30):a0A Try.prog E w0 L2 [bD (A8 ys)] (.tup [R8 ys,iD (a2x 0 ys), .int .i64 0]):=fun S=>by
 obtain⟨L,h1,h2,h3⟩:=c2O hs
 have:=(b2f (E:=E) (w0:=w0) hb hl) S
 unfold c2s at this
 rw[h1]at this
 simp only at this
 rw[h2,h3]at this
 exact this
theorem c2t{code:List Int}{a n:Nat}:D.lst (((W6 (code.map (D.int .u8))).drop a).take n) 1=bD ((code.drop a).take n):=by
 unfold bD W6
 rw[←List.map_drop, ←List.map_take, ←List.map_drop, ←List.map_take]
theorem c1a{ys:List In}{i:Nat}{y:In}(h:ys[i]? =some y):m9 4 (R8 ys) (.int .i64 (i:Int))=some (.elt (inC y) 0):=b2R h
theorem c4V{l:List P6}{code:List Int}{N0:D→D→D→b4→Prop}{i:Nat}{b:P6}{ys:List In}(hB:c3i code b ys)(hyl:ys.length<2^40){k:Nat}{T:b4}(hk:H5 T k 3 (D8 b))
  (hgo:N0 (bD code) (B5 l) (.int .i64 (IntKind.i64.wrap ((i:Int)+1))) T):
  d5 Try.prog E w0 (.loop G8) (f0 197 [0,3,8,9,11,12,14] [bD code,B5 l, .int .i64 (i:Int), .ptr k 0,R8 ys,iD (a2x 0 ys),(.int .i64 0)]) T (G5 E w0 N0 (tF E)):=by
 have hpos:0<ys.length:=List.length_pos_iff.2 hB.ne
 refine a2J (I:=fun m x0 x3 x8 x9 x11 x12 x14 T'=>T'=T∧x0=bD code∧x3=B5 l∧x8= .int .i64 (i:Int)∧x9= .ptr k 0∧x11=R8 ys∧x12=iD (a2x 0 ys)∧∃j:Nat,x14= .int .i64 (j:Int)∧j+m=ys.length - 1) ?_ (n:=ys.length - 1) ⟨rfl,rfl,rfl,rfl,rfl,rfl,rfl,0,rfl,by omega⟩
 rintro m _ _ _ _ _ _ _ T' ⟨hT,rfl,rfl,rfl,rfl,rfl,rfl,j,rfl,hj⟩
 subst hT
 unfold N8
 have hm1:((ys.length:Int) - 1)=((ys.length - 1:Nat):Int):=by omega
 rw[a3O,oD,a2n,oD,g9 (by omega) (by omega),hm1,a2X,oD,cdI]
 refine⟨fun hlt=> ?_,fun hge=> ?_⟩
 ·have ey:ys[j]? =some ys[j]:=List.getElem?_eq_getElem (by omega)
  have he:=hB.inner j _ (by omega) ey
  generalize ys[j]=y at ey he
  rw[c1a ey,oD,ofE,oD,lsE,show(inC y)[0+0]? =some (.int .u8 y.op) from rfl,oD]
  refine(show s4 Try.prog E w0 Q9 [.int .u8 y.op] _ _ from a6p.use ?_)
  rw[he,cdF,K9,oD,g9 (by omega) (by omega)]
  exact⟨m - 1,by omega,rfl,rfl,rfl,rfl,rfl,rfl,rfl,j+1,by simp,by omega⟩
 ·have ey:ys[ys.length - 1]? =some ys[ys.length - 1]:=List.getElem?_eq_getElem (by omega)
  have hel:ys.getLast? =some ys[ys.length - 1]:=by rw[List.getLast?_eq_getElem?,ey]
  generalize ys[ys.length - 1]=y at ey hel
  rw[oD,a2n,oD,g9 (by omega) (by omega),hm1,c1a ey,oD,ofE,oD,lsE,show(inC y)[0+0]? =some (.int .u8 y.op) from rfl,oD]
  refine(show s4 Try.prog E w0 Q9 [.int .u8 y.op] _ _ from a6p.use ?_)
  rw[unN,oD]
  have n0:decide ((((a2x 0 ys).length:Nat):Int)≠((ys.length:Nat):Int))=false:=by rw[a3b];simp
  cases he:J3 y with
  |true=>
   simp only[Bool.not_true,wdB,t3,vdF,oD,gdF,pdB,Bool.false_eq_true,if_false,t2,vdT,a1q,a3O,a5k,n0,cdF,K9]
   exact hgo
  |false=>
   have hnx:=hB.last y hel he
   simp only[Bool.not_false,wdB,t4,vdT,ofP,oD,hk.ld,Nat.zero_add,bR2,bR1,gdT]
   rw[show z6 1 (List.replicate 1 [D.int .i64 0]) [(0, .int .i64 b.end')]=some (iC [b.end']) from rfl]
   refine P7 (rows:=iC [b.end']) rfl ?_
   refine(show s4 Try.prog E w0 I3 [iD b.next,iD [b.end']] _ _ from(a3W (by rw[hnx];simp) (by simp)).use ?_)
   rw[decide_eq_true hnx]
   simp only[unN,Bool.not_true,vdT,oD,pdB,if_true,wdB,t2,a1q,a3O,a5k,n0,Bool.false_eq_true,if_false,cdF,K9]
   exact hgo
theorem c5g{l:List P6}{code:List Int}(hT:c0L code l)(hl:l.length<2^40)(hcl:code.length<2^20)(hcb:∀b∈code,I2 b){N0:D→D→D→b4→Prop}{i:Nat}{b:P6}(hb:l[i]? =some b)(hbn:b.next.length<2^40){k:Nat}{T:b4}(hk:H5 T k 3 (D8 b))
  (hgo:N0 (bD code) (B5 l) (.int .i64 (IntKind.i64.wrap ((i:Int)+1))) T):
  d5 Try.prog E w0 (.loop C5) (f0 197 [0,3,8,9,10] [bD code,B5 l, .int .i64 (i:Int), .ptr k 0,(.int .i64 0)]) T (C6 E w0 N0 (tF E)):=by
 have hbm:=List.mem_of_getElem? hb
 refine a2N (I:=fun m x0 x3 x8 x9 x10 T'=>T'=T∧x0=bD code∧x3=B5 l∧x8= .int .i64 (i:Int)∧x9= .ptr k 0∧∃j:Nat,x10= .int .i64 (j:Int)∧j+m=b.next.length) ?_ (n:=b.next.length) ⟨rfl,rfl,rfl,rfl,rfl,0,rfl,by omega⟩
 rintro m _ _ _ _ _ T' ⟨hT',rfl,rfl,rfl,rfl,j,rfl,hj⟩
 subst hT'
 unfold M9
 rw[ofP,oD,hk.ld,show(D8 b)[0+2]? =some (iD b.next) from rfl,oD,a1q,oD,a2X,oD,cdI]
 refine⟨fun hlt=> ?_,fun hge=> ?_⟩
 ·have hlt':j<b.next.length:=by omega
  have en:b.next[j]? =some b.next[j]:=List.getElem?_eq_getElem hlt'
  have hqm:b.next[j]∈b.next:=List.getElem_mem _
  have hr:=hT.rises b hbm
  have hgo1:∃m',m'<m∧(T'=T'∧bD code=bD code∧B5 l=B5 l∧D.int .i64 (i:Int)= .int .i64 (i:Int)∧D.ptr k 0= .ptr k 0∧∃j':Nat,D.int .i64 (IntKind.i64.wrap ((j:Int)+1))= .int .i64 (j':Int)∧j'+m'=b.next.length):=
   ⟨m - 1,by omega,rfl,rfl,rfl,rfl,rfl,j+1,by rw[g9 (by omega) (by omega)];simp,by omega⟩
  have hprev:∀i',i'+1=j→∃p,b.next[i']? =some p∧p<b.next[j]:=fun i' e=>by
   refine⟨b.next[i'],List.getElem?_eq_getElem (by omega),List.pairwise_iff_getElem.1 hr i' j (by omega) hlt' (by omega)⟩
  generalize b.next[j]=q at en hqm hprev
  rw[oD,hk.ld,show(D8 b)[0+2]? =some (iD b.next) from rfl,oD,a1S en,oD,lsE,List.getElem?_cons_zero,oD]
  refine(show s4 Try.prog E w0 a2l [B5 l, .int .i64 q] _ _ from(b5s hl).use ?_)
  rw[decide_eq_true (hT.heads b hbm q hqm)]
  simp only[unN,oD,Bool.not_true,wdB,t2,vdT,b0v]
  by_cases h0:(j:Int)>0
  ·obtain⟨p,e1,e2⟩:=hprev (j - 1) (by omega)
   have hj1:((j:Int) - 1)=((j - 1:Nat):Int):=by omega
   simp only[decide_eq_true h0,wdB,t4,vdT,ofP,oD,hk.ld,Nat.zero_add,bR2,a1S en,lsE,List.getElem?_cons_zero,a2n]
   rw[g9 (by omega) (by omega),hj1]
   simp only[a1S e1,oD,lsE,List.getElem?_cons_zero,c2y,decide_eq_false (show ¬(q≤p) by omega),pdB,if_true,Bool.false_eq_true,if_false,cdF,K9]
   obtain⟨m',g1,g2,_,_,_,_,j',g3,g4⟩:=hgo1
   exact⟨m',g1,by trivial,by trivial,by trivial,by trivial,by trivial,j',g3,g4⟩
  ·simp only[decide_eq_false h0,wdB,t3,vdF,oD,pdB,Bool.false_eq_true,if_false,cdF,K9]
   obtain⟨m',g1,g2,_,_,_,_,j',g3,g4⟩:=hgo1
   exact⟨m',g1,by trivial,by trivial,by trivial,by trivial,by trivial,j',g3,g4⟩
 ·obtain⟨ys,hB⟩:=hT.body b hbm
  obtain⟨n0,en0⟩:∃n:Nat,b.at'=(n:Int):=⟨b.at'.toNat,by have:=hB.lo;omega⟩
  obtain⟨n1,en1⟩:∃n:Nat,b.end'=(n:Int):=⟨b.end'.toNat,by have:=hB.lo;have:=hB.lt;omega⟩
  have h1:=hB.lt
  have h2:=hB.hi
  obtain⟨x,hx,hxw⟩:=c6c (rows:=W6 (code.map (D.int .u8))) (sz:=1) (a:=n0) (b:=n1) (by omega) (by simp;omega)
  rw[c2t]at hxw
  have his:=hB.is
  rw[en0,en1,Int.toNat_natCast,show((n1:Int) - n0).toNat=n1 - n0 by omega]at his
  rw[his]at hxw
  have hcb':∀b∈A8 ys,I2 b:=fun z hz=>by rw[←his]at hz;exact hcb z (List.mem_of_mem_drop (List.mem_of_mem_take hz))
  have hcl':(A8 ys).length<2^20:=by rw[←his,List.length_take,List.length_drop];omega
  have hyl:=a3j ys
  have hpos:0<ys.length:=List.length_pos_iff.2 hB.ne
  rw[ofP,oD,hk.ld,show(D8 b)[0+0]? =some (.int .i64 b.at') from rfl,oD,ofP,oD,hk.ld,show(D8 b)[0+1]? =some (.int .i64 b.end') from rfl,oD,en0,en1]
  rw[show bD code=D.lst (W6 (code.map (D.int .u8))) 1 from rfl,hx,oD]
  refine DF.weak (es:=[bD (A8 ys)]) ⟨hxw,trivial⟩ ?_
  refine(show s4 Try.prog E w0 L2 [bD (A8 ys)] _ _ from(c4i hB.good hcb' (by omega)).use ?_)
  simp only[exD,List.getElem?_cons_zero,List.getElem?_cons_succ,oD,a5k,show decide ((0:Int)≠0)=false from rfl,wdB,t2,vdT,a3O,a3Y,decide_eq_false (show ¬((ys.length:Int)=0) by omega),pdB,Bool.false_eq_true,if_false,cdF]
  exact c4V (l:=l) hB (by omega) hk hgo
theorem b0t{code:List Int}(hcb:∀b∈code,I2 b){S:b4}:s4 Try.prog E w0 a1w [bD code] S fun v _=>v= .bool true:=by
 refine a4k ?_
 unfold a1z
 have lb:j9 (bD code)=some (.int .i64 code.length):=by simp[bD,W6]
 rw[lb,oD,b0v,oD,cdI]
 refine⟨fun _=>b3J,fun hl=> ?_⟩
 have hl:code.length≤6000:=by omega
 refine(show s4 Try.prog E w0 W0 [bD code] _ _ from(a7s hcb (by omega)).use ?_)
 unfold ofD
 simp only[exD,List.getElem?_cons_zero,List.getElem?_cons_succ,oD,a5k]
 rw[cdI]
 refine⟨fun he=> ?_,fun he=> ?_⟩
 ·refine(show s4 Try.prog E w0 L2 [bD code] _ _ from(b2f hcb (by omega)).use ?_)
  have hfin:∀S:b4,a0a (b7 (.bool true) true) (fun K=>s4 Try.prog E w0 I0 [] S K) S fun v32 S33=>a8 (B6 (.bool true) v32 (.bool false)) fun v34=>b9 E (fun v _=>v= .bool true) v34 S33:=fun S=>by
   rw[wdB,t4,gdT]
   refine b0Z.use ?_
   rw[pdB,if_pos rfl,oD]
   exact b9.here rfl
  unfold M0 at he ⊢
  cases ha:a6a code with
  |error e=>
   have hne:=a7l _ _ _ ha
   simp only[ha,c2s,exD,List.getElem?_cons_zero,List.getElem?_cons_succ,oD,show j9 (B5 [])=some (.int .i64 0) from rfl,a3Y,decide_true,wdB,t4,vdT,a5k,decide_eq_true hne,pdB,if_true,t1,vdF]
   exact hfin _
  |ok L=>
   simp only[ha]at he ⊢
   have hof:∀st,(a0I code.length st).2≠0→a0I code.length st=([],190):=fun st h=>by
    obtain⟨s1,s2⟩:=st
    unfold a0I at h ⊢
    cases s1 with
    |cons a r=>rfl
    |nil=>
     cases hg:s2.getLast? with
     |none=>rfl
     |some b=>
      simp only[hg]at h ⊢
      by_cases hm:(code.length:Int)∈b.next
      ·rw[if_pos hm]
      ·rw[if_neg hm]at h;exact absurd rfl h
   rw[hof _ he]
   simp only[c2s,exD,List.getElem?_cons_zero,List.getElem?_cons_succ,oD,show j9 (B5 [])=some (.int .i64 0) from rfl,a3Y,decide_true,wdB,t4,vdT,a5k,show decide ((0:Int)≠0)=false from rfl,t3,vdF,pdB,Bool.false_eq_true,if_false,t2,if_true]
   exact hfin _
 ·have he0:M0 code=((M0 code).1,0):=by
   have:(M0 code).2=0:=by omega
   rw[←this]
  generalize hbl:(M0 code).1=l at*
  obtain⟨ys,cuts,hc,hs,hcut,rfl⟩:=b3j hcb he0
  have hT:c0L code (cuts.map (mkB ys)):=by rw[hc];exact b7v hs hcut
  have hlen:(cuts.map (mkB ys)).length≤code.length:=by
   have h1:=a3k (l1:=cuts.map fun c=>Z9 ys c.1) (l2:=(List.range ys.length).map (Z9 ys)) (List.Pairwise.imp (fun{a b:Int} (h:a<b)=>(by omega:a≠b)) (a7d hcut.chain)) fun q hq=>by
    obtain⟨c,hc,rfl⟩:=List.mem_map.1 hq
    have:=(b2j hcut.chain).2 c hc
    exact List.mem_map.2 ⟨c.1,List.mem_range.2 (by omega),rfl⟩
   have h2:=a3j ys
   rw[hc]
   simp at h1 ⊢
   omega
  generalize cuts.map (mkB ys)=l at*
  have hnx:∀b∈l,b.next.length<2^40:=fun b hb=>by
   have h1:=a3k (l1:=b.next) (l2:=l.map (·.at')) ((hT.rises b hb).imp fun h e=>by omega) fun q hq=>hT.heads b hb q hq
   simp at h1
   omega
  obtain⟨b0,l',e0⟩:∃b0 l',l=b0::l':=by
   cases l with
   |nil=>exact absurd rfl hT.ne
   |cons b l=>exact⟨b,l,rfl⟩
  have hb0:l[0]? =some b0:=by rw[e0];rfl
  have hpos:0<l.length:=by rw[e0];simp
  have hbl:l[l.length - 1]? =some l[l.length - 1]:=List.getElem?_eq_getElem (by omega)
  have hlast:=hT.last _ (by rw[List.getLast?_eq_getElem?];exact hbl)
  generalize l[l.length - 1]=bl at hbl hlast
  have hm1:((l.length:Int) - 1)=((l.length - 1:Nat):Int):=by omega
  have i0:m9 3 (B5 l) (.int .i64 0)=some (.elt (D8 b0) 0):=a1E hb0
  rw[a0Z,oD,a3Y,oD,decide_eq_false (by omega)]
  simp only[wdB,t2,vdT,oD,i0,ofE,Nat.zero_add,lsE,bR0,a5k,decide_eq_false (show ¬(b0.at'≠0) from fun h=>h (hT.first b0 hb0)),pdB,Bool.false_eq_true,if_false,a0Z,a2n]
  rw[g9 (by omega) (by omega),hm1]
  simp only[a1E hbl,oD,ofE,Nat.zero_add,lsE,bR1,lb,a5k,decide_eq_false (show ¬(bl.end'≠(code.length:Int)) from fun h=>h hlast),vdT,pdB,Bool.false_eq_true,if_false,cdF]
  refine a2L (I:=fun m x0 x3 x8 T=>x0=bD code∧x3=B5 l∧∃i:Nat,x8= .int .i64 (i:Int)∧i+m=l.length) ?_ (n:=l.length) ⟨rfl,rfl,0,rfl,by omega⟩
  rintro m _ _ _ T ⟨rfl,rfl,i,rfl,hi⟩
  unfold O3
  rw[a0Z,oD,a2X,oD,cdI]
  refine⟨fun hlt=> ?_,fun hge=>b3J⟩
  have hlt':i<l.length:=by omega
  have eb:l[i]? =some l[i]:=List.getElem?_eq_getElem hlt'
  have hprev:∀i',i'+1=i→∃c,l[i']? =some c∧l[i].at'=c.end':=fun i' e=>by
   refine⟨l[i'],List.getElem?_eq_getElem (by omega),hT.side i' _ _ (by rw[e];exact eb) (List.getElem?_eq_getElem (by omega))⟩
  generalize l[i]=b at eb hprev
  have hbm:=List.mem_of_getElem? eb
  rw[a1E eb,oD,laE,if_pos ⟨by decide,by simp[D8]⟩,oD]
  intro k a nk
  refine(H5.new (sz:=3) (c:=[.int .i64 0, .int .i64 0, .nilSlc])).st (ds:=D8 b) (clA _) ⟨rfl,by decide,by simp[D8]⟩ fun c=> ?_
  rw[b4.set_set,show n8 [D.int .i64 0, .int .i64 0, .nilSlc] 0 (D8 b)=D8 b from rfl]
  have ck:H5 (T.set k ⟨3,[D8 b],c⟩) k 3 (D8 b):=H5.new
  generalize T.set k ⟨3,[D8 b],c⟩=T1 at ck
  obtain⟨ysb,hB⟩:=hT.body b hbm
  have h1:=hB.lt
  have main:d5 Try.prog E w0 (.loop C5) (f0 197 [0,3,8,9,10] [bD code,B5 l, .int .i64 (i:Int), .ptr k 0,(.int .i64 0)]) T1 (C6 E w0 (fun x0 x3 x8 S_1=>∃m_1,m_1<m∧x0=bD code∧x3=B5 l∧∃i:Nat,x8= .int .i64 (i:Int)∧i+m_1=l.length) (tF E)):=by
   refine c5g hT (by omega) (by omega) hcb eb (hnx b hbm) ck ?_
   exact⟨m - 1,by omega,rfl,rfl,i+1,by rw[g9 (by omega) (by omega)];simp,by omega⟩
  simp only[ofP,oD,ck.ld,Nat.zero_add,bR0,bR1,c2y,decide_eq_false (show ¬(b.end'≤b.at') by omega),wdB,t2,vdT,b0v]
  by_cases h0:(i:Int)>0
  ·obtain⟨c2,e1,e2⟩:=hprev (i - 1) (by omega)
   have hi1:((i:Int) - 1)=((i - 1:Nat):Int):=by omega
   simp only[decide_eq_true h0,wdB,t4,vdT,ofP,oD,ck.ld,Nat.zero_add,bR0,a2n]
   rw[g9 (by omega) (by omega),hi1]
   simp only[a1E e1,oD,ofE,Nat.zero_add,lsE,bR1,a5k,decide_eq_false (show ¬(b.at'≠c2.end') from fun h=>h e2),pdB,if_true,Bool.false_eq_true,if_false,cdF]
   exact main
  ·simp only[decide_eq_false h0,wdB,t3,vdF,oD,pdB,Bool.false_eq_true,if_false,cdF]
   exact main
end
end Go.Proofs.Ytdkidgkiplcggaa.d
end
section
namespace Go.Am
open Go.ChangeShapes Go.WideShapes Go.ChangeAt Go.RowKit
def a0x:Value→AV
 | .slice (some a) len cap=>if len≤cap∧(cap=0∨a.spot=none) then .slc (.old a.block) a.off len cap true 1 else .opq (.slice (some a) len cap)
 | .pointer (some a)=>if a.spot=none then .ptr (.old a.block) a.off else .opq (.pointer (some a))
 |v=>a9e v
def b6H:Value→AV
 | .agg cs=> .agg (cs.toList.map a0x)
 |v=>a0x v
theorem b5W(ρ:p6)(v:Value):rel ρ (a0x v) v:=by
 unfold a0x
 split
 ·rename_i a len cap
  split
  ·rename_i h
   simp only[rel,B7,a8Z]
   refine⟨a,cap,rfl,h.1,Nat.le_refl _,fun _=>rfl, ?_,trivial⟩
   rcases h.2 with e|e
   ·exact .inl e
   ·right
    refine⟨a.block,0,rfl, ?_⟩
    obtain⟨b,o,s⟩:=a
    simp only at e
    subst e
    simp
  ·simp only[rel]
 ·rename_i a
  split
  ·rename_i e
   simp only[rel,B7]
   refine⟨a.block,0,rfl, ?_⟩
   obtain⟨b,o,s⟩:=a
   simp only at e
   subst e
   simp
  ·simp only[rel]
 ·exact a6R _
theorem a8S(ρ:p6):∀l:List Value,i7 ρ (l.map a0x) l
 | []=>j0.2 rfl
 |v::l=>d8.2 ⟨b5W ρ v,a8S ρ l⟩
theorem c1Z(ρ:p6)(v:Value):rel ρ (b6H v) v:=by
 unfold b6H
 split
 ·simp only[rel]
  exact⟨_,rfl,a8S ρ _⟩
 ·exact b5W ρ _
theorem b4k(ρ:p6):∀l:List Value,i7 ρ (l.map b6H) l
 | []=>j0.2 rfl
 |v::l=>d8.2 ⟨c1Z ρ v,b4k ρ l⟩
def X0(W:World):d6:=fun b=>match W.heap[b]? with
 |some (.cells arr _ _)=>some (arr.toList.map a0x)
 |_=>none
theorem c1P(W:World)(b:Nat)(cs:List AV)(h:X0 W b=some cs):b<W.heap.size∧∃arr el fr,W.heap[b]? =some (.cells arr el fr)∧i7 (fun _=>none) cs arr.toList:=by
 unfold X0 at h
 split at h
 ·rename_i arr el fr e
  cases h
  exact⟨(Array.getElem?_eq_some_iff.1 e).1,arr,el,fr,e,a8S _ _⟩
 ·cases h
theorem c0p{P:Program}{f:FuncId}{W:World}{vargs:Array Value}(h:FnW P (X0 W) (c2c W) f (vargs.toList.map b6H) AHeap.empty fun v _=>v= .bool true):
  Calls P f vargs W fun e w=>e= .returned (.bool true)∧b0z W w:=
 b5C h (c1P W) (b4k _ _)
theorem b0z.same{W W':World}(h:b0z W W'){p:MemPlace}(hp:p.block<W.heap.size):W.sameAt W' p:=by
 cases p with
 |cell b off=>
  show W'.cell? ⟨b,off,none⟩=W.cell? ⟨b,off,none⟩
  unfold World.cell?
  rw[h.2.2 b hp]
 |map b=>
  show W'.heap[b]? =W.heap[b]?
  exact h.2.2 b hp
theorem a6i{H:Type}{enc:TypeId×Value→H}{P:Program}(hl:laidOutB P=true){W W':World}{sp:Nat→Bool}:∀ {ts:List TypeId} {vs:List Value} {ds:List (DataW H)} {ps:List MemPlace},(∀t∈ts,P.readableRec t=true∧t<P.types.size)→
  DataW.TrodAll enc P W 0 (fun _=>true) true ts vs ds ps→(∀p∈ps,W.sameAt W' p)→(∀p∈ps,sp p.block=true)→DataW.TrodAll enc P W' 0 sp true ts vs ds ps
 | [],[],[],ps,_,h,_,_=>h
 |t::ts,v::vs,d::ds,ps,ht,h,hs,hp=>by
  obtain⟨p,q,h1,h2,rfl⟩:=h
  refine⟨p,q,WideElems.Trod_stays hl (ht t List.mem_cons_self).1 (ht t List.mem_cons_self).2 h1 (fun x hx=>hs x (List.mem_append_left _ hx)) (fun x hx=>hp x (List.mem_append_left _ hx)), ?_,rfl⟩
  exact a6i hl (fun t ht'=>ht t (List.mem_cons_of_mem _ ht')) h2 (fun x hx=>hs x (List.mem_append_right _ hx)) (fun x hx=>hp x (List.mem_append_right _ hx))
theorem b6m{H:Type}{enc:TypeId×Value→H}{P:Program}{f:Func}{s:ChangeSpec}{apart fresh handsOn again:Bool}{W W':World}{args:Array Value}{ds gs:List (DataW H)}{before:List MemPlace}{b:TypeId}
  (hW:DataW.Whole enc P f.params.toList s.vars apart W args.toList ds gs before) (hvars:s.vars=[]) (hl:laidOutB P=true) (hts:∀t∈f.params.toList,P.readableRec t=true∧t<P.types.size)
  (hb:P.underlying b=some .bool) (hrt:f.resultTypes= #[b])
  (hres:(s.fn H ds).results=[.lit (.bool true)]) (hargs:(s.fn H ds).args=ds) (hvs:(s.fn H ds).vars=[]) (hk:b0z W W'):
  s.post enc P f apart fresh handsOn again W args (.bool true) W':=by
 have hW':=hW
 obtain⟨p,q,hA,hV,rfl,_,_⟩:=hW
 rw[hvars]at hV
 obtain⟨rfl,rfl⟩:=trodVars_none hV
 have hlt:∀x∈p,x.block<W.heap.size:=fun x hx=>hW'.lt x (by simpa using hx)
 refine b4L (pa:=p) (pv:=[]) hW' ?_ ?_ ?_ rfl hk ?_
 ·intro b0 sp hd
  rw[List.append_nil,hres,hrt]
  exact trodAll_cons_mk (shut_bool hb _) trodAll_mk0
 ·intro sp hsp
  rw[List.append_nil,hargs]
  exact a6i hl hts hA (fun x hx=>hk.same (hlt x hx)) (fun x hx=>hsp x (by simpa using hx))
 ·intro sp _
  rw[hvars,List.append_nil,hvs]
  rfl
 ·intro j t r h1 h2
  rw[hrt]at h1 h2
  match j,h1,h2 with
  |0,h1,h2=>
   simp[Value.resultList]at h1 h2
   subst h1 h2
   exact okWide_bool_mk hb _
theorem a0U{w:World}{a:Addr}{v:Value}(h:w.cell? a=some v):a.spot=none∧∃arr el fr,w.heap[a.block]? =some (.cells arr el fr)∧arr[a.off]? =some v:=by
 unfold World.cell? at h
 split at h
 ·rename_i c el fr hb
  split at h
  ·cases h
  ·rename_i hns
   exact⟨by cases hs:a.spot with
    |none=>rfl
    |some x=>rw[hs]at hns;exact(hns rfl).elim,c,el,fr,hb,h⟩
 ·cases h
end Go.Am
end
section
open Go Go.Am
namespace Go.Am.Old
open Go.ChangeShapes Go.WideShapes Go.ChangeAt Go.RowKit
section
variable{H:Type}{enc:TypeId×Value→H}{P:Program}{W:World}{b0:Nat}{sp:Nat→Bool}{hd:Bool}
theorem c0R{n:Nat}{t:TypeId}{k:IntKind}{cs:List Value}{x:DataW H×List MemPlace}(ht:P.underlying t=some (.int k))(h:DataW.trod enc P W b0 sp hd n t cs=some x):∃z,cs=[.int k z]∧(Lit.int k z).wf=true:=by
 cases n with
 |zero=>simp[DataW.trod]at h
 |succ n=>
  simp only[DataW.trod,ht]at h
  split at h
  all_goals (first|(cases h;done)|skip)
  all_goals simp_all
  all_goals (first|(obtain⟨⟨rfl,h2⟩,_⟩:=h;exact⟨_,⟨rfl,rfl⟩,h2⟩)|skip)
end
theorem b6s{α β:Type}{f:α→Option β}:∀ {l:List α} {r:List β},l.mapM f=some r→∀(i:Nat) (x:α),l[i]? =some x→∃y,r[i]? =some y∧f x=some y
 | [],r,h,i,x,hx=>by simp at hx
 |a::l,r,h,i,x,hx=>by
  simp only[List.mapM_cons,Option.bind_eq_bind,Option.bind_eq_some_iff]at h
  obtain⟨b,hb,bs,hbs,h⟩:=h
  cases h
  cases i with
  |zero=>simp at hx;subst hx;exact⟨b,rfl,hb⟩
  |succ i=>
   have hx':l[i]? =some x:=by simpa using hx
   obtain⟨y,h1,h2⟩:=b6s hbs i x hx'
   exact⟨y,by simpa using h1,h2⟩
theorem a9C{α β:Type}{f:α→Option β}:∀ {l:List α} {r:List β},l.mapM f=some r→r.length=l.length
 | [],r,h=>by simp at h;subst h;rfl
 |a::l,r,h=>by
  simp only[List.mapM_cons,Option.bind_eq_bind,Option.bind_eq_some_iff]at h
  obtain⟨b,hb,bs,hbs,h⟩:=h
  cases h
  simp[a9C hbs]
theorem a4D{H:Type}{P:Program}{e:TypeId}:∀ {l:List (DataW H)} {d:DataW H},d∈l→∀n∈DataW.weights P e d,n∈DataW.weightsAll P e l
 |a::l,d,h,n,hn=>by
  simp only[DataW.weightsAll]
  rcases List.mem_cons.1 h with rfl|h
  ·exact List.mem_append_left _ hn
  ·exact List.mem_append_right _ (a4D h n hn)
theorem b5T{H:Type}{enc:TypeId×Value→H}{P:Program}{W:World}{hd:Bool}{n:Nat}{t e:TypeId}{sz:Nat}{cs:List Value}{x:DataW H×List MemPlace}(ht:P.underlying t=some (.slice e))(hc:P.cellsOf e=sz)(hsz:0<sz)
  (h:DataW.trod enc P W 0 (fun _=>true) hd n t cs=some x):∃c,cs=[c]∧((a0x c= .nilSlc)∨∃(b i len cap m:Nat) (els:List (DataW H×List MemPlace)),a0x c= .slc (.old b) i len cap true 1∧len≤cap∧els.length=len∧(∀d∈els,∀k∈DataW.weights P e d.1,k∈DataW.weights P t x.1)∧
   (∀k:Nat,len*P.bytesOf e≤k∨k∈DataW.weights P t x.1∨True)∧(∃k∈DataW.weights P t x.1,len*P.bytesOf e≤k)∧
   ∀j d,els[j]? =some d→∃(all:List AV) (vs:List Value),X0 W b=some all∧(all.drop (i+j*sz)).take sz=vs.map a0x∧DataW.trod enc P W 0 (fun _=>true) hd m e vs=some d):=by
 rcases DataW.trod_slice ht h with ⟨e1,_⟩|⟨a,len,cap,elems,rest,m,_,e1,hx,_,hl,hm,hlen,hel,hsp,_⟩
 ·exact⟨_,e1, .inl rfl⟩
 ·refine⟨_,e1, .inr ?_⟩
  have hd':x.1= .slice (elems.map (·.1)) (rest.map (·.1)):=by rw[hx]
  have hcell:∀ {c:Addr} {cs:List Value},W.cells? 0 c sz=some cs→cs.length=sz∧∀j,j<sz→∃x,cs[j]? =some x∧W.cell? (c.add j)=some x:=by
   intro c cs hc
   unfold World.cells? at hc
   rw[if_pos (Nat.zero_le _)]at hc
   refine⟨by have:=a9C hc;simpa using this,fun j hj=> ?_⟩
   obtain⟨y,h1,h2⟩:=b6s hc j j (by rw[List.getElem?_range hj])
   exact⟨y,h1,h2⟩
  have hs:cap=0∨a.spot=none:=by
   by_cases h0:cap=0
   ·exact .inl h0
   ·right
    by_cases hl0:len=0
    ·obtain⟨r1,r2⟩:=hsp rfl
     have:=r2 0 (by omega)
     rw[hc,hl0,List.getElem?_eq_getElem (by omega)]at this
     obtain⟨cs,h1,_⟩:=Option.bind_eq_some_iff.1 this
     obtain⟨x,_,h2⟩:=(hcell h1).2 0 hsz
     simp only[Nat.add_zero,Nat.zero_mul]at h2
     exact(a0U h2).1
    ·have:=hel 0 (by omega)
     rw[hc,List.getElem?_eq_getElem (by omega)]at this
     obtain⟨cs,h1,_⟩:=Option.bind_eq_some_iff.1 this
     obtain⟨x,_,h2⟩:=(hcell h1).2 0 hsz
     simp only[Nat.add_zero,Nat.zero_mul]at h2
     exact(a0U h2).1
  refine⟨a.block,a.off,len,cap,m,elems, ?_,by omega,hlen, ?_,fun _=> .inr (.inr trivial),⟨(elems.length+rest.length)*P.bytesOf e, ?_, ?_⟩, ?_⟩
  ·simp only[a0x]
   rw[if_pos ⟨hl,hs⟩]
  ·intro d hdm k hk
   rw[hd']
   simp only[DataW.weights,ht]
   exact List.mem_cons_of_mem _ (List.mem_append_left _ (a4D (d:=d.1) (List.mem_map.2 ⟨d,hdm,rfl⟩) k hk))
  ·rw[hd'];simp[DataW.weights,ht]
  ·rw[hlen];exact Nat.mul_le_mul_right _ (by omega)
  ·intro i d hid
   have hi:i<len:=by have:=(List.getElem?_eq_some_iff.1 hid).1;omega
   have hi':=hel i hi
   rw[hc,hid]at hi'
   obtain⟨cs,h1,h2⟩:=Option.bind_eq_some_iff.1 hi'
   obtain⟨c1,c2⟩:=hcell h1
   have hs':a.spot=none:=hs.resolve_left (by omega)
   have hadd:∀j,(a.add (i*sz)).add j=⟨a.block,a.off+i*sz+j,none⟩:=by
    intro j
    obtain⟨b,of,s⟩:=a
    simp only at hs'
    subst hs'
    unfold Addr.add
    split<;>split<;>simp_all
   obtain⟨x0,_,hx0⟩:=c2 0 hsz
   rw[hadd]at hx0
   obtain⟨_,arr,el,fr,hb,_⟩:=a0U hx0
   simp only at hb
   refine⟨arr.toList.map a0x,cs,by unfold X0;rw[hb], ?_,h2⟩
   refine List.ext_getElem? fun j=> ?_
   rw[List.getElem?_take]
   split
   ·rename_i hj
    obtain⟨xj,hj1,hj2⟩:=c2 j hj
    rw[hadd]at hj2
    obtain⟨_,arr',el',fr',hb',hj3⟩:=a0U hj2
    simp only at hb' hj3
    rw[hb]at hb'
    cases hb'
    rw[List.getElem?_drop,List.getElem?_map,Array.getElem?_toList,hj3,List.getElem?_map,hj1]
   ·rename_i hj
    rw[List.getElem?_map,List.getElem?_eq_none (by omega)]
    rfl
theorem c4e{z:Int}(h:(Lit.int .i64 z).wf=true): -9223372036854775808≤z∧z≤9223372036854775807:=by
 simp only[Lit.wf,Bool.and_eq_true,decide_eq_true_eq]at h
 have h1:IntKind.i64.min= -9223372036854775808:=rfl
 have h2:IntKind.i64.max=9223372036854775807:=rfl
 omega
theorem c5k{z:Int}(h:(Lit.int .u8 z).wf=true):0≤z∧z≤255:=by
 simp only[Lit.wf,Bool.and_eq_true,decide_eq_true_eq]at h
 have h1:IntKind.u8.min=0:=rfl
 have h2:IntKind.u8.max=255:=rfl
 omega
section
variable{H:Type}{enc:TypeId×Value→H}{P:Program}{W:World}{hd:Bool}
theorem c1p{α:Type}[Inhabited α]{row:α→List D}{a0R:α→Prop}{n:Nat}{t e:TypeId}{sz:Nat}{cs:List Value}{x:DataW H×List MemPlace}(ht:P.underlying t=some (.slice e))(hc:P.cellsOf e=sz)(hsz:0<sz)(hrow:∀a,(row a).length=sz)
  (h:DataW.trod enc P W 0 (fun _=>true) hd n t cs=some x)
  (f:∀m vs d,DataW.trod enc P W 0 (fun _=>true) hd m e vs=some d→(∀k∈DataW.weights P e d.1,k∈DataW.weights P t x.1)→∃a,a0R a∧(∀R,o7 (X0 W) R (row a) (vs.map a0x))∧(vs.map a0x).all j1=true):
  ∃c l,cs=[c]∧(∀a∈l,a0R a)∧(∀R,Rp (X0 W) R (.lst (l.map row) sz) (a0x c))∧j1 (a0x c)=true∧(l=[]∨∃k∈DataW.weights P t x.1,l.length*P.bytesOf e≤k):=by
 obtain⟨c,e0,h1|⟨b,i,len,cap,m,els,h1,hlc,h2,h3,_,hk,h6⟩⟩:=b5T ht hc hsz h
 ·exact⟨c,[],e0,by simp,fun R=>by rw[h1];simp only[Rp];exact .inl ⟨by trivial,by trivial⟩,by rw[h1];rfl, .inl rfl⟩
 ·have each:∀j,∃a:α,j<len→a0R a∧∃all,X0 W b=some all∧(∀R,o7 (X0 W) R (row a) ((all.drop (i+j*sz)).take sz))∧((all.drop (i+j*sz)).take sz).all j1=true:=by
   intro j
   by_cases hj:j<len
   ·obtain⟨all,vs,g1,g2,g3⟩:=h6 j _ (List.getElem?_eq_getElem (by omega:j<els.length))
    obtain⟨a,q1,q2,q3⟩:=f m vs _ g3 (h3 _ (List.getElem_mem _))
    exact⟨a,fun _=>⟨q1,all,g1,by rw[g2];exact q2,by rw[g2];exact q3⟩⟩
   ·exact⟨default,fun h=>(hj h).elim⟩
  obtain⟨g,hg⟩:=Classical.axiomOfChoice each
  have main:∀(all:List AV),X0 W b=some all→∀N,N≤len→(∀R,R6 (X0 W) R (((List.range N).map g).map row) ((all.drop i).take (N*sz)))∧((all.drop i).take (N*sz)).all j1=true:=by
   intro all hall N
   induction N with
   |zero=>intro _;exact⟨fun R=>by simp[R6],by simp⟩
   |succ N ih=>
    intro hN
    obtain⟨i1,i2⟩:=ih (by omega)
    obtain⟨_,all',g1,g2,g3⟩:=hg N (by omega)
    rw[hall]at g1
    cases g1
    have e1:(all.drop i).take ((N+1)*sz)=(all.drop i).take (N*sz)++(all.drop (i+N*sz)).take sz:=by
     rw[Nat.succ_mul,List.take_add,List.drop_drop]
    rw[e1]
    refine⟨fun R=> ?_,by rw[List.all_append,i2,g3];rfl⟩
    rw[List.range_succ,List.map_append,List.map_append,B8,List.flatten_append]
    refine(B8.1 (i1 R)).append ?_
    simpa using g2 R
  refine⟨c,(List.range len).map g,e0,fun a ha=> ?_,fun R=> ?_,by rw[h1];rfl, .inr ?_⟩
  ·obtain⟨j,hj,rfl⟩:=List.mem_map.1 ha
   exact(hg j (List.mem_range.1 hj)).1
  ·rw[h1]
   simp only[Rp]
   refine .inr ⟨.old b,i,cap,true,1,by simp,trivial,by simpa using hlc, ?_, ?_⟩
   ·intro r hr
    obtain⟨a,_,rfl⟩:=List.mem_map.1 hr
    exact hrow a
   ·by_cases h0:len=0
    ·left;subst h0;rfl
    ·right
     obtain⟨_,all,g1,_⟩:=hg 0 (by omega)
     obtain⟨m1,m2⟩:=main all g1 len (Nat.le_refl _)
     exact⟨all,g1,by simpa using m1 R,by simpa using m2⟩
  ·obtain⟨k,hk1,hk2⟩:=hk
   exact⟨k,hk1,by simpa using hk2⟩
end
section
variable{H:Type}{enc:TypeId×Value→H}{P:Program}{W:World}{hd:Bool}
theorem c3H{n:Nat}{t:TypeId}{k:IntKind}{cs:List Value}{x:DataW H×List MemPlace}(ht:P.underlying t=some (.int k))(h:DataW.trod enc P W 0 (fun _=>true) hd n t cs=some x):
  ∃z:Int,(Lit.int k z).wf=true∧(∀R,o7 (X0 W) R [.int k z] (cs.map a0x))∧(cs.map a0x).all j1=true:=by
 obtain⟨z,rfl,w⟩:=c0R ht h
 refine⟨z,w,fun R=> ?_,rfl⟩
 simp only[List.map_cons,List.map_nil,o7,Rp]
 exact⟨_,_,rfl,rfl,rfl⟩
end
section
variable{H:Type}{enc:TypeId×Value→H}{P:Program}{W:World}{hd:Bool}
end
end Go.Am.Old
end
section
open Go Go.Am
namespace Go.Am.Old
open Go.ChangeShapes Go.WideShapes Go.ChangeAt Go.RowKit
def Rd{H:Type}(enc:TypeId×Value→H)(P:Program)(W:World)(t:TypeId){α:Type}(row:α→List D)(a0R:α→Prop):Prop:=
 ∀(hd:Bool) (n:Nat) (cs:List Value) (x:DataW H×List MemPlace),DataW.trod enc P W 0 (fun _=>true) hd n t cs=some x→(∀k∈DataW.weights P t x.1,k≤reachBytes)→
  ∃a,a0R a∧(∀R,o7 (X0 W) R (row a) (cs.map a0x))∧(cs.map a0x).all j1=true
def b4R(P:Program):List Field→Nat
 | []=>0
 |f::fs=>P.cellsOf f.type+b4R P fs
def RdF{H:Type}(enc:TypeId×Value→H)(P:Program)(W:World)(fs:List Field)(o:Nat){α:Type}(row:α→List D)(a0R:α→Prop):Prop:=
 ∀(hd:Bool) (n:Nat) (cs:List Value) (ys:List (DataW H×List MemPlace)),(fs.mapM fun f=>DataW.trod enc P W 0 (fun _=>true) hd n f.type ((cs.drop f.offset).take (P.cellsOf f.type)))=some ys→
  (∀k∈DataW.weightsEach P (fs.map (·.type)) (ys.map (·.1)),k≤reachBytes)→
  ∃a,a0R a∧(∀R,o7 (X0 W) R (row a) (((cs.drop o).take (b4R P fs)).map a0x))∧(((cs.drop o).take (b4R P fs)).map a0x).all j1=true
section
variable{H:Type}{enc:TypeId×Value→H}{P:Program}{W:World}
theorem Rd.map{t:TypeId}{α β:Type}{row:α→List D}{a0R:α→Prop}{row':β→List D}{Good':β→Prop}(h:Rd enc P W t row a0R)(g:α→β)(hr:∀a,row' (g a)=row a)(hg:∀a,a0R a→Good' (g a)):Rd enc P W t row' Good':=fun hd n cs x h1 h2=>by
 obtain⟨a,a1,a2,a3⟩:=h hd n cs x h1 h2
 exact⟨g a,hg a a1,fun R=>by rw[hr];exact a2 R,a3⟩
theorem Rd.int{t:TypeId}{k:IntKind}(ht:P.underlying t=some (.int k)):Rd enc P W t (fun z:Int=>[.int k z]) (fun z=>(Lit.int k z).wf=true):=fun hd n cs x h _=>c3H ht h
theorem Rd.i64{t:TypeId}(ht:P.underlying t=some (.int .i64)):Rd enc P W t (fun z:Int=>[.int .i64 z]) (fun z=> -9223372036854775808≤z∧z≤9223372036854775807):=(Rd.int ht).map id (fun _=>rfl) fun _ h=>c4e h
theorem Rd.u8{t:TypeId}(ht:P.underlying t=some (.int .u8)):Rd enc P W t (fun z:Int=>[.int .u8 z]) (fun z=>0≤z∧z≤255):=(Rd.int ht).map id (fun _=>rfl) fun _ h=>c5k h
theorem Rd.bool{t:TypeId}(ht:P.underlying t=some .bool):Rd enc P W t (fun b:Bool=>[.bool b]) (fun _=>True):=fun hd n cs x h _=>by
 cases n with
 |zero=>simp[DataW.trod]at h
 |succ n=>
  simp only[DataW.trod,ht]at h
  split at h
  all_goals (first|(cases h;done)|skip)
  all_goals simp_all
  rename_i b
  have:∃b':Bool,(∀R,o7 (X0 W) R [D.bool b'] [a0x (Value.bool b)]):=⟨b,fun R=>by simp only[o7,Rp];exact⟨_,_,rfl,rfl,rfl⟩⟩
  obtain⟨b',hb⟩:=this
  refine⟨?_,rfl⟩
  cases b'
  ·exact .inl hb
  ·exact .inr hb
theorem Rd.str{t:TypeId}(ht:P.underlying t=some .string):Rd enc P W t (fun s:List UInt8=>[.str s]) (fun s=>s.length<2^47):=fun hd n cs x h hw=>by
 cases n with
 |zero=>simp[DataW.trod]at h
 |succ n=>
  simp only[DataW.trod,ht]at h
  split at h
  all_goals (first|(cases h;done)|skip)
  all_goals simp_all
  rename_i s
  obtain⟨h1,rfl⟩:=h
  have:=reachBytes_lt
  refine⟨s.data.toList, ?_,fun R=> ?_,rfl⟩
  ·have:=hw s.data.toList.length (by simp[DataW.weights])
   omega
  simp only[o7,Rp]
  exact⟨_,_,rfl,rfl,rfl⟩
theorem Rd.slice{t e:TypeId}{sz b:Nat}{α:Type}[Inhabited α]{row:α→List D}{a0R:α→Prop}(ht:P.underlying t=some (.slice e))(hc:P.cellsOf e=sz)(hsz:0<sz)(hb:P.bytesOf e=b)(hrow:∀a,(row a).length=sz)(h:Rd enc P W e row a0R):
  Rd enc P W t (fun l:List α=>[.lst (l.map row) sz]) (fun l=>l.length*b<2^47∧∀a∈l,a0R a):=fun hd n cs x hx hw=>by
 obtain⟨c,l,rfl,h1,h2,h3,h4⟩:=c1p ht hc hsz hrow hx fun m vs d hd' hk=>h hd m vs d hd' fun k hk'=>hw k (hk k hk')
 have:=reachBytes_lt
 refine⟨l,⟨?_,h1⟩,fun R=> ?_,by simp[h3]⟩
 ·rcases h4 with rfl|⟨k,k1,k2⟩
  ·show 0*b<2^47;omega
  ·have:=hw k k1
   rw[hb]at k2
   omega
 ·simp only[List.map_cons,List.map_nil,o7]
  exact⟨_,_,rfl,h2 R,rfl⟩
theorem RdF.nil{o:Nat}:RdF enc P W [] o (fun _:Unit=>[]) (fun _=>True):=fun hd n cs ys h _=>⟨(),trivial,fun R=>by simp[b4R,o7],by simp[b4R]⟩
theorem RdF.cons{f:Field}{fs:List Field}{o s:Nat}{α β:Type}{row1:α→List D}{G1:α→Prop}{row2:β→List D}{G2:β→Prop}(ho:f.offset=o)(hs:P.cellsOf f.type=s)(h1:Rd enc P W f.type row1 G1)(h2:RdF enc P W fs (o+s) row2 G2):
  RdF enc P W (f::fs) o (fun p:α×β=>row1 p.1++row2 p.2) (fun p=>G1 p.1∧G2 p.2):=fun hd n cs ys h hw=>by
 simp only[List.mapM_cons,Option.bind_eq_bind,Option.bind_eq_some_iff]at h
 obtain⟨y,hy,ys',hys,h⟩:=h
 cases h
 simp only[List.map_cons,DataW.weightsEach,List.mem_append]at hw
 obtain⟨a,a1,a2,a3⟩:=h1 hd n _ y hy fun k hk=>hw k (.inl hk)
 obtain⟨b,b1,b2,b3⟩:=h2 hd n cs ys' hys fun k hk=>hw k (.inr hk)
 rw[ho,hs]at a2 a3
 have e:((cs.drop o).take (b4R P (f::fs))).map a0x=((cs.drop o).take s).map a0x++((cs.drop (o+s)).take (b4R P fs)).map a0x:=by
  rw[b4R,hs,List.take_add,List.map_append,List.drop_drop]
 exact⟨(a,b),⟨a1,b1⟩,fun R=>by rw[e];exact(a2 R).append (b2 R),by rw[e,List.all_append,a3,b3];rfl⟩
theorem Rd.struct{t:TypeId}{fs:Array Field}{α:Type}{row:α→List D}{G:α→Prop}(ht:P.underlying t=some (.struct fs))(hc:P.cellsOf t=b4R P fs.toList)(h:RdF enc P W fs.toList 0 row G):Rd enc P W t row G:=fun hd n cs x hx hw=>by
 cases n with
 |zero=>simp[DataW.trod]at hx
 |succ n=>
  simp only[DataW.trod,ht]at hx
  split at hx
  ·rename_i hl
   simp only[Option.map_eq_some_iff]at hx
   obtain⟨ys,hm,rfl⟩:=hx
   obtain⟨a,a1,a2,a3⟩:=h hd n cs ys hm (by simpa [DataW.weights,ht]using hw)
   rw[List.drop_zero, ←hc, ←hl,List.take_length]at a2 a3
   exact⟨a,a1,a2,a3⟩
  ·cases hx
end
theorem Rd.arg1{H:Type}{enc:TypeId×Value→H}{P:Program}{W:World}{t:TypeId}{α:Type}{c:α→D}{G:α→Prop}(h:Rd enc P W t (fun a=>[c a]) G){v:Value}(hc:v.cells.toList=[v])(ho:b6H v=a0x v)
  {d:DataW H} {ps:List MemPlace} (h0:DataW.Trod enc P W 0 (fun _=>true) true t v d ps) (hw:∀k∈DataW.weights P t d,k≤reachBytes):∃a,G a∧∀R,Rp (X0 W) R (c a) (b6H v):=by
 obtain⟨n,hn⟩:=h0
 obtain⟨a,a1,a2,a3⟩:=h true n _ _ hn hw
 refine⟨a,a1,fun R=> ?_⟩
 have:=a2 R
 rw[hc,List.map_cons,List.map_nil]at this
 simp only[o7]at this
 obtain⟨x,xs,e,h1,_⟩:=this
 cases e
 rw[ho]
 exact h1
theorem Rd.argL{H:Type}{enc:TypeId×Value→H}{P:Program}{W:World}{t e:TypeId}{α:Type}{c:α→D}{G:α→Prop}(h:Rd enc P W t (fun a=>[c a]) G){r:Reach}{b0:Nat}{v:Value}(hv:Value.okWide P W r b0 t v)(ht:P.underlying t=some (.slice e))
  {d:DataW H} {ps:List MemPlace} (h0:DataW.Trod enc P W 0 (fun _=>true) true t v d ps) (hw:∀k∈DataW.weights P t d,k≤reachBytes):∃a,G a∧∀R,Rp (X0 W) R (c a) (b6H v):=by
 obtain⟨a,l,k,rfl⟩:=okWide_slice ht hv
 exact h.arg1 rfl rfl h0 hw
theorem b2L:u7 AHeap.empty:=by
 have hg:∀k,AHeap.empty.get k=none:=fun k=>by simp[AHeap.empty,AHeap.get,Trie.get]
 exact⟨fun k _=>hg k,fun k p o op h=>(by rw[hg]at h;cases h),fun k o p h=>(by rw[hg]at h;cases h),fun k o p h=>(by rw[hg]at h;cases h)⟩
theorem b7U(E:d6):o5 E (fun _=>none) b4.none AHeap.empty:=o5.start b2L
theorem b8i{P:Program}{f:FuncId}{W:World}{vs:Array Value}{ds:List D}(h:s4 P (X0 W) (c5f W) f ds b4.none fun v _=>v= .bool true)(ha:o7 (X0 W) (fun _=>none) ds (vs.toList.map b6H)):Calls P f vs W fun e w=>e= .returned (.bool true)∧b0z W w:=by
 refine c0p (FnW.weak (w:=W) (fun v H ⟨_,_,_,_,_,_,_,hf⟩=>hf.elim) (FnW.mono (h _ AHeap.empty _ b2L (b7U _) ha) fun v H' hq=> ?_))
 obtain⟨_,R',S',d,_,_,h3,rfl⟩:=hq
 simpa only[Rp]using h3
end Go.Am.Old
end
section
open Go.Proofs Go Go.Am Go.Op Go.Am.Old
namespace Go.Proofs.Ytdkidgkiplcggaa.d
instance:Inhabited Ty:=⟨⟨0,[],[],0,0⟩⟩
instance:Inhabited Ro:=⟨⟨[],[],[],0,0,[]⟩⟩
section
variable{H:Type}{enc:TypeId×Value→H}{W:World}
abbrev RdP(enc:TypeId×Value→H)(W:World)(t:TypeId){α:Type}(row:α→List D)(a0R:α→Prop):Prop:=Rd enc Try.prog W t row a0R
theorem c1l:RdP enc W 22 (fun l:List Int=>[bD l]) (fun l=>l.length<2^47∧∀n∈l,I2 n):=
 (Rd.slice (sz:=1) Try.underlying22 (by kernel_rfl) (by decide) (b:=1) (by kernel_rfl) (fun _=>rfl) (Rd.u8 Try.underlying5)).map id (fun l=>by simp[bD,W6,Function.comp_def]) fun l h=>⟨by have:=h.1;simp only[id]at*;omega,h.2⟩
end
end Go.Proofs.Ytdkidgkiplcggaa.d
end
