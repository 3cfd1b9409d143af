/-
  BlocksJoinSaid: part Obb of its proof.
-/
import Derived.Test.YtdkidgkiplcggaaOba
import Derived.Test.YtdkidgkiplcggaaOaz
import Derived.Test.YtdkidgkiplcggaaOav
import Derived.Test.YtdkidgkiplcggaaOaw
import Derived.Test.YtdkidgkiplcggaaOal
import Derived.ChangeSlices
import Derived.Carry
import Derived.Test.YtdkidgkiplcggaaOat
import Derived.SizedLaws
set_option linter.unusedVariables false
set_option linter.unusedSimpArgs false
set_option maxRecDepth 100000
section
open Go.Proofs Go Go.Am Go.Op
namespace Go.Proofs.Ytdkidgkiplcggaa.d
section
set_option linter.unusedSectionVars false
structure c5a (code:List Int) (b:I7) (ys:List In):Prop where
 lo:0≤b.at'
 hi:b.end'≤(code.length:Int)
 lt:b.at'<b.end'
 is:(code.drop b.at'.toNat).take (b.end' - b.at').toNat=s5 ys
 good:∀y∈ys,isS y=true
 ne:ys≠[]
 inner:∀(j:Nat) y,j+1<ys.length→ys[j]? =some y→H8 y=false
 last:∀y,ys.getLast? =some y→H8 y=false→b.next=[b.end']
structure b4x (code:List Int) (l:List I7):Prop where
 ne:l≠[]
 first:∀b,l[0]? =some b→b.at'=0
 last:∀b,l.getLast? =some b→b.end'=(code.length:Int)
 side:∀(i:Nat) b c,l[i+1]? =some b→l[i]? =some c→b.at'=c.end'
 rises:∀b∈l,b.next.Pairwise (· < ·)
 heads:∀b∈l,∀q∈b.next,q∈l.map (·.at')
 body:∀b∈l,∃ys,c5a code b ys
theorem b7f(y:In)(n:Int):(p9 y n).Pairwise (· < ·):=by
 unfold p9
 split
 ·exact List.Pairwise.nil
 split
 ·exact List.pairwise_singleton _ _
 ·exact(C9 _).1
theorem V8{y:In}(h:H8 y=false)(n:Int):p9 y n=[n]:=by
 have hn:¬(46≤y.op∧y.op≤49∨y.op=51∨y.op=52):=fun hh=>by unfold H8 at h;rw[decide_eq_true hh]at h;cases h
 unfold p9
 rw[if_neg (by omega),if_neg (by omega),if_neg (by omega),if_neg (by omega)]
 exact Z0 (C9 _).1 (List.pairwise_singleton _ _) fun q=>(C9 _).2 q
theorem b6y{cuts:List (Nat×Nat)}{n:Nat}(h:chn 0 cuts n)(h0:cuts≠[]):∃cs s,cuts=cs++[(s,n)]∧s<n:=by
 obtain⟨cs,⟨s,t⟩,e⟩:∃cs c,cuts=cs++[c]:=⟨_,_,(List.dropLast_concat_getLast h0).symm⟩
 rw[e]at h
 obtain⟨_,h2,h3⟩:=a1u.1 h
 exact⟨cs,s,by rw[e,h3],by omega⟩
theorem b7p:∀ {l:List (Nat×Nat)} {a b:Nat},chn a l b→∀(i:Nat) c d,l[i+1]? =some c→l[i]? =some d→c.1=d.2
 | [],_,_,_,i,c,d,h,_=>by simp at h
 |(s,t)::l,a,b,⟨h1,h2,h3⟩,0,c,d,hc,hd=>by
  simp at hd hc
  subst hd
  cases l with
  |nil=>simp at hc
  |cons x l=>obtain⟨u,v⟩:=x;simp at hc;subst hc;exact h3.1
 |(s,t)::l,a,b,⟨h1,h2,h3⟩,i+1,c,d,hc,hd=>b7p h3 i c d (by simpa using hc) (by simpa using hd)
theorem b1l{ys:List In}{c:Nat×Nat}(h0:0<c.2)(h:c.2≤ys.length):∃y,ys[c.2 - 1]? =some y∧(mkB ys c).next=p9 y (I8 ys c.2):=by
 have ey:ys[c.2 - 1]? =some ys[c.2 - 1]:=List.getElem?_eq_getElem (by omega)
 refine⟨_,ey, ?_⟩
 simp only[mkB,ey]
theorem a0v{ys:List In}{cuts:List (Nat×Nat)}(hs:∀y∈ys,isS y=true)(h:Cut ys cuts):b4x (s5 ys) (cuts.map (mkB ys)):=by
 have hch:=a1R h.chain
 have hin:=b2B h.chain
 have isat:∀q,q∈(cuts.map (mkB ys)).map (·.at')↔a9f ys q:=fun q=>by
  rw[List.map_map]
  exact h.heads q
 obtain⟨cs,sl,hcs,hsl⟩:=b6y h.chain h.ne
 have hnx:∀(c:Nat×Nat),c∈cuts→∀j y,c.1≤j→j+1<c.2→ys[j]? =some y→H8 y=false:=fun c hc j y h1 h2 hy=>by
  cases he:H8 y with
  |false=>rfl
  |true=>
   exfalso
   have h3:=(hch.2 c hc).2.2
   have:=(h.heads (I8 ys (j+1))).2 (.inr ⟨j,y,hy,he, .inr ⟨by omega,rfl⟩⟩)
   obtain⟨d,hd,e⟩:=List.mem_map.1 this
   have hd2:=hch.2 d hd
   have:=b9C (by omega) (by omega) e
   exact hin c hc d hd ⟨by omega,by omega⟩
 refine⟨fun e=>h.ne (List.map_eq_nil_iff.1 e),fun b hb=> ?_,fun b hb=> ?_,fun i b c hb hc=> ?_,fun b hb=> ?_,fun b hb q hq=> ?_,fun b hb=> ?_⟩
 ·have hc:=h.chain
  cases hcs':cuts with
  |nil=>exact absurd hcs' h.ne
  |cons c l=>
   obtain⟨s,t⟩:=c
   rw[hcs']at hb hc
   simp only[List.map_cons,List.getElem?_cons_zero,Option.some.injEq]at hb
   rw[←hb]
   show I8 ys s=0
   rw[hc.1];rfl
 ·rw[hcs,List.map_append,List.map_cons,List.map_nil,List.getLast?_concat]at hb
  cases hb
  show I8 ys ys.length=_
  rw[a1i]
 ·rw[List.getElem?_map,Option.map_eq_some_iff]at hb hc
  obtain⟨b',hb',rfl⟩:=hb
  obtain⟨c',hc',rfl⟩:=hc
  show I8 ys b'.1=I8 ys c'.2
  rw[b7p h.chain i b' c' hb' hc']
 ·obtain⟨c,hc,rfl⟩:=List.mem_map.1 hb
  have:=hch.2 c hc
  obtain⟨y,_,e⟩:=b1l (ys:=ys) (c:=c) (by omega) (by omega)
  rw[e]
  exact b7f y _
 ·obtain⟨c,hc,rfl⟩:=List.mem_map.1 hb
  have hc2:=hch.2 c hc
  obtain⟨y,hy,e⟩:=b1l (ys:=ys) (c:=c) (by omega) (by omega)
  rw[isat]
  rw[e]at hq
  have hc1:c.2 - 1+1=c.2:=by omega
  cases he:H8 y with
  |true=>exact .inr ⟨c.2 - 1,y,hy,he, .inl (by rw[hc1];exact hq)⟩
  |false=>
   rw[V8 he,List.mem_singleton]at hq
   subst hq
   rcases b6M h.chain c hc with hn|⟨d,hd,hde⟩
   ·exfalso
    refine h.last y ?_ ?_
    ·rw[List.getLast?_eq_getElem?, ←hn];exact hy
    ·rw[V8 he,List.mem_singleton]
   ·rw[←h.heads, ←hde]
    exact List.mem_map.2 ⟨d,hd,rfl⟩
 ·obtain⟨c,hc,rfl⟩:=List.mem_map.1 hb
  have hc2:=hch.2 c hc
  have hbl:((ys.drop c.1).take (c.2 - c.1)).length=c.2 - c.1:=by rw[List.length_take,List.length_drop];omega
  have hget:∀j,j<c.2 - c.1→((ys.drop c.1).take (c.2 - c.1))[j]? =ys[c.1+j]? :=fun j hj=>by rw[List.getElem?_take,if_pos hj,List.getElem?_drop]
  have hlt:I8 ys c.1<I8 ys c.2:=a8O (by omega) (by omega)
  have hge:0≤I8 ys c.1:=by unfold I8;omega
  refine⟨(ys.drop c.1).take (c.2 - c.1),hge, ?_,hlt, ?_,fun y hy=>hs y (List.mem_of_mem_drop (List.mem_of_mem_take hy)),fun e=>by rw[e]at hbl;simp at hbl;omega,fun j y hj hy=> ?_,fun y hy he=> ?_⟩
  ·show I8 ys c.2≤_
   rw[a1i]
   by_cases e:c.2=ys.length
   ·rw[e];exact Int.le_refl _
   ·exact Int.le_of_lt (a8O (by omega) (Nat.le_refl _))
  ·show((s5 ys).drop (I8 ys c.1).toNat).take (I8 ys c.2 - I8 ys c.1).toNat=_
   have e1:s5 ys=s5 (ys.take c.1)++(s5 ((ys.drop c.1).take (c.2 - c.1))++s5 (ys.drop c.2)):=by
    rw[←E6, ←E6]
    congr 1
    have:ys.drop c.2=(ys.drop c.1).drop (c.2 - c.1):=by rw[List.drop_drop];congr 1;omega
    rw[this,List.take_append_drop,List.take_append_drop]
   have e2:I8 ys c.2 - I8 ys c.1=((s5 ((ys.drop c.1).take (c.2 - c.1))).length:Int):=by
    have:ys.take c.2=ys.take c.1++(ys.drop c.1).take (c.2 - c.1):=by
     rw[←List.take_append_drop c.1 (ys.take c.2),List.take_take,List.drop_take,Nat.min_eq_left (by omega)]
    unfold I8
    rw[this,E6,List.length_append]
    omega
   rw[e2,Int.toNat_natCast]
   have e3:(I8 ys c.1).toNat=(s5 (ys.take c.1)).length:=by unfold I8;rw[Int.toNat_natCast]
   rw[e3]
   conv=>lhs;rw[e1]
   rw[List.drop_left,List.take_left]
  ·rw[hbl]at hj
   rw[hget j (by omega)]at hy
   exact hnx c hc (c.1+j) y (by omega) (by omega) hy
  ·rw[List.getLast?_eq_getElem?,hbl,hget _ (by omega),show c.1+(c.2 - c.1 - 1)=c.2 - 1 by omega]at hy
   obtain⟨y',hy',e⟩:=b1l (ys:=ys) (c:=c) (by omega) (by omega)
   rw[hy]at hy'
   cases hy'
   rw[e,V8 he]
   rfl
section
variable{E:d6}{w0:i7}
theorem b8W{ys:List In}{i:Nat}{y:In}(h:ys[i]? =some y):m9 4 (Q1 ys) (.int .i64 (i:Int))=some (.elt (inC y) 0):=b1o h
end
end
section
set_option linter.unusedSectionVars false
def a6V(l:List Int)(i:Nat)(cur:List Int):Prop:=cur.length=l.length+1∧(∀j:Nat,j≤i→j<l.length→cur[j]? =l[j]?)∧∀j:Nat,i<j→j≤l.length→cur[j]? =l[j - 1]?
theorem a6V.start(l:List Int):a6V l l.length (l++[0]):=⟨by simp,fun j _ hj=>List.getElem?_append_left hj,fun j h1 h2=>by omega⟩
theorem a6V.step{l cur:List Int}{i:Nat}(h:a6V l i cur)(hi:0<i)(hil:i≤l.length){v:Int}(hv:cur[i - 1]? =some v):a6V l (i - 1) (cur.set i v):=by
 obtain⟨h1,h2,h3⟩:=h
 refine⟨by rw[List.length_set];exact h1,fun j hj hjl=> ?_,fun j hj hjl=> ?_⟩
 ·rw[List.getElem?_set_ne (by omega)]
  exact h2 j (by omega) hjl
 ·by_cases e:j=i
  ·subst e
   rw[List.getElem?_set_self (by omega), ←hv,h2 (j - 1) (by omega) (by omega)]
  ·rw[List.getElem?_set_ne (fun h=>e h.symm)]
   exact h3 j (by omega) hjl
theorem a6V.done{l cur:List Int}{i:Nat}(h:a6V l i cur)(hil:i≤l.length)(n:Int):cur.set i n=l.take i++n::l.drop i:=by
 obtain⟨h1,h2,h3⟩:=h
 apply List.ext_getElem?
 intro j
 have hti:(l.take i).length=i:=by rw[List.length_take];omega
 rcases Nat.lt_trichotomy j i with hj|hj|hj
 ·rw[List.getElem?_set_ne (by omega),List.getElem?_append_left (by omega),List.getElem?_take,if_pos hj]
  exact h2 j (by omega) (by omega)
 ·subst hj
  rw[List.getElem?_set_self (by omega),List.getElem?_append_right (by omega),hti,Nat.sub_self];rfl
 ·rw[List.getElem?_set_ne (by omega),List.getElem?_append_right (by omega),hti]
  obtain⟨k,rfl⟩:∃k,j=i+k+1:=⟨j - i - 1,by omega⟩
  rw[show i+k+1 - i=k+1 by omega,List.getElem?_cons_succ,List.getElem?_drop]
  by_cases hle:i+k+1≤l.length
  ·rw[h3 _ (by omega) hle];rfl
  ·rw[List.getElem?_eq_none (by omega),List.getElem?_eq_none (by omega)]
section
variable{E:d6}{w0:i7}
theorem c3t{l:List I7}{r:List Int}(h1:r.Pairwise (· < ·))(h2:∀n,n∈r↔a3c l n):r.length≤l.length:=by
 have:=a0D (h1.imp fun h e=>by omega) (l2:=l.map (·.at')) fun a ha=>a5E ((h2 a).1 ha)
 simpa using this
structure c2Z (l:List I7) (b0:I7) (out:List Int):Prop where
 rises:out.Pairwise (· < ·)
 is:∀n∈out,a3c l n
 first:b0.at'∈out
theorem c2Z.len{l:List I7}{b0:I7}{out:List Int}(h:c2Z l b0 out):out.length≤l.length:=by
 have:=a0D (h.rises.imp fun h e=>by omega) (l2:=l.map (·.at')) fun a ha=>a5E (h.is a ha)
 simpa using this
theorem b1Q{l:List I7}{n:Int}:(s8 l n).isSome=true↔n∈l.map (·.at'):=by
 constructor
 ·intro h
  obtain⟨i,hi⟩:=Option.isSome_iff_exists.1 h
  obtain⟨c,hc,e⟩:=Q9 hi
  exact List.mem_map.2 ⟨c,List.mem_of_getElem? hc,e⟩
 ·intro h
  obtain⟨c,hc,e⟩:=List.mem_map.1 h
  cases hf:s8 l n with
  |some i=>rfl
  |none=>
   unfold s8 at hf
   rw[List.findIdx?_eq_none_iff]at hf
   have:=hf c hc
   simp[e]at this
section
variable{l:List I7}{b0:I7}{S0:b5}
def c0n(l:List I7)(b0:I7)(out:List Int)(more:Bool)(out':List Int)(more':Bool):Prop:=c2Z l b0 out'∧(∀m∈out,m∈out')∧((out'=out∧more'=more)∨(more'=true∧out.length<out'.length))
theorem c0n.refl{out:List Int}{more:Bool}(h:c2Z l b0 out):c0n l b0 out more out more:=⟨h,fun _ h=>h, .inl ⟨rfl,rfl⟩⟩
theorem c0n.trans{o1 o2 o3:List Int}{m1 m2 m3:Bool}(h:c0n l b0 o1 m1 o2 m2)(h':c0n l b0 o2 m2 o3 m3):c0n l b0 o1 m1 o3 m3:=by
 refine⟨h'.1,fun m hm=>h'.2.1 m (h.2.1 m hm), ?_⟩
 rcases h'.2.2 with ⟨rfl,rfl⟩|⟨a,b⟩
 ·exact h.2.2
 ·rcases h.2.2 with ⟨rfl,rfl⟩|⟨c,d⟩
  ·exact .inr ⟨a,b⟩
  ·exact .inr ⟨a,by omega⟩
theorem Sl.fin{av:List Nat}{d:D}{l:List Int}{T:b5}(h:Sl S0 av d l T)(hle:S0.le T){Q:D→b5→Prop}(hq:b8 E Q (iD l) S0):b8 E Q d T:=by
 rcases h with ⟨rfl,rfl⟩|⟨k,cap,ex,rows,acs,h0,h1,rfl,h2,h3,h4⟩
 ·exact b8.less hle (b8.nil hq)
 ·refine b8.freeze h2 rfl (by have:=a9D h3;simp only;omega) h4 ?_
  rw[List.drop_zero,h3]
  exact b8.less (b5.le_erase hle h0) hq
end
end
end
end Go.Proofs.Ytdkidgkiplcggaa.d
end
section
namespace Go.Am
theorem DF.freeze{P:Program}{E:d6}{w0:i7}{f:FuncId}{pre post:List D}{S:b5}{Q:D→b5→Prop}{k:Nat}{o:s7}(hk:S k=some o){i len cap:Nat}{ex:Bool}{sz:Nat}(hsz:o.sz=sz)(hl:i+len≤o.rows.length)(hc:len≤cap)
  (h:r7 P E w0 f (pre++ .lst ((o.rows.drop i).take len) sz::post) (S.erase k) Q):r7 P E w0 f (pre++ .raw k i len cap ex sz::post) S Q:=fun R H avs F hC ha=>by
 obtain⟨v1,v2,rfl,g1,g2⟩:=a0c ha
 simp only[o4]at g2
 obtain⟨w,ws,rfl,g3,g4⟩:=g2
 have hzm:sz<E1:=by simp only[Rp]at g3;exact g3.1
 obtain⟨h1,h2⟩:=hC.freeze hk (.inl (by rw[hsz];exact hzm))
 refine(FnW.at_le h2 (h _ H _ F h1 ((o4.le h2 _ _ g1).append (j6 (a2V hC hk g3 hsz hl hc) (o4.le h2 _ _ g4))))).mono ?_
 rintro v H' ⟨F',R',S',d',hle,rest⟩
 exact⟨F',R',S',d',Fz.le_trans h2 hle,rest⟩
theorem DF.grA{P:Program}{E:d6}{w0:i7}{f:FuncId}{S0 S:b5}{Q:D→b5→Prop}{t:D}{rows:List (List D)}{sz:Nat}{av:List Nat}(hg:X0 S0 av t rows sz S)(hle:S0.le S)
  (h:∀T,S0.le T→r7 P E w0 f [.lst rows sz] T Q):r7 P E w0 f [t] S Q:=by
 rcases hg with ⟨rfl,rfl⟩|⟨k,acs,h0,h1,rfl,h3⟩
 ·exact DF.weak (es:=[.lst [] sz]) ⟨Wk.nil sz,trivial⟩ (h S hle)
 ·refine DF.freeze (pre:=[]) (post:=[]) h3 rfl (by simp) (Nat.le_refl _) ?_
  rw[List.drop_zero,List.take_of_length_le (Nat.le_refl _)]
  refine h _ fun j o e=> ?_
  have hj:j≠k:=fun e'=>by rw[e',h0]at e;cases e
  rw[b5.erase_ne _ _ hj]
  exact hle _ _ e
end Go.Am
end
section
open Go.Proofs Go Go.Am Go.Op
namespace Go.Proofs.Ytdkidgkiplcggaa.d
set_option linter.unusedSectionVars false
def shC(n:Nat)(c:Nat×Nat):Nat×Nat:=(n+c.1,n+c.2)
theorem b3T(n:Nat):∀ {l:List (Nat×Nat)} {a b:Nat},chn a l b→chn (n+a) (l.map (shC n)) (n+b)
 | [],a,b,h=>by rw[show a=b from h];exact rfl
 |(s,t)::l,a,b,⟨h1,h2,h3⟩=>⟨by simp only;omega,by simp only;omega,b3T n h3⟩
section
variable{ya yb:List In}
theorem a1r{i:Nat}(h:i≤ya.length):I8 (ya++yb) i=I8 ya i:=by
 unfold I8
 rw[List.take_append_of_le_length h]
theorem a1j(i:Nat):I8 (ya++yb) (ya.length+i)=I8 ya ya.length+I8 yb i:=by
 unfold I8
 rw[List.take_length_add_append,E6,List.length_append,List.take_length]
 omega
theorem a1J{y:In}(h:H8 y=true)(hj:¬(46≤y.op∧y.op≤49))(n:Int):p9 y n=[]:=by
 unfold H8 at h
 have h:=of_decide_eq_true h
 unfold p9
 rw[if_pos (by omega)]
theorem b8O{y:In}(hj:¬(46≤y.op∧y.op≤49))(n m:Int):(p9 y n).length=(p9 y m).length:=by
 cases he:H8 y with
 |true=>rw[a1J he hj,a1J he hj]
 |false=>rw[V8 he,V8 he];rfl
theorem c0X{cuts:List (Nat×Nat)}(h:Cut ya cuts):∃y,ya[ya.length - 1]? =some y∧H8 y=true:=by
 have hpos:0<ya.length:=List.length_pos_iff.2 h.pos
 have ey:ya[ya.length - 1]? =some ya[ya.length - 1]:=List.getElem?_eq_getElem (by omega)
 refine⟨_,ey, ?_⟩
 cases he:H8 ya[ya.length - 1]with
 |true=>rfl
 |false=>
  have:=h.last ya[ya.length - 1] (by rw[List.getLast?_eq_getElem?,ey])
  rw[V8 he]at this
  exact absurd (List.mem_singleton.2 rfl) this
theorem b6X{ca cb:List (Nat×Nat)}(ha:Cut ya ca)(hb:Cut yb cb)(hj:∀y∈yb,¬(46≤y.op∧y.op≤49)):Cut (ya++yb) (ca++cb.map (shC ya.length)):=by
 have hla:∀c∈ca,c.1≤ya.length:=fun c hc=>by have:=(a1R ha.chain).2 c hc;omega
 have hbpos:0<yb.length:=List.length_pos_iff.2 hb.pos
 have hapos:0<ya.length:=List.length_pos_iff.2 ha.pos
 have starts:∀q,q∈(ca++cb.map (shC ya.length)).map (fun c=>I8 (ya++yb) c.1)↔a9f ya q∨∃q',a9f yb q'∧q=I8 ya ya.length+q':=fun q=>by
  rw[List.map_append,List.mem_append, ←ha.heads]
  refine or_congr ?_ ?_
  ·constructor
   ·intro h
    obtain⟨c,hc,e⟩:=List.mem_map.1 h
    exact List.mem_map.2 ⟨c,hc,by rw[←e,a1r (hla c hc)]⟩
   ·intro h
    obtain⟨c,hc,e⟩:=List.mem_map.1 h
    exact List.mem_map.2 ⟨c,hc,by rw[←e,a1r (hla c hc)]⟩
  ·rw[List.map_map]
   constructor
   ·intro h
    obtain⟨c,hc,e⟩:=List.mem_map.1 h
    exact⟨I8 yb c.1,(hb.heads _).1 (List.mem_map.2 ⟨c,hc,rfl⟩),by rw[←e];exact a1j c.1⟩
   ·rintro⟨q',h,rfl⟩
    obtain⟨c,hc,e⟩:=List.mem_map.1 ((hb.heads _).2 h)
    exact List.mem_map.2 ⟨c,hc,by rw[←e];exact a1j c.1⟩
 refine⟨?_,by simp[ha.pos],fun q=> ?_,fun y hy=> ?_⟩
 ·rw[List.length_append]
  exact b1O ha.chain (b3T ya.length hb.chain)
 ·rw[starts]
  constructor
  ·rintro(h|⟨q',h,rfl⟩)
   ·rcases h with h|⟨i,y,hy,he,h⟩
    ·exact .inl h
    ·have hi:=(List.getElem?_eq_some_iff.1 hy).1
     refine .inr ⟨i,y,by rw[List.getElem?_append_left hi];exact hy,he, ?_⟩
     rw[a1r (by omega)]
     exact h.imp id fun⟨h1,h2⟩=>⟨by rw[List.length_append];omega,h2⟩
   ·rcases h with rfl|⟨i,y,hy,he,h⟩
    ·obtain⟨y,hy,he⟩:=c0X ha
     refine .inr ⟨ya.length - 1,y,by rw[List.getElem?_append_left (by omega)];exact hy,he, .inr ⟨by rw[List.length_append];omega, ?_⟩⟩
     rw[show ya.length - 1+1=ya.length by omega,a1r (Nat.le_refl _)]
     omega
    ·have hi:=(List.getElem?_eq_some_iff.1 hy).1
     rcases h with h|⟨h1,h2⟩
     ·rw[a1J he (hj y (List.mem_of_getElem? hy))]at h
      cases h
     ·refine .inr ⟨ya.length+i,y,by rw[List.getElem?_append_right (by omega),show ya.length+i - ya.length=i by omega];exact hy,he, .inr ⟨by rw[List.length_append];omega, ?_⟩⟩
      rw[Nat.add_assoc,a1j,h2]
  ·rintro(h|⟨i,y,hy,he,h⟩)
   ·exact .inl (.inl h)
   ·by_cases hi:i<ya.length
    ·rw[List.getElem?_append_left hi]at hy
     rw[a1r (by omega)]at h
     rcases h with h|⟨h1,h2⟩
     ·exact .inl (.inr ⟨i,y,hy,he, .inl h⟩)
     ·by_cases e:i+1=ya.length
      ·refine .inr ⟨0, .inl rfl, ?_⟩
       rw[h2,e]
       omega
      ·exact .inl (.inr ⟨i,y,hy,he, .inr ⟨by omega,h2⟩⟩)
    ·rw[List.getElem?_append_right (by omega)]at hy
     obtain⟨j,rfl⟩:∃j,i=ya.length+j:=⟨i - ya.length,by omega⟩
     rw[show ya.length+j - ya.length=j by omega]at hy
     rcases h with h|⟨h1,h2⟩
     ·rw[a1J he (hj y (List.mem_of_getElem? hy))]at h
      cases h
     ·rw[List.length_append]at h1
      refine .inr ⟨I8 yb (j+1), .inr ⟨j,y,hy,he, .inr ⟨by omega,rfl⟩⟩, ?_⟩
      rw[h2,Nat.add_assoc,a1j]
 ·have hy':yb.getLast? =some y:=by
   rw[List.getLast?_append]at hy
   cases hg:yb.getLast? with
   |none=>exact absurd (List.getLast?_eq_none_iff.1 hg) hb.pos
   |some z=>rw[hg]at hy;simpa using hy
  have hnj:=hj y (List.mem_of_getLast? hy')
  cases he:H8 y with
  |true=>rw[a1J he hnj];simp
  |false=>
   have:=hb.last y hy'
   rw[V8 he]at this
   exact absurd (List.mem_singleton.2 rfl) this
theorem b7R{ca:List (Nat×Nat)}(ha:Cut ya ca):ca.map (mkB (ya++yb))=ca.map (mkB ya):=by
 refine List.map_congr_left fun c hc=> ?_
 have:=(a1R ha.chain).2 c hc
 unfold mkB
 rw[a1r (by omega),a1r (by omega),List.getElem?_append_left (by omega)]
theorem c0O{cb:List (Nat×Nat)}(hb:Cut yb cb)(hj:∀y∈yb,¬(46≤y.op∧y.op≤49)){c:Nat×Nat}(hc:c∈cb):(mkB (ya++yb) (shC ya.length c)).at'=(mkB yb c).at'+I8 ya ya.length∧(mkB (ya++yb) (shC ya.length c)).end'=(mkB yb c).end'+I8 ya ya.length∧
  (mkB (ya++yb) (shC ya.length c)).next.length=(mkB yb c).next.length:=by
 have h:=(a1R hb.chain).2 c hc
 refine⟨?_, ?_, ?_⟩
 ·show I8 (ya++yb) (ya.length+c.1)=I8 yb c.1+_
  rw[a1j,Int.add_comm]
 ·show I8 (ya++yb) (ya.length+c.2)=I8 yb c.2+_
  rw[a1j,Int.add_comm]
 ·have ey:yb[c.2 - 1]? =some yb[c.2 - 1]:=List.getElem?_eq_getElem (by omega)
  have hm:yb[c.2 - 1]∈yb:=List.getElem_mem _
  generalize yb[c.2 - 1]=y at ey hm
  have e2:(ya++yb)[(shC ya.length c).2 - 1]? =some y:=by
   show(ya++yb)[ya.length+c.2 - 1]? =_
   rw[List.getElem?_append_right (by omega),show ya.length+c.2 - 1 - ya.length=c.2 - 1 by omega,ey]
  simp only[mkB,e2,ey]
  exact b8O (hj y hm) _ _
end
theorem a4z{l m:List I7}{q:Int}(h:q∈l.map (·.at')):s8 (l++m) q=s8 l q:=by
 have:=b1Q.2 h
 obtain⟨i,hi⟩:=Option.isSome_iff_exists.1 this
 rw[hi]
 unfold s8 at hi ⊢
 rw[List.findIdx?_append,hi];rfl
theorem b7V{l m:List I7}(h0:l≠[])(hn:∀b∈l,∀q∈b.next,q∈l.map (·.at'))(n:Int):a3c (l++m) n↔a3c l n:=by
 have hz:(l++m)[0]? =l[0]? :=by
  rw[List.getElem?_append_left (List.length_pos_iff.2 h0)]
 constructor
 ·intro h
  induction h with
  |base hb=>rw[hz]at hb;exact .base hb
  |step h1 h2 h3 h4 h5 ih=>
   have hin:=a5E ih
   rw[a4z hin]at h2
   obtain⟨c,hc,e⟩:=Q9 h2
   have hlt:=(List.getElem?_eq_some_iff.1 hc).1
   rw[List.getElem?_append_left hlt]at h3
   exact .step ih h2 h3 h4 (b1Q.2 (hn _ (List.mem_of_getElem? h3) _ h4))
 ·intro h
  induction h with
  |base hb=>exact .base (by rw[hz];exact hb)
  |step h1 h2 h3 h4 h5 ih=>
   have hin:=a5E h1
   have hlt:=(List.getElem?_eq_some_iff.1 h3).1
   refine .step ih (by rw[a4z hin];exact h2) (by rw[List.getElem?_append_left hlt];exact h3) h4 ?_
   rw[b1Q,List.map_append,List.mem_append]
   exact .inl (hn _ (List.mem_of_getElem? h3) _ h4)
theorem b3h{p:Int→Bool}{N:Nat}:∀ {l:List I7},(∀b∈l,b.next.length≤N)→wgt p l≤l.length*(N+1)
 | [],_=>by simp[wgt]
 |b::l,h=>by
  have:=b3h (p:=p) (l:=l) fun c hc=>h c (List.mem_cons_of_mem _ hc)
  have hb:=h b List.mem_cons_self
  simp only[wgt,List.length_cons,Nat.add_mul]
  split<;>omega
theorem b4x.lens{code:List Int}{l:List I7}(h:b4x code l):∀b∈l,b.next.length≤l.length:=fun b hb=>by
 have h1:=a0D (l1:=b.next) (l2:=l.map (·.at')) ((h.rises b hb).imp fun h e=>by omega) fun q hq=>h.heads b hb q hq
 simpa using h1
theorem b4x.i64{code:List Int}{l:List I7}(h:b4x code l)(hl:code.length<2^20):∀b∈l,I64 b.at':=fun b hb=>by
 obtain⟨ys,hB⟩:=h.body b hb
 have:=hB.lo
 have:=hB.hi
 have:=hB.lt
 unfold I64
 omega
theorem a5K{ys:List In}{cuts:List (Nat×Nat)}(h:Cut ys cuts):cuts.length≤(s5 ys).length:=by
 have h1:=a0D (l1:=cuts.map fun c=>I8 ys c.1) (l2:=(List.range ys.length).map (I8 ys)) (List.Pairwise.imp (fun{a b:Int} (h:a<b)=>(by omega:a≠b)) (a3y h.chain)) fun q hq=>by
  obtain⟨c,hc,rfl⟩:=List.mem_map.1 hq
  have:=(a1R h.chain).2 c hc
  exact List.mem_map.2 ⟨c.1,List.mem_range.2 (by omega),rfl⟩
 have h2:=a1g ys
 simp at h1
 omega
section
variable{E:d6}{w0:i7}
theorem b2X{code:List Int}{l:List I7}(hT:b4x code l)(hc:code.length<2^16)(hl:l.length≤code.length){S:b5}:r7 Try.prog E w0 B5 [A0 l] S fun d S'=>S'=S∧∃r,d=iD r∧r.Pairwise (· < ·)∧∀n,n∈r↔a3c l n:=by
 have h1:=hT.lens
 have h2:=b3h (p:=fun _=>true) (l:=l) (N:=l.length) h1
 have h3:l.length*(l.length+1)≤2^16*2^16:=Nat.mul_le_mul (by omega) (by omega)
 exact a4b (hT.i64 (by omega)) (by omega) (by omega) fun b hb=>by have:=h1 b hb;omega
theorem c5v{ya yb:List In}{ca cb:List (Nat×Nat)}(ha:Cut ya ca)(hb:Cut yb cb)(hj:∀y∈yb,¬(46≤y.op∧y.op≤49))(hsa:∀y∈ya,isS y=true)(hsb:∀y∈yb,isS y=true)(hla:(s5 ya).length≤2000)(hlb:(s5 yb).length≤2000){S:b5}:
  d5 Try.prog E w0 (.loop G6) (g8 160 [0,5,7,14,16] [bD (s5 ya),A0 (ca.map (mkB ya)),A0 (cb.map (mkB yb)),A0 ((ca++cb.map (shC ya.length)).map (mkB (ya++yb))),(.int .i64 0)]) S (H6 E w0 (tF E)):=by
 have hcut:=b6X ha hb hj
 have hsab:∀y∈ya++yb,isS y=true:=fun y hy=>(List.mem_append.1 hy).elim (hsa y) (hsb y)
 have hlab:(s5 (ya++yb)).length≤4000:=by rw[E6,List.length_append];omega
 have hT:=a0v hsab hcut
 have hTa:=a0v hsa ha
 have hcl:=a5K hcut
 have hcla:=a5K ha
 have hclb:=a5K hb
 have lb:j8 (bD (s5 ya))=some (.int .i64 (s5 ya).length):=by simp[bD,U6]
 refine a2Y (I:=fun m x0 x5 x7 x14 x16 T=>x0=bD (s5 ya)∧x5=A0 (ca.map (mkB ya))∧x7=A0 (cb.map (mkB yb))∧x14=A0 ((ca++cb.map (shC ya.length)).map (mkB (ya++yb)))∧∃i:Nat,x16= .int .i64 (i:Int)∧i+m=cb.length) ?_ (n:=cb.length) ⟨rfl,rfl,rfl,rfl,0,rfl,by omega⟩
 rintro m _ _ _ _ _ T ⟨rfl,rfl,rfl,rfl,i,rfl,hi⟩
 unfold P3
 rw[Q8,List.length_map,oD,a3K,oD,cdI]
 have hn3:(cb.map (shC ya.length)).length=cb.length:=List.length_map _
 refine⟨fun hlt=> ?_,fun hge=> ?_⟩
 ·have hlt':i<cb.length:=by omega
  have ec:cb[i]? =some cb[i]:=List.getElem?_eq_getElem hlt'
  have hcm:cb[i]∈cb:=List.getElem_mem _
  generalize cb[i]=c at ec hcm
  obtain⟨r1,r2,r3⟩:=c0O (ya:=ya) hb hj hcm
  have e1:((ca++cb.map (shC ya.length)).map (mkB (ya++yb)))[ca.length+i]? =some (mkB (ya++yb) (shC ya.length c)):=by
   rw[List.getElem?_map,List.getElem?_append_right (by omega),show ca.length+i - ca.length=i by omega,List.getElem?_map,ec];rfl
  have e2:(cb.map (mkB yb))[i]? =some (mkB yb c):=by rw[List.getElem?_map,ec];rfl
  have hbt:=a0v hsb hb
  have hbm:mkB yb c∈cb.map (mkB yb):=List.mem_map.2 ⟨c,hcm,rfl⟩
  obtain⟨yy,hB⟩:=hbt.body _ hbm
  have b1:=hB.lo
  have b2:=hB.lt
  have b3:=hB.hi
  have hxa:I8 ya ya.length=((s5 ya).length:Int):=(a1i ya).symm
  rw[hxa]at r1 r2
  generalize mkB (ya++yb) (shC ya.length c)=x at e1 r1 r2 r3
  generalize mkB yb c=z at e2 r1 r2 r3 hbm hB b1 b2 b3
  rw[Q8,List.length_map,oD,J8,oD,g9 (by omega) (by omega),show((ca.length:Int)+(i:Int))=((ca.length+i:Nat):Int) by omega,L0 e1,oD,laE,if_pos ⟨by decide,by simp[F7]⟩,oD]
  intro k a nk
  refine(I5.new (sz:=3) (c:=[.int .i64 0, .int .i64 0, .nilSlc])).st (ds:=F7 x) (clA _) ⟨rfl,by decide,by simp[F7]⟩ fun c'=> ?_
  rw[b5.set_set,show n8 [D.int .i64 0, .int .i64 0, .nilSlc] 0 (F7 x)=F7 x from rfl]
  have ck:I5 (T.set k ⟨3,[F7 x],c'⟩) k 3 (F7 x):=I5.new
  have n1:decide (x.at'≠z.at'+((s5 ya).length:Int))=false:=decide_eq_false fun h=>h r1
  have n2:decide (x.end'≠z.end'+((s5 ya).length:Int))=false:=decide_eq_false fun h=>h r2
  have n3:decide ((x.next.length:Int)≠(z.next.length:Int))=false:=decide_eq_false fun h=>h (by rw[r3])
  simp only[ofP,oD,ck.ld,Nat.zero_add,bR0,bR1,bR2,L0 e2,ofE,lsE,lb,J8]
  rw[g9 (by omega) (by omega)]
  simp only[oD,a8n,n1,wdB,t2,vdT,ofP,ck.ld,Nat.zero_add,bR1,L0 e2,ofE,lsE,lb,J8]
  rw[g9 (n:=z.end'+((s5 ya).length:Int)) (by omega) (by omega)]
  simp only[oD,a8n,n2,wdB,t2,vdT,ofP,ck.ld,Nat.zero_add,bR2,L0 e2,ofE,lsE,a3T,n3,pdB,Bool.false_eq_true,if_false,cdF]
  rw[g9 (by omega) (by omega)]
  exact⟨m - 1,by omega,by trivial,by trivial,by trivial,by trivial,i+1,by simp,by omega⟩
 ·refine(b2X hT (by omega) (by rw[List.length_map];exact hcl)).use ?_
  rintro d S' ⟨rfl,r,rfl,h1,h2⟩
  refine(b2X hTa (by omega) (by rw[List.length_map];exact hcla)).use ?_
  rintro d S' ⟨rfl,r',rfl,h3,h4⟩
  have he:r=r':=b7i h1 h3 fun n=>by
   rw[h2,h4,List.map_append,b7R ha]
   exact b7V hTa.ne hTa.heads n
  subst he
  have hrl:=c3t h3 h4
  rw[List.length_map]at hrl
  refine(show r7 Try.prog E w0 C4 [iD r,iD r] _ _ from(a0M (by omega) (by omega)).use ?_)
  rw[decide_eq_true rfl,wdB,t4,gdT]
  refine b3j.use ?_
  rw[pdB,if_pos rfl,oD]
  exact b8.here rfl
theorem c0b(a b:List Int):bD (a++b)= .lst (U6 (a.map (D.int .u8))++U6 (b.map (D.int .u8))) 1:=by simp[bD,U6]
theorem b0K{a b:List Int}(hab:∀x∈a,J5 x)(hbb:∀x∈b,J5 x){S:b5}:r7 Try.prog E w0 a1C [bD a,bD b] S fun v _=>v= .bool true:=by
 refine a4n ?_
 unfold a1z
 have lb:∀c:List Int,j8 (bD c)=some (.int .i64 c.length):=fun c=>by simp[bD,U6]
 rw[lb,oD,b0O,oD]
 by_cases c1:(a.length:Int)>2000
 ·simp only[decide_eq_true c1,wdB,t1,vdF,oD,pdB,if_true,cdT]
  exact a3s
 by_cases c2:(b.length:Int)>2000
 ·simp only[decide_eq_false c1,wdB,t2,vdT,oD,lb,b0O,decide_eq_true c2,pdB,Bool.false_eq_true,if_false,cdT]
  exact a3s
 simp only[decide_eq_false c1,wdB,t2,vdT,oD,lb,b0O,decide_eq_false c2,pdB,Bool.false_eq_true,if_false,cdF]
 refine(show r7 Try.prog E w0 E8 [bD a] _ _ from(a0P hab (by omega)).use ?_)
 unfold ofD
 simp only[exD,List.getElem?_cons_zero,List.getElem?_cons_succ,oD]
 refine(show r7 Try.prog E w0 E8 [bD b] _ _ from(a0P hbb (by omega)).use ?_)
 unfold ofD
 simp only[exD,List.getElem?_cons_zero,List.getElem?_cons_succ,oD]
 refine(show r7 Try.prog E w0 Y7 [bD b] _ _ from(b8I hbb (by omega)).use ?_)
 rw[c3q]
 simp only[exD,List.getElem?_cons_zero,List.getElem?_cons_succ,oD]
 have hxl:=(c3f hbb).2.1
 have hxb:∀L,a2f b= .ok L→(a8H (a2f b)).1=z6 L:=fun L h=>by rw[h];rfl
 generalize (a8H (a2f b)).1=xs at hxl hxb
 refine a2T (I:=fun m x0 x1 x5 x6 x7 x8 x9 x12 T=>x0=bD a∧x1=bD b∧x5=A0 (q8 a).1∧x6= .int .i64 (q8 a).2∧x7=A0 (q8 b).1∧x8= .int .i64 (q8 b).2∧x9=Q1 xs∧∃i:Nat,x12= .int .i64 (i:Int)∧i+m=xs.length∧∀y∈xs.take i,¬(46≤y.op∧y.op≤49)) ?_ (n:=xs.length) ⟨rfl,rfl,rfl,rfl,rfl,rfl,rfl,0,rfl,by omega,by simp⟩
 rintro m _ _ _ _ _ _ _ _ T ⟨rfl,rfl,rfl,rfl,rfl,rfl,rfl,i,rfl,hi,hnj⟩
 unfold O0
 rw[b0P,oD,a3K,oD,cdI]
 refine⟨fun hlt=> ?_,fun hge=> ?_⟩
 ·have hlt':i<xs.length:=by omega
  have ey:xs[i]? =some xs[i]:=List.getElem?_eq_getElem hlt'
  generalize xs[i]=y at ey
  have go:¬(46≤y.op∧y.op≤49)→∃m',m'<m∧(bD a=bD a∧bD b=bD b∧A0 (q8 a).1=A0 (q8 a).1∧D.int .i64 (q8 a).2= .int .i64 (q8 a).2∧A0 (q8 b).1=A0 (q8 b).1∧D.int .i64 (q8 b).2= .int .i64 (q8 b).2∧Q1 xs=Q1 xs∧∃i':Nat,D.int .i64 (IntKind.i64.wrap ((i:Int)+1))= .int .i64 (i':Int)∧i'+m'=xs.length∧∀y∈xs.take i',¬(46≤y.op∧y.op≤49)):=fun hy=>
   ⟨m - 1,by omega,rfl,rfl,rfl,rfl,rfl,rfl,rfl,i+1,by rw[g9 (by omega) (by omega)];simp,by omega,fun z hz=>by
    rw[List.take_add_one,ey]at hz
    rcases List.mem_append.1 hz with hz|hz
    ·exact hnj z hz
    ·simp only[Option.toList,List.mem_singleton]at hz
     rw[hz];exact hy⟩
  have r0:(inC y)[0]? =some (.int .u8 y.op):=rfl
  simp only[b8W ey,oD,ofE,Nat.zero_add,lsE,r0,c0E]
  by_cases q1:y.op≥46
  ·by_cases q2:y.op≤49
   ·simp only[decide_eq_true q1,wdB,t4,vdT,oD,b8W ey,ofE,Nat.zero_add,lsE,r0,c5u,decide_eq_true q2,pdB,if_true,cdT]
    exact a3s
   ·simp only[decide_eq_true q1,wdB,t4,vdT,oD,b8W ey,ofE,Nat.zero_add,lsE,r0,c5u,decide_eq_false q2,pdB,if_true,cdF,J8]
    obtain⟨m',g0,_,_,_,_,_,_,_,g⟩:=go fun h=>q2 h.2
    exact⟨m',g0,by trivial,by trivial,by trivial,by trivial,by trivial,by trivial,by trivial,g⟩
  ·simp only[decide_eq_false q1,wdB,t3,vdF,oD,pdB,Bool.false_eq_true,if_false,cdF,J8]
   obtain⟨m',g0,_,_,_,_,_,_,_,g⟩:=go fun h=>q1 h.1
   exact⟨m',g0,by trivial,by trivial,by trivial,by trivial,by trivial,by trivial,by trivial,g⟩
 ·rw[List.take_of_length_le (by omega)]at hnj
  rw[a8n,oD]
  by_cases e1:(q8 a).2≠0
  ·simp only[decide_eq_true e1,wdB,t1,vdF,oD,pdB,if_true,cdT]
   exact a3s
  by_cases e2:(q8 b).2≠0
  ·simp only[decide_eq_false e1,wdB,t2,vdT,oD,a8n,decide_eq_true e2,pdB,Bool.false_eq_true,if_false,cdT]
   exact a3s
  simp only[decide_eq_false e1,wdB,t2,vdT,oD,a8n,decide_eq_false e2,pdB,Bool.false_eq_true,if_false,cdF]
  have ha0:q8 a=((q8 a).1,0):=by rw[show(0:Int)=(q8 a).2 by omega]
  have hb0:q8 b=((q8 b).1,0):=by rw[show(0:Int)=(q8 b).2 by omega]
  generalize (q8 a).1=la at*
  generalize (q8 b).1=lbk at*
  obtain⟨ya,ca,rfl,hsa,hca,rfl⟩:=a6D hab ha0
  obtain⟨yb,cb,rfl,hsb,hcb,rfl⟩:=a6D hbb hb0
  have hxy:xs=yb:=by
   obtain⟨L,h1,h2,_⟩:=b9K hsb
   rw[hxb L h1,h2]
  subst hxy
  have hcut:=b6X hca hcb hnj
  have hsab:∀y∈ya++xs,isS y=true:=fun y hy=>(List.mem_append.1 hy).elim (hsa y) (hsb y)
  have hbl:=b3J hsab hcut
  have hpa:0<(s5 ya).length:=by have:=a1g ya;have:=List.length_pos_iff.2 hca.pos;omega
  have hpb:0<(s5 xs).length:=by have:=a1g xs;have:=List.length_pos_iff.2 hcb.pos;omega
  have hne:∀c:List Int,0<c.length→U6 (c.map (D.int .u8))≠[]:=fun c hc e=>by
   have:=congrArg List.length e
   simp at this
   rw[this]at hc
   simp at hc
  refine(X0.nil (S0:=T) (av:=[]) (sz:=1)).push (news:=U6 ((s5 ya).map (D.int .u8))) (b5.le_refl T) (by simp) (by simp[bD,rowsS,E7]) (hne _ hpa) ⟨by decide,by simp;omega⟩ fun t1' T1 l1 _ g1=> ?_
  refine g1.push (news:=U6 ((s5 xs).map (D.int .u8))) l1 (by simp) (by simp[bD,rowsS,E7]) (hne _ hpb) ⟨by decide,by simp;omega⟩ fun t2' T2 l2 _ g2=> ?_
  rw[List.nil_append]at g2
  refine DF.grA g2 l2 fun T3 l3=> ?_
  rw[←c0b, ←E6]
  refine(show r7 Try.prog E w0 E8 [bD (s5 (ya++xs))] _ _ from(a0P (fun z hz=> ?_) (by rw[E6,List.length_append];omega)).use ?_)
  ·rw[E6]at hz
   exact(List.mem_append.1 hz).elim (hab z) (hbb z)
  rw[hbl]
  unfold ofD
  have hcla:=a5K hca
  have hclb:=a5K hcb
  have hcl:=a5K hcut
  have hlen:((ca++cb.map (shC ya.length)).map (mkB (ya++xs))).length=ca.length+cb.length:=by simp
  have hT:=a0v hsab hcut
  have hTa:=a0v hsa hca
  obtain⟨xsl,hsl,hxw⟩:∃x,V3 3 (A0 ((ca++cb.map (shC ya.length)).map (mkB (ya++xs)))) none (some (.int .i64 ((ca.map (mkB ya)).length:Int))) none=some x∧Wk x (A0 (ca.map (mkB ya))):=by
   refine⟨_,c6a (by simp), ?_⟩
   have e:(((ca++cb.map (shC ya.length)).map (mkB (ya++xs))).map F7).take (ca.map (mkB ya)).length=(ca.map (mkB ya)).map F7:=by
    rw[List.map_append,List.map_append,b7R hca,List.take_left' (by simp)]
   rw[e]
   exact c2F _ _ _
  have n0:decide ((((ca++cb.map (shC ya.length)).map (mkB (ya++xs))).length:Int)≠(((ca.length:Int)+(cb.length:Int))))=false:=decide_eq_false fun h=>h (by rw[hlen];omega)
  simp only[exD,List.getElem?_cons_zero,List.getElem?_cons_succ,oD,a8n,show decide ((0:Int)≠0)=false from rfl,wdB,t2,vdT,Q8,J8]
  simp only[List.length_map]at n0 hsl ⊢
  rw[g9 (by omega) (by omega)]
  simp only[oD,a8n,n0,pdB,Bool.false_eq_true,if_false,wdB,t2,vdT,hsl,gdT]
  rw[Q8,List.length_map,oD,hsl,oD]
  refine DF.weak (ds:=[xsl,A0 (ca.map (mkB ya))]) (es:=[A0 (ca.map (mkB ya)),A0 (ca.map (mkB ya))]) ⟨hxw,Wk.refl _,trivial⟩ ?_
  have hna:∀x∈ca.map (mkB ya),x.next.length<2^60:=fun x hx=>by have:=hTa.lens x hx;simp at this;omega
  refine(show r7 Try.prog E w0 a0O [A0 (ca.map (mkB ya)),A0 (ca.map (mkB ya))] _ _ from(b3k (by simp;omega) (by simp;omega) hna hna).use ?_)
  rw[decide_eq_true rfl]
  simp only[unN,oD,Bool.not_true,vdT,pdB,Bool.false_eq_true,if_false,cdF]
  exact c5v hca hcb hnj hsa hsb (by omega) (by omega)
end
end Go.Proofs.Ytdkidgkiplcggaa.d
end
section
namespace Go.Am
open Go.ChangeShapes Go.WideShapes Go.ChangeAt Go.RowKit
def a0s:Value→AV
 | .slice (some a) len cap=>if len≤cap∧(cap=0∨a.spot=none) then .slc (.old a.block) a.off len cap true 1 else .opq (.slice (some a) len cap)
 | .pointer (some a)=>if a.spot=none then .ptr (.old a.block) a.off else .opq (.pointer (some a))
 |v=>a9a v
def b7E:Value→AV
 | .agg cs=> .agg (cs.toList.map a0s)
 |v=>a0s v
theorem b7j(ρ:p4)(v:Value):rel ρ (a0s v) v:=by
 unfold a0s
 split
 ·rename_i a len cap
  split
  ·rename_i h
   simp only[rel,B6,a9o]
   refine⟨a,cap,rfl,h.1,Nat.le_refl _,fun _=>rfl, ?_,trivial⟩
   rcases h.2 with e|e
   ·exact .inl e
   ·right
    refine⟨a.block,0,rfl, ?_⟩
    obtain⟨b,o,s⟩:=a
    simp only at e
    subst e
    simp
  ·simp only[rel]
 ·rename_i a
  split
  ·rename_i e
   simp only[rel,B6]
   refine⟨a.block,0,rfl, ?_⟩
   obtain⟨b,o,s⟩:=a
   simp only at e
   subst e
   simp
  ·simp only[rel]
 ·exact a7n _
theorem a8J(ρ:p4):∀l:List Value,i5 ρ (l.map a0s) l
 | []=>i6.2 rfl
 |v::l=>d8.2 ⟨b7j ρ v,a8J ρ l⟩
theorem c2h(ρ:p4)(v:Value):rel ρ (b7E v) v:=by
 unfold b7E
 split
 ·simp only[rel]
  exact⟨_,rfl,a8J ρ _⟩
 ·exact b7j ρ _
theorem b4c(ρ:p4):∀l:List Value,i5 ρ (l.map b7E) l
 | []=>i6.2 rfl
 |v::l=>d8.2 ⟨c2h ρ v,b4c ρ l⟩
def X8(W:World):d6:=fun b=>match W.heap[b]? with
 |some (.cells arr _ _)=>some (arr.toList.map a0s)
 |_=>none
theorem c1f(W:World)(b:Nat)(cs:List AV)(h:X8 W b=some cs):b<W.heap.size∧∃arr el fr,W.heap[b]? =some (.cells arr el fr)∧i5 (fun _=>none) cs arr.toList:=by
 unfold X8 at h
 split at h
 ·rename_i arr el fr e
  cases h
  exact⟨(Array.getElem?_eq_some_iff.1 e).1,arr,el,fr,e,a8J _ _⟩
 ·cases h
theorem c0s{P:Program}{f:FuncId}{W:World}{vargs:Array Value}(h:FnW P (X8 W) (c1L W) f (vargs.toList.map b7E) AHeap.empty fun v _=>v= .bool true):
  Calls P f vargs W fun e w=>e= .returned (.bool true)∧b0C W w:=
 b5I h (c1f W) (b4c _ _)
theorem b0C.same{W W':World}(h:b0C W W'){p:MemPlace}(hp:p.block<W.heap.size):W.sameAt W' p:=by
 cases p with
 |cell b off=>
  show W'.cell? ⟨b,off,none⟩=W.cell? ⟨b,off,none⟩
  unfold World.cell?
  rw[h.2.2 b hp]
 |map b=>
  show W'.heap[b]? =W.heap[b]?
  exact h.2.2 b hp
theorem a6A{H:Type}{enc:TypeId×Value→H}{P:Program}(hl:laidOutB P=true){W W':World}{sp:Nat→Bool}:∀ {ts:List TypeId} {vs:List Value} {ds:List (DataW H)} {ps:List MemPlace},(∀t∈ts,P.readableRec t=true∧t<P.types.size)→
  DataW.TrodAll enc P W 0 (fun _=>true) true ts vs ds ps→(∀p∈ps,W.sameAt W' p)→(∀p∈ps,sp p.block=true)→DataW.TrodAll enc P W' 0 sp true ts vs ds ps
 | [],[],[],ps,_,h,_,_=>h
 |t::ts,v::vs,d::ds,ps,ht,h,hs,hp=>by
  obtain⟨p,q,h1,h2,rfl⟩:=h
  refine⟨p,q,WideElems.Trod_stays hl (ht t List.mem_cons_self).1 (ht t List.mem_cons_self).2 h1 (fun x hx=>hs x (List.mem_append_left _ hx)) (fun x hx=>hp x (List.mem_append_left _ hx)), ?_,rfl⟩
  exact a6A hl (fun t ht'=>ht t (List.mem_cons_of_mem _ ht')) h2 (fun x hx=>hs x (List.mem_append_right _ hx)) (fun x hx=>hp x (List.mem_append_right _ hx))
theorem b6Y{H:Type}{enc:TypeId×Value→H}{P:Program}{f:Func}{s:ChangeSpec}{apart fresh handsOn again:Bool}{W W':World}{args:Array Value}{ds gs:List (DataW H)}{before:List MemPlace}{b:TypeId}
  (hW:DataW.Whole enc P f.params.toList s.vars apart W args.toList ds gs before) (hvars:s.vars=[]) (hl:laidOutB P=true) (hts:∀t∈f.params.toList,P.readableRec t=true∧t<P.types.size)
  (hb:P.underlying b=some .bool) (hrt:f.resultTypes= #[b])
  (hres:(s.fn H ds).results=[.lit (.bool true)]) (hargs:(s.fn H ds).args=ds) (hvs:(s.fn H ds).vars=[]) (hk:b0C W W'):
  s.post enc P f apart fresh handsOn again W args (.bool true) W':=by
 have hW':=hW
 obtain⟨p,q,hA,hV,rfl,_,_⟩:=hW
 rw[hvars]at hV
 obtain⟨rfl,rfl⟩:=trodVars_none hV
 have hlt:∀x∈p,x.block<W.heap.size:=fun x hx=>hW'.lt x (by simpa using hx)
 refine b5w (pa:=p) (pv:=[]) hW' ?_ ?_ ?_ rfl hk ?_
 ·intro b0 sp hd
  rw[List.append_nil,hres,hrt]
  exact trodAll_cons_mk (shut_bool hb _) trodAll_mk0
 ·intro sp hsp
  rw[List.append_nil,hargs]
  exact a6A hl hts hA (fun x hx=>hk.same (hlt x hx)) (fun x hx=>hsp x (by simpa using hx))
 ·intro sp _
  rw[hvars,List.append_nil,hvs]
  rfl
 ·intro j t r h1 h2
  rw[hrt]at h1 h2
  match j,h1,h2 with
  |0,h1,h2=>
   simp[Value.resultList]at h1 h2
   subst h1 h2
   exact okWide_bool_mk hb _
theorem a0T{w:World}{a:Addr}{v:Value}(h:w.cell? a=some v):a.spot=none∧∃arr el fr,w.heap[a.block]? =some (.cells arr el fr)∧arr[a.off]? =some v:=by
 unfold World.cell? at h
 split at h
 ·rename_i c el fr hb
  split at h
  ·cases h
  ·rename_i hns
   exact⟨by cases hs:a.spot with
    |none=>rfl
    |some x=>rw[hs]at hns;exact(hns rfl).elim,c,el,fr,hb,h⟩
 ·cases h
end Go.Am
end
section
open Go Go.Am
namespace Go.Am.Old
open Go.ChangeShapes Go.WideShapes Go.ChangeAt Go.RowKit
section
variable{H:Type}{enc:TypeId×Value→H}{P:Program}{W:World}{b0:Nat}{sp:Nat→Bool}{hd:Bool}
theorem c1R{n:Nat}{t:TypeId}{k:IntKind}{cs:List Value}{x:DataW H×List MemPlace}(ht:P.underlying t=some (.int k))(h:DataW.trod enc P W b0 sp hd n t cs=some x):∃z,cs=[.int k z]∧(Lit.int k z).wf=true:=by
 cases n with
 |zero=>simp[DataW.trod]at h
 |succ n=>
  simp only[DataW.trod,ht]at h
  split at h
  all_goals (first|(cases h;done)|skip)
  all_goals simp_all
  all_goals (first|(obtain⟨⟨rfl,h2⟩,_⟩:=h;exact⟨_,⟨rfl,rfl⟩,h2⟩)|skip)
end
theorem b7h{α β:Type}{f:α→Option β}:∀ {l:List α} {r:List β},l.mapM f=some r→∀(i:Nat) (x:α),l[i]? =some x→∃y,r[i]? =some y∧f x=some y
 | [],r,h,i,x,hx=>by simp at hx
 |a::l,r,h,i,x,hx=>by
  simp only[List.mapM_cons,Option.bind_eq_bind,Option.bind_eq_some_iff]at h
  obtain⟨b,hb,bs,hbs,h⟩:=h
  cases h
  cases i with
  |zero=>simp at hx;subst hx;exact⟨b,rfl,hb⟩
  |succ i=>
   have hx':l[i]? =some x:=by simpa using hx
   obtain⟨y,h1,h2⟩:=b7h hbs i x hx'
   exact⟨y,by simpa using h1,h2⟩
theorem a9J{α β:Type}{f:α→Option β}:∀ {l:List α} {r:List β},l.mapM f=some r→r.length=l.length
 | [],r,h=>by simp at h;subst h;rfl
 |a::l,r,h=>by
  simp only[List.mapM_cons,Option.bind_eq_bind,Option.bind_eq_some_iff]at h
  obtain⟨b,hb,bs,hbs,h⟩:=h
  cases h
  simp[a9J hbs]
theorem a5n{H:Type}{P:Program}{e:TypeId}:∀ {l:List (DataW H)} {d:DataW H},d∈l→∀n∈DataW.weights P e d,n∈DataW.weightsAll P e l
 |a::l,d,h,n,hn=>by
  simp only[DataW.weightsAll]
  rcases List.mem_cons.1 h with rfl|h
  ·exact List.mem_append_left _ hn
  ·exact List.mem_append_right _ (a5n h n hn)
theorem b6h{H:Type}{enc:TypeId×Value→H}{P:Program}{W:World}{hd:Bool}{n:Nat}{t e:TypeId}{sz:Nat}{cs:List Value}{x:DataW H×List MemPlace}(ht:P.underlying t=some (.slice e))(hc:P.cellsOf e=sz)(hsz:0<sz)
  (h:DataW.trod enc P W 0 (fun _=>true) hd n t cs=some x):∃c,cs=[c]∧((a0s c= .nilSlc)∨∃(b i len cap m:Nat) (els:List (DataW H×List MemPlace)),a0s c= .slc (.old b) i len cap true 1∧len≤cap∧els.length=len∧(∀d∈els,∀k∈DataW.weights P e d.1,k∈DataW.weights P t x.1)∧
   (∀k:Nat,len*P.bytesOf e≤k∨k∈DataW.weights P t x.1∨True)∧(∃k∈DataW.weights P t x.1,len*P.bytesOf e≤k)∧
   ∀j d,els[j]? =some d→∃(all:List AV) (vs:List Value),X8 W b=some all∧(all.drop (i+j*sz)).take sz=vs.map a0s∧DataW.trod enc P W 0 (fun _=>true) hd m e vs=some d):=by
 rcases DataW.trod_slice ht h with ⟨e1,_⟩|⟨a,len,cap,elems,rest,m,_,e1,hx,_,hl,hm,hlen,hel,hsp,_⟩
 ·exact⟨_,e1, .inl rfl⟩
 ·refine⟨_,e1, .inr ?_⟩
  have hd':x.1= .slice (elems.map (·.1)) (rest.map (·.1)):=by rw[hx]
  have hcell:∀ {c:Addr} {cs:List Value},W.cells? 0 c sz=some cs→cs.length=sz∧∀j,j<sz→∃x,cs[j]? =some x∧W.cell? (c.add j)=some x:=by
   intro c cs hc
   unfold World.cells? at hc
   rw[if_pos (Nat.zero_le _)]at hc
   refine⟨by have:=a9J hc;simpa using this,fun j hj=> ?_⟩
   obtain⟨y,h1,h2⟩:=b7h hc j j (by rw[List.getElem?_range hj])
   exact⟨y,h1,h2⟩
  have hs:cap=0∨a.spot=none:=by
   by_cases h0:cap=0
   ·exact .inl h0
   ·right
    by_cases hl0:len=0
    ·obtain⟨r1,r2⟩:=hsp rfl
     have:=r2 0 (by omega)
     rw[hc,hl0,List.getElem?_eq_getElem (by omega)]at this
     obtain⟨cs,h1,_⟩:=Option.bind_eq_some_iff.1 this
     obtain⟨x,_,h2⟩:=(hcell h1).2 0 hsz
     simp only[Nat.add_zero,Nat.zero_mul]at h2
     exact(a0T h2).1
    ·have:=hel 0 (by omega)
     rw[hc,List.getElem?_eq_getElem (by omega)]at this
     obtain⟨cs,h1,_⟩:=Option.bind_eq_some_iff.1 this
     obtain⟨x,_,h2⟩:=(hcell h1).2 0 hsz
     simp only[Nat.add_zero,Nat.zero_mul]at h2
     exact(a0T h2).1
  refine⟨a.block,a.off,len,cap,m,elems, ?_,by omega,hlen, ?_,fun _=> .inr (.inr trivial),⟨(elems.length+rest.length)*P.bytesOf e, ?_, ?_⟩, ?_⟩
  ·simp only[a0s]
   rw[if_pos ⟨hl,hs⟩]
  ·intro d hdm k hk
   rw[hd']
   simp only[DataW.weights,ht]
   exact List.mem_cons_of_mem _ (List.mem_append_left _ (a5n (d:=d.1) (List.mem_map.2 ⟨d,hdm,rfl⟩) k hk))
  ·rw[hd'];simp[DataW.weights,ht]
  ·rw[hlen];exact Nat.mul_le_mul_right _ (by omega)
  ·intro i d hid
   have hi:i<len:=by have:=(List.getElem?_eq_some_iff.1 hid).1;omega
   have hi':=hel i hi
   rw[hc,hid]at hi'
   obtain⟨cs,h1,h2⟩:=Option.bind_eq_some_iff.1 hi'
   obtain⟨c1,c2⟩:=hcell h1
   have hs':a.spot=none:=hs.resolve_left (by omega)
   have hadd:∀j,(a.add (i*sz)).add j=⟨a.block,a.off+i*sz+j,none⟩:=by
    intro j
    obtain⟨b,of,s⟩:=a
    simp only at hs'
    subst hs'
    unfold Addr.add
    split<;>split<;>simp_all
   obtain⟨x0,_,hx0⟩:=c2 0 hsz
   rw[hadd]at hx0
   obtain⟨_,arr,el,fr,hb,_⟩:=a0T hx0
   simp only at hb
   refine⟨arr.toList.map a0s,cs,by unfold X8;rw[hb], ?_,h2⟩
   refine List.ext_getElem? fun j=> ?_
   rw[List.getElem?_take]
   split
   ·rename_i hj
    obtain⟨xj,hj1,hj2⟩:=c2 j hj
    rw[hadd]at hj2
    obtain⟨_,arr',el',fr',hb',hj3⟩:=a0T hj2
    simp only at hb' hj3
    rw[hb]at hb'
    cases hb'
    rw[List.getElem?_drop,List.getElem?_map,Array.getElem?_toList,hj3,List.getElem?_map,hj1]
   ·rename_i hj
    rw[List.getElem?_map,List.getElem?_eq_none (by omega)]
    rfl
theorem c4h{z:Int}(h:(Lit.int .i64 z).wf=true): -9223372036854775808≤z∧z≤9223372036854775807:=by
 simp only[Lit.wf,Bool.and_eq_true,decide_eq_true_eq]at h
 have h1:IntKind.i64.min= -9223372036854775808:=rfl
 have h2:IntKind.i64.max=9223372036854775807:=rfl
 omega
theorem c5w{z:Int}(h:(Lit.int .u8 z).wf=true):0≤z∧z≤255:=by
 simp only[Lit.wf,Bool.and_eq_true,decide_eq_true_eq]at h
 have h1:IntKind.u8.min=0:=rfl
 have h2:IntKind.u8.max=255:=rfl
 omega
section
variable{H:Type}{enc:TypeId×Value→H}{P:Program}{W:World}{hd:Bool}
theorem c1Z{α:Type}[Inhabited α]{row:α→List D}{a0U:α→Prop}{n:Nat}{t e:TypeId}{sz:Nat}{cs:List Value}{x:DataW H×List MemPlace}(ht:P.underlying t=some (.slice e))(hc:P.cellsOf e=sz)(hsz:0<sz)(hrow:∀a,(row a).length=sz)
  (h:DataW.trod enc P W 0 (fun _=>true) hd n t cs=some x)
  (f:∀m vs d,DataW.trod enc P W 0 (fun _=>true) hd m e vs=some d→(∀k∈DataW.weights P e d.1,k∈DataW.weights P t x.1)→∃a,a0U a∧(∀R,o4 (X8 W) R (row a) (vs.map a0s))∧(vs.map a0s).all i9=true):
  ∃c l,cs=[c]∧(∀a∈l,a0U a)∧(∀R,Rp (X8 W) R (.lst (l.map row) sz) (a0s c))∧i9 (a0s c)=true∧(l=[]∨∃k∈DataW.weights P t x.1,l.length*P.bytesOf e≤k):=by
 obtain⟨c,e0,h1|⟨b,i,len,cap,m,els,h1,hlc,h2,h3,_,hk,h6⟩⟩:=b6h ht hc hsz h
 ·exact⟨c,[],e0,by simp,fun R=>by rw[h1];simp only[Rp];exact .inl ⟨by trivial,by trivial⟩,by rw[h1];rfl, .inl rfl⟩
 ·have each:∀j,∃a:α,j<len→a0U a∧∃all,X8 W b=some all∧(∀R,o4 (X8 W) R (row a) ((all.drop (i+j*sz)).take sz))∧((all.drop (i+j*sz)).take sz).all i9=true:=by
   intro j
   by_cases hj:j<len
   ·obtain⟨all,vs,g1,g2,g3⟩:=h6 j _ (List.getElem?_eq_getElem (by omega:j<els.length))
    obtain⟨a,q1,q2,q3⟩:=f m vs _ g3 (h3 _ (List.getElem_mem _))
    exact⟨a,fun _=>⟨q1,all,g1,by rw[g2];exact q2,by rw[g2];exact q3⟩⟩
   ·exact⟨default,fun h=>(hj h).elim⟩
  obtain⟨g,hg⟩:=Classical.axiomOfChoice each
  have main:∀(all:List AV),X8 W b=some all→∀N,N≤len→(∀R,R4 (X8 W) R (((List.range N).map g).map row) ((all.drop i).take (N*sz)))∧((all.drop i).take (N*sz)).all i9=true:=by
   intro all hall N
   induction N with
   |zero=>intro _;exact⟨fun R=>by simp[R4],by simp⟩
   |succ N ih=>
    intro hN
    obtain⟨i1,i2⟩:=ih (by omega)
    obtain⟨_,all',g1,g2,g3⟩:=hg N (by omega)
    rw[hall]at g1
    cases g1
    have e1:(all.drop i).take ((N+1)*sz)=(all.drop i).take (N*sz)++(all.drop (i+N*sz)).take sz:=by
     rw[Nat.succ_mul,List.take_add,List.drop_drop]
    rw[e1]
    refine⟨fun R=> ?_,by rw[List.all_append,i2,g3];rfl⟩
    rw[List.range_succ,List.map_append,List.map_append,B7,List.flatten_append]
    refine(B7.1 (i1 R)).append ?_
    simpa using g2 R
  refine⟨c,(List.range len).map g,e0,fun a ha=> ?_,fun R=> ?_,by rw[h1];rfl, .inr ?_⟩
  ·obtain⟨j,hj,rfl⟩:=List.mem_map.1 ha
   exact(hg j (List.mem_range.1 hj)).1
  ·rw[h1]
   simp only[Rp]
   refine .inr ⟨.old b,i,cap,true,1,by simp,trivial,by simpa using hlc, ?_, ?_⟩
   ·intro r hr
    obtain⟨a,_,rfl⟩:=List.mem_map.1 hr
    exact hrow a
   ·by_cases h0:len=0
    ·left;subst h0;rfl
    ·right
     obtain⟨_,all,g1,_⟩:=hg 0 (by omega)
     obtain⟨m1,m2⟩:=main all g1 len (Nat.le_refl _)
     exact⟨all,g1,by simpa using m1 R,by simpa using m2⟩
  ·obtain⟨k,hk1,hk2⟩:=hk
   exact⟨k,hk1,by simpa using hk2⟩
end
section
variable{H:Type}{enc:TypeId×Value→H}{P:Program}{W:World}{hd:Bool}
theorem c4i{n:Nat}{t:TypeId}{k:IntKind}{cs:List Value}{x:DataW H×List MemPlace}(ht:P.underlying t=some (.int k))(h:DataW.trod enc P W 0 (fun _=>true) hd n t cs=some x):
  ∃z:Int,(Lit.int k z).wf=true∧(∀R,o4 (X8 W) R [.int k z] (cs.map a0s))∧(cs.map a0s).all i9=true:=by
 obtain⟨z,rfl,w⟩:=c1R ht h
 refine⟨z,w,fun R=> ?_,rfl⟩
 simp only[List.map_cons,List.map_nil,o4,Rp]
 exact⟨_,_,rfl,rfl,rfl⟩
end
section
variable{H:Type}{enc:TypeId×Value→H}{P:Program}{W:World}{hd:Bool}
end
end Go.Am.Old
end
