/- A part of the proof of ImageWrites. -/
import Derived.Test.YtchnpgddpaonhaaGreatWaj
set_option linter.unusedVariables false
set_option linter.unusedSimpArgs false
set_option maxRecDepth 100000
section
namespace Go.Am
section
variable{P:Program}{E:j6}{w0:World}
theorem vF(r:Option AV):d3o (some false) r=some A8:=(rfl)
theorem cT(x y:Prop):d1d (.bool true) x y=x:=(rfl)
theorem ex2(a b c:AV)(l:List AV):b6E (.tup (a::b::c::l)) 2=some c:=(rfl)
theorem dT{p:Prop}[Decidable p](h:p):decide p=true:=decide_eq_true h
end
theorem b6i:∀(vs cs:List AV) (i:Nat),(G3 cs i vs).length=cs.length
 | [],cs,i=>rfl
 |v::vs,cs,i=>by rw[G3,b6i vs,List.length_set]
theorem P8.stores{H:AHeap}(F:P8 H){b:Nat}{all:List AV}{pre:List Nat}(h:H.get b=some (.cells all true pre)){n:Nat}{vs:List AV}(h0:vs≠[])(hn:n+vs.length≤all.length)(hx:vs.all w7=true):
  ∃H',F0 H (.new b) n vs=some H'∧H'.get b=some (.cells (G3 all n vs) true [])∧But b H H'∧H'.next=H.next∧P8 H':=by
 cases vs with
 |nil=>exact(h0 rfl).elim
 |cons x xs=>
 have hg:∀j,((H.killAll pre).set b (.cells (G3 all n (x::xs)) true [])).get j=if b=j then some (.cells (G3 all n (x::xs)) true []) else if j∈pre then none else H.get j:=by
  intro j
  rw[a5S,get_killAll]
 have hlen:n<all.length:=by simp at hn;omega
 obtain⟨H1,e1,e2,e3,e4,F1⟩:=F.store h hlen (x:= .bool true) rfl
 rw[a9j h n _ [] (by simp;omega) (by rfl)]at e1
 refine⟨_,a9j h n x xs (by simpa using hn) hx,(hg b).trans (if_pos rfl), ?_,by rw[next_set,next_killAll], ?_⟩
 ·intro k all' pre' hk hgk
  refine(hg k).trans ?_
  rw[if_neg (Ne.symm hk),if_neg]
  ·exact hgk
  ·intro hp
   have:=F.kin b k _ _ h hp hgk
   cases this
 ·have key:∀j o,((H.killAll pre).set b (.cells (G3 all n (x::xs)) true [])).get j=some o→(b=j∧o= .cells (G3 all n (x::xs)) true [])∨(b≠j∧H.get j=some o):=by
   intro j o hj
   rw[hg]at hj
   split at hj
   ·rename_i e;cases hj;exact .inl ⟨e,rfl⟩
   ·rename_i e
    split at hj
    ·cases hj
    ·exact .inr ⟨e,hj⟩
  have hnx:((H.killAll pre).set b (.cells (G3 all n (x::xs)) true [])).next=H.next:=by rw[next_set,next_killAll]
  refine⟨?_, ?_, ?_, ?_⟩
  ·intro k hk
   rw[hnx]at hk
   have hkb:b≠k:=by have:=F.lt h;omega
   refine(hg k).trans ?_
   rw[if_neg hkb,F.above k hk]
   split<;>rfl
  ·intro k p o op hk hp ho
   rcases key k o hk with ⟨rfl,rfl⟩|⟨hbk,hk⟩
   ·cases hp
   ·rcases key p op ho with ⟨rfl,rfl⟩|⟨hbp,ho⟩
    ·have:=F.kin k b _ _ hk hp h
     cases this
    ·exact F.kin k p o op hk hp ho
  ·intro k o p hk hp
   rcases key k o hk with ⟨rfl,rfl⟩|⟨hbk,hk⟩
   ·cases hp
   ·exact F.self k o p hk hp
  ·intro k o p hk hp
   rw[hnx]
   rcases key k o hk with ⟨rfl,rfl⟩|⟨hbk,hk⟩
   ·cases hp
   ·exact F.below k o p hk hp
theorem P8.growN{E:j6}{H:AHeap}(F:P8 H){k i n cap sz:Nat}{ex:Bool}{all:List AV}{pre:List Nat}(h:H.get k=some (.cells all true pre))(hl:i+n*sz≤all.length){bytes m:Nat}(news:List AV)(hm:news.length=m*sz)(h0:m≠0)(hsc:news.all w7=true)
  (hb:0<bytes∧(2*(n+m)+768)*bytes≤2^47):
  ∃H' q,Z2 E H sz bytes (.slc (.new k) i n cap ex sz) m news=some (.slc (.new H.next) 0 (n+m) (n+m) false sz,H')∧H'.next=H.next+1∧H'.get H.next=some (.cells ((all.drop i).take (n*sz)++news) true q)∧But k H H'∧P8 H':=by
 have hklt:=F.lt h
 unfold Z2
 rw[if_pos hm]
 simp only
 rw[if_neg h0,if_pos hb]
 by_cases hx:(ex&&decide (cap<n+m))=true
 ·rw[if_pos hx,b8o E h,if_pos (by omega)]
  obtain⟨a,b,c,d⟩:=F.newCells ((all.drop i).take (n*sz)++news)
  refine⟨_,[],rfl,c,a,fun j al pr _ hj=>b j al pr hj,d⟩
 ·rw[if_neg hx]
  simp only[h]
  rw[if_pos ⟨by trivial,by omega,hsc⟩]
  by_cases hc:i+n*sz<all.length
  ·rw[if_pos hc]
   refine⟨_,[k],rfl, ?_, ?_, ?_, ?_⟩
   ·rw[next_new,next_set,next_killAll]
   ·rw[get_new,next_set,next_killAll,if_pos rfl,List.drop_take,Nat.add_sub_cancel_left]
   ·intro j al pr hj hgj
    have:=F.lt hgj
    rw[get_new,next_set,next_killAll,if_neg (by omega),a5S,if_neg (Ne.symm hj),get_killAll,if_neg]
    ·exact hgj
    ·intro hp
     have:=F.kin k j _ _ h hp hgj
     cases this
   ·have key:∀j o,((((H.killAll pre).set k (.cells (all.take (i+n*sz)) false [])).new (.cells ((all.take (i+n*sz)).drop i++news) true [k]))).get j=some o→
      (j=H.next∧E8 o=[k])∨(j=k∧o= .cells (all.take (i+n*sz)) false [])∨(j≠H.next∧j≠k∧H.get j=some o):=by
     intro j o hj
     rw[get_new,next_set,next_killAll,a5S,get_killAll]at hj
     split at hj
     ·rename_i e;cases hj;exact .inl ⟨e.symm,rfl⟩
     ·rename_i e
      split at hj
      ·rename_i e2;cases hj;exact .inr (.inl ⟨e2.symm,rfl⟩)
      ·rename_i e2
       split at hj
       ·cases hj
       ·exact .inr (.inr ⟨Ne.symm e,Ne.symm e2,hj⟩)
    refine⟨?_, ?_, ?_, ?_⟩
    ·intro j hj
     rw[next_new,next_set,next_killAll]at hj
     rw[get_new,next_set,next_killAll,if_neg (by omega),a5S,if_neg (by omega),get_killAll,F.above j (by omega)]
     split<;>rfl
    ·intro j p o op hj hp ho
     rcases key p op ho with ⟨rfl,_⟩|⟨rfl,rfl⟩|⟨_,hpk,ho⟩
     ·rcases key j o hj with ⟨rfl,e⟩|⟨rfl,rfl⟩|⟨_,_,hj⟩
      ·rw[e]at hp;simp at hp;omega
      ·cases hp
      ·have:=F.below j o _ hj hp;omega
     ·rfl
     ·rcases key j o hj with ⟨rfl,e⟩|⟨rfl,rfl⟩|⟨_,_,hj⟩
      ·rw[e]at hp;simp at hp;exact(hpk hp).elim
      ·cases hp
      ·exact F.kin j p o op hj hp ho
    ·intro j o p hj hp
     rcases key j o hj with ⟨rfl,e⟩|⟨rfl,rfl⟩|⟨_,_,hj⟩
     ·rw[e]at hp;simp at hp;omega
     ·cases hp
     ·exact F.self j o p hj hp
    ·intro j o p hj hp
     rw[next_new,next_set,next_killAll]
     rcases key j o hj with ⟨rfl,e⟩|⟨rfl,rfl⟩|⟨_,_,hj⟩
     ·rw[e]at hp;simp at hp;omega
     ·cases hp
     ·have:=F.below j o p hj hp;omega
  ·rw[if_neg hc]
   have hn:i+n*sz=all.length:=by omega
   refine⟨_,k::pre,rfl, ?_, ?_, ?_, ?_⟩
   ·rw[next_new,next_set]
   ·rw[get_new,next_set,if_pos rfl]
    have:(all.drop i).take (n*sz)=all.drop i:=List.take_of_length_le (by rw[List.length_drop];omega)
    rw[this]
   ·intro j al pr hj hgj
    have:=F.lt hgj
    rw[get_new,next_set,if_neg (by omega),a5S,if_neg (Ne.symm hj)]
    exact hgj
   ·have key:∀j o,((H.set k (.cells all false pre)).new (.cells (all.drop i++news) true (k::pre))).get j=some o→
      (j=H.next∧E8 o=k::pre)∨(j=k∧o= .cells all false pre)∨(j≠H.next∧j≠k∧H.get j=some o):=by
     intro j o hj
     rw[get_new,next_set,a5S]at hj
     split at hj
     ·rename_i e;cases hj;exact .inl ⟨e.symm,rfl⟩
     ·rename_i e
      split at hj
      ·rename_i e2;cases hj;exact .inr (.inl ⟨e2.symm,rfl⟩)
      ·rename_i e2
       exact .inr (.inr ⟨Ne.symm e,Ne.symm e2,hj⟩)
    refine⟨?_, ?_, ?_, ?_⟩
    ·intro j hj
     rw[next_new,next_set]at hj
     rw[get_new,next_set,if_neg (by omega),a5S,if_neg (by omega),F.above j (by omega)]
    ·intro j p o op hj hp ho
     rcases key p op ho with ⟨rfl,_⟩|⟨rfl,rfl⟩|⟨_,hpk,hop⟩
     ·rcases key j o hj with ⟨rfl,e⟩|⟨rfl,rfl⟩|⟨_,_,hj⟩
      ·rw[e]at hp
       rcases List.mem_cons.1 hp with rfl|hp
       ·omega
       ·have:=F.below k _ _ h hp;omega
      ·have:=F.below _ _ _ h hp;omega
      ·have:=F.below j o _ hj hp;omega
     ·rfl
     ·rcases key j o hj with ⟨rfl,e⟩|⟨rfl,rfl⟩|⟨_,_,hj⟩
      ·rw[e]at hp
       rcases List.mem_cons.1 hp with rfl|hp
       ·exact(hpk rfl).elim
       ·exact F.kin k p _ op h hp hop
      ·exact F.kin _ p _ op h hp hop
      ·exact F.kin j p o op hj hp hop
    ·intro j o p hj hp
     rcases key j o hj with ⟨rfl,e⟩|⟨rfl,rfl⟩|⟨_,_,hj⟩
     ·rw[e]at hp
      rcases List.mem_cons.1 hp with rfl|hp
      ·omega
      ·have:=F.below k _ _ h hp;omega
     ·exact F.self _ _ p h hp
     ·exact F.self j o p hj hp
    ·intro j o p hj hp
     rw[next_new,next_set]
     rcases key j o hj with ⟨rfl,e⟩|⟨rfl,rfl⟩|⟨_,_,hj⟩
     ·rw[e]at hp
      rcases List.mem_cons.1 hp with rfl|hp
      ·omega
      ·have:=F.below k _ _ h hp;omega
     ·have:=F.below _ _ _ h hp;omega
     ·have:=F.below j o p hj hp;omega
end Go.Am
end
