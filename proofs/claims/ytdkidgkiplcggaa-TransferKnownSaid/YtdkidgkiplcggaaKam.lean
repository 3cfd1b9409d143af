/-
  TransferKnownSaid: part Kam of its proof.
-/
import Derived.Test.YtdkidgkiplcggaaKal
set_option linter.unusedVariables false
set_option linter.unusedSimpArgs false
set_option maxRecDepth 100000
section
namespace Go.Am
section
section
variable{P:Program}{E:i9}{w0:a7W}
theorem vF(r:Option AV):c8i (some false) r=some B6:=(rfl)
theorem cT(x y:Prop):c7b (.bool true) x y=x:=(rfl)
theorem exT(vs:List AV)(i:Nat):b1w (.tup vs) i=vs[i]? :=(rfl)
theorem dT{p:Prop}[Decidable p](h:p):decide p=true:=decide_eq_true h
end
theorem b1A:∀(vs cs:List AV) (i:Nat),(B0 cs i vs).length=cs.length
 | [],cs,i=>rfl
 |v::vs,cs,i=>by rw[B0,b1A vs,List.length_set]
theorem E6.stores{H:AHeap}(F:E6 H){b:Nat}{all:List AV}{pre:List Nat}(h:H.get b=some (.cells all true pre)){n:Nat}{vs:List AV}(h0:vs≠[])(hn:n+vs.length≤all.length)(hx:vs.all r6=true):
  ∃H',B2 H (.new b) n vs=some H'∧H'.get b=some (.cells (B0 all n vs) true [])∧But b H H'∧H'.next=H.next∧E6 H':=by
 cases vs with
 |nil=>exact(h0 rfl).elim
 |cons x xs=>
 have hg:∀j,((H.killAll pre).set b (.cells (B0 all n (x::xs)) true [])).get j=if b=j then some (.cells (B0 all n (x::xs)) true []) else if j∈pre then none else H.get j:=by
  intro j
  rw[L2,get_killAll]
 have hlen:n<all.length:=by simp at hn;omega
 obtain⟨H1,e1,e2,e3,e4,F1⟩:=F.store h hlen (x:= .bool true) rfl
 rw[a2T h n _ [] (by simp;omega) (by rfl)]at e1
 refine⟨_,a2T h n x xs (by simpa using hn) hx,(hg b).trans (if_pos rfl), ?_,by rw[next_set,next_killAll], ?_⟩
 ·intro k ob hw hk hgk
  refine(hg k).trans ?_
  rw[if_neg (Ne.symm hk),if_neg]
  ·exact hgk
  ·intro hp
   rcases hw with hw|hw
   ·rw[F.kin b k _ _ h hp hgk]at hw
    cases hw
   ·rw[Q5 h]at hw
    exact hw hp
 ·have key:∀j o,((H.killAll pre).set b (.cells (B0 all n (x::xs)) true [])).get j=some o→(b=j∧o= .cells (B0 all n (x::xs)) true [])∨(b≠j∧H.get j=some o):=by
   intro j o hj
   rw[hg]at hj
   split at hj
   ·rename_i e;cases hj;exact .inl ⟨e,rfl⟩
   ·rename_i e
    split at hj
    ·cases hj
    ·exact .inr ⟨e,hj⟩
  have hnx:((H.killAll pre).set b (.cells (B0 all n (x::xs)) true [])).next=H.next:=by rw[next_set,next_killAll]
  refine⟨?_, ?_, ?_, ?_⟩
  ·intro k hk
   rw[hnx]at hk
   have hkb:b≠k:=by have:=F.lt h;omega
   refine(hg k).trans ?_
   rw[if_neg hkb,F.above k hk]
   split<;>rfl
  ·intro k p o op hk hp ho
   rcases key k o hk with ⟨rfl,rfl⟩|⟨hbk,hk⟩
   ·cases hp
   ·rcases key p op ho with ⟨rfl,rfl⟩|⟨hbp,ho⟩
    ·have:=F.kin k b _ _ hk hp h
     cases this
    ·exact F.kin k p o op hk hp ho
  ·intro k o p hk hp
   rcases key k o hk with ⟨rfl,rfl⟩|⟨hbk,hk⟩
   ·cases hp
   ·exact F.self k o p hk hp
  ·intro k o p hk hp
   rw[hnx]
   rcases key k o hk with ⟨rfl,rfl⟩|⟨hbk,hk⟩
   ·cases hp
   ·exact F.below k o p hk hp
theorem E6.growN{E:i9}{H:AHeap}(F:E6 H){k i n cap sz:Nat}{ex:Bool}{all:List AV}{pre:List Nat}(h:H.get k=some (.cells all true pre))(hl:i+n*sz≤all.length){bytes m:Nat}(news:List AV)(hm:news.length=m*sz)(h0:m≠0)(hsc:news.all r6=true)
  (hb:0<bytes∧(2*(n+m)+768)*bytes≤2^47):
  ∃H' q,P2 E H sz bytes (.slc (.new k) i n cap ex sz) m news=some (.slc (.new H.next) 0 (n+m) (n+m) false sz,H')∧H'.next=H.next+1∧H'.get H.next=some (.cells ((all.drop i).take (n*sz)++news) true q)∧But k H H'∧E6 H'∧(∀p∈q,p=k∨p∈pre)∧(i+n*sz=all.length→∃w p,H'.get k=some (.cells all w p)):=by
 have hklt:=F.lt h
 unfold P2
 rw[if_pos hm]
 simp only
 rw[if_neg h0,if_pos hb]
 by_cases hx:(ex&&decide (cap<n+m))=true
 ·rw[if_pos hx,a7Q E h,if_pos (by omega)]
  obtain⟨a,b,c,d⟩:=F.newCells ((all.drop i).take (n*sz)++news)
  refine⟨_,[],rfl,c,a,b.but,d, ?_, ?_⟩
  ·exact fun p hp=>by cases hp
  ·exact fun _=>⟨true,pre,b k _ h⟩
 ·rw[if_neg hx]
  simp only[h]
  rw[if_pos ⟨by trivial,by omega,hsc⟩]
  by_cases hc:i+n*sz<all.length
  ·rw[if_pos hc]
   refine⟨_,[k],rfl, ?_, ?_, ?_, ?_,fun p hp=>Or.inl (List.mem_singleton.1 hp),fun e=>absurd e (by omega)⟩
   ·rw[next_new,next_set,next_killAll]
   ·rw[get_new,next_set,next_killAll,if_pos rfl,List.drop_take,Nat.add_sub_cancel_left]
   ·intro j al pr hj hgj
    have:=F.lt hgj
    rw[get_new,next_set,next_killAll,if_neg (by omega),L2,if_neg (Ne.symm hj),get_killAll,if_neg]
    ·exact hgj
    ·intro hp
     rcases pr with pr|pr
     ·rw[F.kin k j _ _ h hp hgj]at pr
      cases pr
     ·rw[Q5 h]at pr
      exact pr hp
   ·have key:∀j o,((((H.killAll pre).set k (.cells (all.take (i+n*sz)) false [])).new (.cells ((all.take (i+n*sz)).drop i++news) true [k]))).get j=some o→
      (j=H.next∧B3 o=[k])∨(j=k∧o= .cells (all.take (i+n*sz)) false [])∨(j≠H.next∧j≠k∧H.get j=some o):=by
     intro j o hj
     rw[get_new,next_set,next_killAll,L2,get_killAll]at hj
     split at hj
     ·rename_i e;cases hj;exact .inl ⟨e.symm,rfl⟩
     ·rename_i e
      split at hj
      ·rename_i e2;cases hj;exact .inr (.inl ⟨e2.symm,rfl⟩)
      ·rename_i e2
       split at hj
       ·cases hj
       ·exact .inr (.inr ⟨Ne.symm e,Ne.symm e2,hj⟩)
    refine⟨?_, ?_, ?_, ?_⟩
    ·intro j hj
     rw[next_new,next_set,next_killAll]at hj
     rw[get_new,next_set,next_killAll,if_neg (by omega),L2,if_neg (by omega),get_killAll,F.above j (by omega)]
     split<;>rfl
    ·intro j p o op hj hp ho
     rcases key p op ho with ⟨rfl,_⟩|⟨rfl,rfl⟩|⟨_,hpk,ho⟩
     ·rcases key j o hj with ⟨rfl,e⟩|⟨rfl,rfl⟩|⟨_,_,hj⟩
      ·rw[e]at hp;simp at hp;omega
      ·cases hp
      ·have:=F.below j o _ hj hp;omega
     ·rfl
     ·rcases key j o hj with ⟨rfl,e⟩|⟨rfl,rfl⟩|⟨_,_,hj⟩
      ·rw[e]at hp;simp at hp;exact(hpk hp).elim
      ·cases hp
      ·exact F.kin j p o op hj hp ho
    ·intro j o p hj hp
     rcases key j o hj with ⟨rfl,e⟩|⟨rfl,rfl⟩|⟨_,_,hj⟩
     ·rw[e]at hp;simp at hp;omega
     ·cases hp
     ·exact F.self j o p hj hp
    ·intro j o p hj hp
     rw[next_new,next_set,next_killAll]
     rcases key j o hj with ⟨rfl,e⟩|⟨rfl,rfl⟩|⟨_,_,hj⟩
     ·rw[e]at hp;simp at hp;omega
     ·cases hp
     ·have:=F.below j o p hj hp;omega
  ·rw[if_neg hc]
   have hn:i+n*sz=all.length:=by omega
   refine⟨_,k::pre,rfl, ?_, ?_, ?_, ?_,fun p hp=>List.mem_cons.1 hp,fun _=>⟨false,pre,by rw[get_new,next_set,if_neg (by omega),L2,if_pos rfl]⟩⟩
   ·rw[next_new,next_set]
   ·rw[get_new,next_set,if_pos rfl]
    have:(all.drop i).take (n*sz)=all.drop i:=List.take_of_length_le (by rw[List.length_drop];omega)
    rw[this]
   ·intro j al pr hj hgj
    have:=F.lt hgj
    rw[get_new,next_set,if_neg (by omega),L2,if_neg (Ne.symm hj)]
    exact hgj
   ·have key:∀j o,((H.set k (.cells all false pre)).new (.cells (all.drop i++news) true (k::pre))).get j=some o→
      (j=H.next∧B3 o=k::pre)∨(j=k∧o= .cells all false pre)∨(j≠H.next∧j≠k∧H.get j=some o):=by
     intro j o hj
     rw[get_new,next_set,L2]at hj
     split at hj
     ·rename_i e;cases hj;exact .inl ⟨e.symm,rfl⟩
     ·rename_i e
      split at hj
      ·rename_i e2;cases hj;exact .inr (.inl ⟨e2.symm,rfl⟩)
      ·rename_i e2
       exact .inr (.inr ⟨Ne.symm e,Ne.symm e2,hj⟩)
    refine⟨?_, ?_, ?_, ?_⟩
    ·intro j hj
     rw[next_new,next_set]at hj
     rw[get_new,next_set,if_neg (by omega),L2,if_neg (by omega),F.above j (by omega)]
    ·intro j p o op hj hp ho
     rcases key p op ho with ⟨rfl,_⟩|⟨rfl,rfl⟩|⟨_,hpk,hop⟩
     ·rcases key j o hj with ⟨rfl,e⟩|⟨rfl,rfl⟩|⟨_,_,hj⟩
      ·rw[e]at hp
       rcases List.mem_cons.1 hp with rfl|hp
       ·omega
       ·have:=F.below k _ _ h hp;omega
      ·have:=F.below _ _ _ h hp;omega
      ·have:=F.below j o _ hj hp;omega
     ·rfl
     ·rcases key j o hj with ⟨rfl,e⟩|⟨rfl,rfl⟩|⟨_,_,hj⟩
      ·rw[e]at hp
       rcases List.mem_cons.1 hp with rfl|hp
       ·exact(hpk rfl).elim
       ·exact F.kin k p _ op h hp hop
      ·exact F.kin _ p _ op h hp hop
      ·exact F.kin j p o op hj hp hop
    ·intro j o p hj hp
     rcases key j o hj with ⟨rfl,e⟩|⟨rfl,rfl⟩|⟨_,_,hj⟩
     ·rw[e]at hp
      rcases List.mem_cons.1 hp with rfl|hp
      ·omega
      ·have:=F.below k _ _ h hp;omega
     ·exact F.self _ _ p h hp
     ·exact F.self j o p hj hp
    ·intro j o p hj hp
     rw[next_new,next_set]
     rcases key j o hj with ⟨rfl,e⟩|⟨rfl,rfl⟩|⟨_,_,hj⟩
     ·rw[e]at hp
      rcases List.mem_cons.1 hp with rfl|hp
      ·omega
      ·have:=F.below k _ _ h hp;omega
     ·have:=F.below _ _ _ h hp;omega
     ·have:=F.below j o p hj hp;omega
end
section
inductive D where
 |any
 |bool (b:Bool)
 |int (k:IntKind) (n:Int)
 |str (s:List UInt8)
 |nilPtr
 |nilSlc
 |nilMap
 |nilFn
 |nilIfc
 |mp (k:Nat)
 |ptr (k i:Nat)
 |rel (k r i sz:Nat)
 |elt (row:List D) (i:Nat)
 |lst (rows:List (List D)) (sz:Nat)
 |ext (rows more:List (List D)) (sz:Nat)
 |raw (k i len cap:Nat) (ex:Bool) (sz:Nat)
 |tip (k:Nat) (rows:List (List D)) (sz:Nat)
 |fn (f:Fn) (a b:List D)
 |ifc (t:TypeId) (v:D)
 |agg (cs:List D)
 |tup (vs:List D)
 deriving Inhabited
def c9:D:= .tup []
def M8:Nat:=4294967296
def c2Y:Nat:=4294967297
abbrev Fz:=Nat→Option (List AV)
def rdE(E:i9)(R:Fz):Id→Option (List AV)
 | .old b=>E b
 | .new k=>R k
def d1w:Id→Nat→Nat→Prop
 | .old _,_,_=>True
 | .new _,z,sz=>z=sz
mutual
def Rp(E:i9)(R:Fz):D→AV→Prop
 | .any,_=>True
 | .bool b,v=>v= .bool b
 | .int k n,v=>v= .int k n
 | .str s,v=>v= .str s
 | .nilPtr,v=>v= .nilPtr
 | .nilSlc,v=>v= .nilSlc
 | .nilMap,v=>v= .nilMap
 | .nilFn,v=>v= .nilFn
 | .nilIfc,v=>v= .nilIfc
 | .mp k,v=>v= .map k
 | .ptr k i,v=>v= .ptr (.new k) i
 | .rel k r i sz,v=>sz<M8∧v= .ptr (.new k) (r*sz+i)
 | .elt row i,v=>∃o j all,v= .ptr o (j+i)∧rdE E R o=some all∧A0 E R row ((all.drop j).take row.length)∧((all.drop j).take row.length).all r6=true
 | .lst rows sz,v=>(rows=[]∧v= .nilSlc)∨∃o j cap ex z,v= .slc o j rows.length cap ex z∧d1w o z sz∧rows.length≤cap∧(∀row∈rows,row.length=sz)∧
   (rows=[]∨∃all,rdE E R o=some all∧a1n E R rows ((all.drop j).take (rows.length*sz))∧((all.drop j).take (rows.length*sz)).all r6=true)
 | .ext rows more sz,v=>∃o j cap ex z all,v= .slc o j rows.length cap ex z∧d1w o z sz∧rows.length+more.length≤cap∧(∀row∈rows,row.length=sz)∧(∀row∈more,row.length=sz)∧(rdE E R o=some all∨(rows=[]∧more=[]))∧
   a1n E R rows ((all.drop j).take (rows.length*sz))∧a1n E R more ((all.drop (j+rows.length*sz)).take (more.length*sz))∧((all.drop j).take ((rows.length+more.length)*sz)).all r6=true
 | .raw k i len cap ex sz,v=>sz<M8∧v= .slc (.new k) (i*sz) len cap ex sz
 | .tip k rows sz,v=>sz<M8∧∃j cap ex all,v= .slc (.new k) j rows.length cap ex sz∧rows.length≤cap∧(∀row∈rows,row.length=sz)∧R k=some all∧
   a1n E R rows ((all.drop j).take (rows.length*sz))∧((all.drop j).take (rows.length*sz)).all r6=true∧j+rows.length*sz=all.length
 | .fn f a b,v=>∃a' b',v= .fn f a' b'∧A0 E R a a'∧A0 E R b b'
 | .ifc t d,v=>∃v',v= .ifc t v'∧Rp E R d v'
 | .agg cs,v=>∃vs,v= .agg vs∧A0 E R cs vs∧vs.all r6=true
 | .tup ds,v=>∃vs,v= .tup vs∧A0 E R ds vs
def A0(E:i9)(R:Fz):List D→List AV→Prop
 | [],l=>l=[]
 |d::ds,l=>∃v vs,l=v::vs∧Rp E R d v∧A0 E R ds vs
def a1n(E:i9)(R:Fz):List (List D)→List AV→Prop
 | [],l=>l=[]
 |row::rows,l=>∃vs ws,l=vs++ws∧A0 E R row vs∧a1n E R rows ws
end
def Fz.le(R R':Fz):Prop:=∀k cs,R k=some cs→R' k=some cs
theorem Fz.le_refl(R:Fz):R.le R:=fun _ _ h=>h
theorem Fz.le_trans{R R1 R2:Fz}(h:R.le R1)(h':R1.le R2):R.le R2:=fun k cs e=>h' _ _ (h _ _ e)
theorem c7A{E:i9}{R R':Fz}(h:R.le R'){o:Id}{all:List AV}(e:rdE E R o=some all):rdE E R' o=some all:=by
 cases o with
 |old b=>exact e
 |new k=>exact h _ _ e
mutual
theorem Rp.le{E:i9}{R R':Fz}(h:R.le R'):∀(d:D) (v:AV),Rp E R d v→Rp E R' d v
 | .any,_,_=>by simp only[Rp]
 | .bool b,v,e=>by simp only[Rp]at e ⊢;exact e
 | .int k n,v,e=>by simp only[Rp]at e ⊢;exact e
 | .str s,v,e=>by simp only[Rp]at e ⊢;exact e
 | .nilPtr,v,e=>by simp only[Rp]at e ⊢;exact e
 | .nilSlc,v,e=>by simp only[Rp]at e ⊢;exact e
 | .nilMap,v,e=>by simp only[Rp]at e ⊢;exact e
 | .nilFn,v,e=>by simp only[Rp]at e ⊢;exact e
 | .nilIfc,v,e=>by simp only[Rp]at e ⊢;exact e
 | .mp k,v,e=>by simp only[Rp]at e ⊢;exact e
 | .ptr k i,v,e=>by simp only[Rp]at e ⊢;exact e
 | .rel k r i sz,v,e=>by simp only[Rp]at e ⊢;exact e
 | .elt row i,v,e=>by
  simp only[Rp]at e ⊢
  obtain⟨o,j,all,e1,e2,e3,e4⟩:=e
  exact⟨o,j,all,e1,c7A h e2,A0.le h row _ e3,e4⟩
 | .lst rows sz,v,e=>by
  simp only[Rp]at e ⊢
  rcases e with e|⟨o,j,cap,ex,z,e1,e2,e3,e4,e5⟩
  ·exact .inl e
  refine .inr ⟨o,j,cap,ex,z,e1,e2,e3,e4, ?_⟩
  rcases e5 with e5|⟨all,e5,e6,e7⟩
  ·exact .inl e5
  ·exact .inr ⟨all,c7A h e5,a1n.le h rows _ e6,e7⟩
 | .ext rows more sz,v,e=>by
  simp only[Rp]at e ⊢
  obtain⟨o,j,cap,ex,z,all,e1,e2,e3,e4,e5,e6,e7,e8,e9⟩:=e
  exact⟨o,j,cap,ex,z,all,e1,e2,e3,e4,e5,e6.imp (c7A h) id,a1n.le h rows _ e7,a1n.le h more _ e8,e9⟩
 | .raw k i len cap ex sz,v,e=>by simp only[Rp]at e ⊢;exact e
 | .tip k rows sz,v,e=>by
  simp only[Rp]at e ⊢
  obtain⟨e0,j,cap,ex,all,e1,e2,e3,e4,e5,e6,e7⟩:=e
  exact⟨e0,j,cap,ex,all,e1,e2,e3,h _ _ e4,a1n.le h rows _ e5,e6,e7⟩
 | .fn f a b,v,e=>by
  simp only[Rp]at e ⊢
  obtain⟨a',b',e1,e2,e3⟩:=e
  exact⟨a',b',e1,A0.le h a _ e2,A0.le h b _ e3⟩
 | .ifc t d,v,e=>by
  simp only[Rp]at e ⊢
  obtain⟨v',e1,e2⟩:=e
  exact⟨v',e1,Rp.le h d _ e2⟩
 | .agg cs,v,e=>by
  simp only[Rp]at e ⊢
  obtain⟨vs,e1,e2,e3⟩:=e
  exact⟨vs,e1,A0.le h cs _ e2,e3⟩
 | .tup ds,v,e=>by
  simp only[Rp]at e ⊢
  obtain⟨vs,e1,e2⟩:=e
  exact⟨vs,e1,A0.le h ds _ e2⟩
theorem A0.le{E:i9}{R R':Fz}(h:R.le R'):∀(ds:List D) (vs:List AV),A0 E R ds vs→A0 E R' ds vs
 | [],l,e=>by simp only[A0]at e ⊢;exact e
 |d::ds,l,e=>by
  simp only[A0]at e ⊢
  obtain⟨v,vs,e1,e2,e3⟩:=e
  exact⟨v,vs,e1,Rp.le h d _ e2,A0.le h ds _ e3⟩
theorem a1n.le{E:i9}{R R':Fz}(h:R.le R'):∀(rows:List (List D)) (vs:List AV),a1n E R rows vs→a1n E R' rows vs
 | [],l,e=>by simp only[a1n]at e ⊢;exact e
 |row::rows,l,e=>by
  simp only[a1n]at e ⊢
  obtain⟨vs,ws,e1,e2,e3⟩:=e
  exact⟨vs,ws,e1,A0.le h row _ e2,a1n.le h rows _ e3⟩
end
section
variable{E:i9}{R:Fz}
theorem A0.length:∀ {ds:List D} {vs:List AV},A0 E R ds vs→vs.length=ds.length
 | [],l,e=>by simp only[A0]at e;rw[e];rfl
 |d::ds,l,e=>by
  simp only[A0]at e
  obtain⟨v,vs,rfl,e2,e3⟩:=e
  rw[List.length_cons,List.length_cons,A0.length e3]
theorem D0:A0 E R [] []:=by simp only[A0]
theorem u6{d:D}{v:AV}{ds:List D}{vs:List AV}(h:Rp E R d v)(hs:A0 E R ds vs):A0 E R (d::ds) (v::vs):=by simp only[A0];exact⟨v,vs,rfl,h,hs⟩
theorem a5g:∀ {ds:List D} {vs:List AV},A0 E R ds vs→∀ {i:Nat} {d:D},ds[i]? =some d→∃v,vs[i]? =some v∧Rp E R d v
 | [],l,e,i,d,h=>by cases h
 |x::ds,l,e,i,d,h=>by
  simp only[A0]at e
  obtain⟨v,vs,rfl,e2,e3⟩:=e
  cases i with
  |zero=>cases h;exact⟨v,rfl,e2⟩
  |succ i=>exact a5g e3 (i:=i) h
theorem a5H:∀ {ds:List D} {vs:List AV},vs.length=ds.length→(∀(i:Nat) (d:D) (v:AV),ds[i]? =some d→vs[i]? =some v→Rp E R d v)→A0 E R ds vs
 | [],[],_,_=>D0
 | [],_::_,h,_=>by cases h
 |_::_,[],h,_=>by cases h
 |d::ds,v::vs,hl,h=>u6 (h 0 d v rfl rfl) (a5H (by simpa using hl) fun i d v h1 h2=>h (i+1) d v h1 h2)
theorem A0.set{ds:List D}{vs:List AV}(h:A0 E R ds vs)(i:Nat){d:D}{v:AV}(hd:Rp E R d v):A0 E R (ds.set i d) (vs.set i v):=by
 refine a5H (by rw[List.length_set,List.length_set,h.length]) fun j d' v' h1 h2=> ?_
 rw[List.getElem?_set]at h1 h2
 have hl:=h.length
 by_cases e:i=j
 ·rw[if_pos e]at h1 h2
  split at h1
  ·split at h2
   ·cases h1;cases h2;exact hd
   ·cases h2
  ·cases h1
 ·rw[if_neg e]at h1 h2
  obtain⟨w,g1,g2⟩:=a5g h h1
  rw[h2]at g1;cases g1;exact g2
theorem A0.append{ds ds':List D}{vs vs':List AV}(h:A0 E R ds vs)(h':A0 E R ds' vs'):A0 E R (ds++ds') (vs++vs'):=by
 induction ds generalizing vs with
 |nil=>simp only[A0]at h;subst h;exact h'
 |cons d ds ih=>
  simp only[A0]at h
  obtain⟨v,vs,rfl,e2,e3⟩:=h
  exact u6 e2 (ih e3)
theorem A0.drop{ds:List D}{vs:List AV}(h:A0 E R ds vs)(n:Nat):A0 E R (ds.drop n) (vs.drop n):=
 a5H (by rw[List.length_drop,List.length_drop,h.length]) fun i d v h1 h2=>by
  rw[List.getElem?_drop]at h1 h2
  obtain⟨w,g1,g2⟩:=a5g h h1
  rw[h2]at g1;cases g1;exact g2
theorem A0.take{ds:List D}{vs:List AV}(h:A0 E R ds vs)(n:Nat):A0 E R (ds.take n) (vs.take n):=
 a5H (by rw[List.length_take,List.length_take,h.length]) fun i d v h1 h2=>by
  rw[List.getElem?_take]at h1 h2
  split at h1
  ·rename_i hi
   rw[if_pos hi]at h2
   obtain⟨w,g1,g2⟩:=a5g h h1
   rw[h2]at g1;cases g1;exact g2
  ·cases h1
theorem a3D:∀ {as bs:List D} {vs:List AV},A0 E R (as++bs) vs→∃v w,vs=v++w∧A0 E R as v∧A0 E R bs w
 | [],bs,vs,h=>⟨[],vs,rfl,D0,h⟩
 |a::as,bs,vs,h=>by
  simp only[List.cons_append,A0]at h
  obtain⟨v,vs,rfl,e2,e3⟩:=h
  obtain⟨v',w,rfl,h1,h2⟩:=a3D e3
  exact⟨v::v',w,rfl,u6 e2 h1,h2⟩
theorem H4:∀ {rows:List (List D)} {vs:List AV},a1n E R rows vs↔A0 E R rows.flatten vs
 | [],vs=>by simp only[a1n,List.flatten_nil,A0]
 |row::rows,vs=>by
  simp only[a1n,List.flatten_cons]
  constructor
  ·rintro⟨v,w,rfl,h1,h2⟩
   exact h1.append (H4.1 h2)
  ·intro h
   obtain⟨v,w,rfl,h1,h2⟩:=a3D h
   exact⟨v,w,rfl,h1,H4.2 h2⟩
theorem a0T:Rp E R c9 B6:=by simp only[c9,Rp];exact⟨[],rfl,D0⟩
theorem b5U{ds:List D}{vs:List AV}(h:A0 E R ds vs)(t:Nat):Rp E R (ds.getD t c9) (vs.getD t B6):=by
 rw[List.getD_eq_getElem?_getD,List.getD_eq_getElem?_getD]
 cases e:ds[t]? with
 |none=>
  have:vs[t]? =none:=List.getElem?_eq_none (by rw[h.length];exact List.getElem?_eq_none_iff.1 e)
  rw[this];exact a0T
 |some d=>
  obtain⟨v,g1,g2⟩:=a5g h e
  rw[g1];exact g2
end
theorem u5{α:Type}{rows:List (List α)}{sz:Nat}(h:∀row∈rows,row.length=sz):rows.flatten.length=rows.length*sz:=by
 induction rows with
 |nil=>simp
 |cons r rs ih=>
  rw[List.flatten_cons,List.length_append,h r List.mem_cons_self,ih fun x hx=>h x (List.mem_cons_of_mem _ hx),List.length_cons,Nat.succ_mul,Nat.add_comm]
theorem a2b{α:Type}{rows:List (List α)}{sz:Nat}(h:∀row∈rows,row.length=sz)(n:Nat):rows.flatten.drop (n*sz)=(rows.drop n).flatten:=by
 induction rows generalizing n with
 |nil=>simp
 |cons r rs ih=>
  cases n with
  |zero=>simp
  |succ n=>
   have hr:=h r List.mem_cons_self
   rw[List.flatten_cons,List.drop_succ_cons, ←ih (fun x hx=>h x (List.mem_cons_of_mem _ hx)) n,List.drop_append,List.drop_of_length_le (by rw[hr,Nat.succ_mul];omega),List.nil_append,hr,Nat.succ_mul,Nat.add_sub_cancel]
theorem a1h{α:Type}{rows:List (List α)}{sz:Nat}(h:∀row∈rows,row.length=sz)(n:Nat):rows.flatten.take (n*sz)=(rows.take n).flatten:=by
 induction rows generalizing n with
 |nil=>simp
 |cons r rs ih=>
  cases n with
  |zero=>simp
  |succ n=>
   have hr:=h r List.mem_cons_self
   rw[List.flatten_cons,List.take_succ_cons,List.flatten_cons, ←ih (fun x hx=>h x (List.mem_cons_of_mem _ hx)) n,List.take_append,List.take_of_length_le (by rw[hr,Nat.succ_mul];omega),hr,Nat.succ_mul,Nat.add_sub_cancel]
theorem b0W{α:Type}{rows:List (List α)}{sz:Nat}(h:∀row∈rows,row.length=sz){r:Nat}{row:List α}(hr:rows[r]? =some row):(rows.flatten.drop (r*sz)).take sz=row:=by
 rw[a2b h]
 have hlt:=(List.getElem?_eq_some_iff.1 hr).1
 have e:rows.drop r=row::rows.drop (r+1):=by
  rw[List.drop_eq_getElem_cons hlt]
  congr 1
  exact(List.getElem?_eq_some_iff.1 hr).2
 rw[e,List.flatten_cons,List.take_append,List.take_of_length_le (by rw[h row (List.mem_of_getElem? hr)];omega),h row (List.mem_of_getElem? hr),Nat.sub_self,List.take_zero,List.append_nil]
structure D6 where
 sz:Nat
 rows:List (List D)
 acs:List AV
abbrev b8:=Nat→Option D6
def b8.set(S:b8)(k:Nat)(o:D6):b8:=fun j=>if j=k then some o else S j
def b8.erase(S:b8)(k:Nat):b8:=fun j=>if j=k then none else S j
def b8.none:b8:=fun _=>Option.none
def b8.le(S S':b8):Prop:=∀k o,S k=some o→S' k=some o
theorem b8.set_same(S:b8)(k:Nat)(o:D6):(S.set k o) k=some o:=if_pos rfl
theorem b8.set_ne(S:b8)(k:Nat)(o:D6){j:Nat}(h:j≠k):(S.set k o) j=S j:=if_neg h
theorem b8.erase_ne(S:b8)(k:Nat){j:Nat}(h:j≠k):(S.erase k) j=S j:=if_neg h
theorem b8.le_refl(S:b8):S.le S:=fun _ _ h=>h
theorem b8.le_trans{S S1 S2:b8}(h:S.le S1)(h':S1.le S2):S.le S2:=fun k o e=>h' _ _ (h _ _ e)
theorem b8.le_set{S S':b8}(h:S.le S'){k:Nat}{o:D6}(hk:S k=Option.none):S.le (S'.set k o):=fun j x e=>by
 rw[b8.set_ne]
 ·exact h _ _ e
 ·rintro rfl;rw[hk]at e;cases e
theorem b8.le_erase{S S':b8}(h:S.le S'){k:Nat}(hk:S k=Option.none):S.le (S'.erase k):=fun j x e=>by
 rw[b8.erase_ne]
 ·exact h _ _ e
 ·rintro rfl;rw[hk]at e;cases e
theorem b8.erase_le(S:b8)(k:Nat):(S.erase k).le S:=fun j x e=>by
 unfold b8.erase at e
 split at e
 ·cases e
 ·exact e
theorem b8.set_set(S:b8)(k:Nat)(a b:D6):(S.set k a).set k b=S.set k b:=by
 funext j;unfold b8.set;split<;>rfl
theorem b8.set_comm(S:b8){k l:Nat}(h:k≠l)(a b:D6):(S.set k a).set l b=(S.set l b).set k a:=by
 funext j;unfold b8.set
 by_cases h1:j=l
 ·subst h1;rw[if_pos rfl,if_neg (Ne.symm h),if_pos rfl]
 ·rw[if_neg h1,if_neg h1]
theorem b8.erase_set(S:b8)(k:Nat)(a:D6)(h:S k=Option.none):(S.set k a).erase k=S:=by
 funext j;unfold b8.erase b8.set
 by_cases h1:j=k
 ·subst h1;rw[if_pos rfl,h]
 ·rw[if_neg h1,if_neg h1]
def c4T(e:AV×AV×Nat):AV:= .tup [e.1,e.2.1, .int .i64 e.2.2]
def RpE(E:i9)(R:Fz):List (List D)→List (AV×AV×Nat)→Prop
 | [],es=>es=[]
 |row::rows,es=>∃kd vd e es',row=[kd,vd, .int .i64 (e:AV×AV×Nat).2.2]∧es=e::es'∧Rp E R kd e.1∧Rp E R vd e.2.1∧RpE E R rows es'
def b2i(E:i9)(R:Fz)(o:D6)(x:Option N5):Prop:=
 (∃pre,x=some (.cells o.acs true pre))∧o.acs.all r6=true∧(∀row∈o.rows,row.length=o.sz)∧A0 E R o.rows.flatten o.acs
def c0A(E:i9)(R:Fz)(o:D6)(x:Option N5):Prop:=
 ∃es clock rows,o.sz=M8∧o.rows=[]::[]::rows∧o.acs=es.map c4T∧x=some (.map es clock)∧RpE E R rows es∧(es.map (·.2.2)).Nodup∧∀e∈es,e.2.2<clock
theorem RpE.le{E:i9}{R R':Fz}(h:R.le R'):∀ {rows:List (List D)} {es:List (AV×AV×Nat)},RpE E R rows es→RpE E R' rows es
 | [],es,e=>e
 |row::rows,es,⟨kd,vd,x,es',a,b,c,d,f⟩=>⟨kd,vd,x,es',a,b,Rp.le h _ _ c,Rp.le h _ _ d,RpE.le h f⟩
theorem b2i.le{E:i9}{R R':Fz}(h:R.le R'){o:D6}{x:Option N5}(c:b2i E R o x):b2i E R' o x:=⟨c.1,c.2.1,c.2.2.1,A0.le h _ _ c.2.2.2⟩
theorem c0A.le{E:i9}{R R':Fz}(h:R.le R'){o:D6}{x:Option N5}(c:c0A E R o x):c0A E R' o x:=
 let ⟨es,cl,rows,a,b,c,d,e,f⟩:=c
 ⟨es,cl,rows,a,b,c,d,e.le h,f⟩
def d6f(R:Fz)(k:Nat)(o:D6)(x:Option N5):Prop:=o.sz=c2Y∧o.rows=[[],[]]∧∃cs pre,R k=some cs∧x=some (.cells cs true pre)
structure A1 (E:i9) (R:Fz) (S:b8) (H:AHeap):Prop where
 fine:E6 H
 frozen:∀k cs,R k=some cs→∃w pre,H.get k=some (.cells cs w pre)
 own:∀k o,S k=some o→(R k=none∧(b2i E R o (H.get k)∨c0A E R o (H.get k)))∨d6f R k o (H.get k)
 safe:∀k o,S k=some o→∀p∈b3u H k,R p=none
section
variable{E:i9}{R:Fz}{S:b8}{H:AHeap}
theorem A1.cells(h:A1 E R S H){k:Nat}{o:D6}(hk:S k=some o)(hc:o.sz<M8∨∃cs,o.rows=[cs]):
  R k=none∧(∃pre,H.get k=some (.cells o.acs true pre))∧o.acs.all r6=true∧(∀row∈o.rows,row.length=o.sz)∧A0 E R o.rows.flatten o.acs:=by
 rcases h.own k o hk with ⟨h1,h2|⟨es,cl,rows,a,b,_⟩⟩|⟨a,b,_⟩
 ·exact⟨h1,h2⟩
 ·rcases hc with hc|⟨cs,hc⟩
  ·rw[a]at hc;exact absurd hc (by decide)
  ·rw[b]at hc;cases hc
 ·rcases hc with hc|⟨cs,hc⟩
  ·rw[a]at hc;exact absurd hc (by decide)
  ·rw[b]at hc;cases hc
theorem A1.tip(h:A1 E R S H){k:Nat}{o:D6}(hk:S k=some o)(hc:o.sz=c2Y)(hr:o.rows=[[],[]]):∃cs pre,R k=some cs∧H.get k=some (.cells cs true pre):=by
 rcases h.own k o hk with ⟨h1,⟨⟨pre,h2⟩,h3,h4,h5⟩|⟨es,cl,rows,a,b,_⟩⟩|⟨a,b,c⟩
 ·have:=h4 [] (by rw[hr];exact List.mem_cons_self)
  rw[hc]at this
  cases this
 ·rw[a]at hc;exact absurd hc (by decide)
 ·exact c
theorem A1.alive(h:A1 E R S H){k:Nat}{o:D6}(hk:S k=some o):∃x,H.get k=some x∧b3G x=true:=by
 rcases h.own k o hk with ⟨_,⟨⟨pre,h2⟩,_⟩|⟨es,cl,rows,_,_,_,h2,_⟩⟩|⟨_,_,cs,pre,_,h2⟩
 ·exact⟨_,h2,rfl⟩
 ·exact⟨_,h2,rfl⟩
 ·exact⟨_,h2,rfl⟩
theorem A1.less(h:A1 E R S H){S':b8}(hs:S'.le S):A1 E R S' H:=⟨h.fine,h.frozen,fun k o e=>h.own k o (hs _ _ e),fun k o e=>h.safe k o (hs _ _ e)⟩
theorem A1.fresh(h:A1 E R S H):R H.next=none∧S H.next=none:=by
 have g:=h.fine.above H.next (Nat.le_refl _)
 constructor
 ·cases e:R H.next with
  |none=>rfl
  |some cs=>obtain⟨_,_,h1⟩:=h.frozen _ _ e;rw[g]at h1;cases h1
 ·cases e:S H.next with
  |none=>rfl
  |some o=>obtain⟨_,h1,_⟩:=h.alive e;rw[g]at h1;cases h1
theorem c6K{H H':AHeap}{k:Nat}(h:H'.get k=H.get k):b3u H' k=b3u H k:=by unfold b3u;rw[h]
theorem A1.stays(h:A1 E R S H){H':AHeap}(F':E6 H')(hs:c6E H H'):A1 E R S H':=by
 have hg:∀k o,S k=some o→H'.get k=H.get k:=fun k o e=>by
  obtain⟨x,h1,h2⟩:=h.alive e
  rw[hs _ _ h1,h1]
 exact⟨F',fun k cs e=>let ⟨w,pre,g⟩:=h.frozen k cs e;⟨w,pre,hs _ _ g⟩,fun k o e=>by rw[hg k o e];exact h.own k o e,fun k o e=>by rw[c6K (hg k o e)];exact h.safe k o e⟩
theorem A1.but(h:A1 E R S H){H':AHeap}{b:Nat}(F':E6 H')(hs:But b H H'){ob:D6}(hS:S b=some ob)(hb:∀cs,R b=some cs→∃w pre,H'.get b=some (.cells cs w pre)):A1 E R (S.erase b) H':=by
 have hg:∀k o,(S.erase b) k=some o→S k=some o∧H'.get k=H.get k:=fun k o e=>by
  unfold b8.erase at e
  split at e
  ·cases e
  ·rename_i hk
   obtain⟨x,h1,h2⟩:=h.alive e
   exact⟨e,by rw[hs _ _ (.inl h2) hk h1,h1]⟩
 refine⟨F',fun k cs e=> ?_,fun k o e=> ?_,fun k o e=> ?_⟩
 ·by_cases hk:k=b
  ·subst hk;exact hb cs e
  ·obtain⟨w,pre,g⟩:=h.frozen k cs e
   refine⟨w,pre,hs _ _ (.inr fun hp=> ?_) hk g⟩
   have:=h.safe b ob hS k hp
   rw[e]at this;cases this
 ·obtain⟨e1,e2⟩:=hg k o e;rw[e2];exact h.own k o e1
 ·obtain⟨e1,e2⟩:=hg k o e;rw[c6K e2];exact h.safe k o e1
theorem A1.put(h:A1 E R S H){k:Nat}{o:D6}(hr:R k=none){pre:List Nat}(hg:H.get k=some (.cells o.acs true pre))(hp:∀p∈pre,R p=none)(hsc:o.acs.all r6=true)(hl:∀row∈o.rows,row.length=o.sz)(hR:A0 E R o.rows.flatten o.acs):A1 E R (S.set k o) H:=
 ⟨h.fine,h.frozen,fun j x e=>by
  unfold b8.set at e
  split at e
  ·rename_i hj;subst hj;cases e;exact .inl ⟨hr, .inl ⟨⟨pre,hg⟩,hsc,hl,hR⟩⟩
  ·exact h.own j x e,fun j x e=>by
  unfold b8.set at e
  split at e
  ·rename_i hj;subst hj;rw[Q5 hg];exact hp
  ·exact h.safe j x e⟩
theorem A1.putM(h:A1 E R S H){k:Nat}{o:D6}(hr:R k=none)(hm:c0A E R o (H.get k)):A1 E R (S.set k o) H:=
 ⟨h.fine,h.frozen,fun j x e=>by
  unfold b8.set at e
  split at e
  ·rename_i hj;subst hj;cases e;exact .inl ⟨hr, .inr hm⟩
  ·exact h.own j x e,fun j x e=>by
  unfold b8.set at e
  split at e
  ·rename_i hj
   subst hj
   obtain⟨es,cl,_,_,_,_,g,_⟩:=hm
   unfold b3u;rw[g];exact fun p hp=>by cases hp
  ·exact h.safe j x e⟩
theorem A1.freeze(h:A1 E R S H){k:Nat}{o:D6}(hk:S k=some o)(hc:o.sz<M8∨∃cs,o.rows=[cs]):A1 E (fun j=>if j=k then some o.acs else R j) (S.erase k) H∧R.le fun j=>if j=k then some o.acs else R j:=by
 obtain⟨h1,⟨pre,h2⟩,h3,h4,h5⟩:=h.cells hk hc
 have hle:R.le fun j=>if j=k then some o.acs else R j:=fun j cs e=>by
  show(if j=k then some o.acs else R j)=some cs
  rw[if_neg]
  ·exact e
  ·rintro rfl;rw[h1]at e;cases e
 refine⟨⟨h.fine,fun j cs e=> ?_,fun j x e=> ?_,fun j x e p hp=> ?_⟩,hle⟩
 ·replace e:(if j=k then some o.acs else R j)=some cs:=e
  split at e
  ·rename_i hj;subst hj;cases e;exact⟨true,pre,h2⟩
  ·exact h.frozen j cs e
 ·unfold b8.erase at e
  split at e
  ·cases e
  ·rename_i hj
   rcases h.own j x e with ⟨g1,g2⟩|⟨a,b,cs,p,c,d⟩
   ·exact .inl ⟨by show(if j=k then some o.acs else R j)=none;rw[if_neg hj];exact g1,g2.imp (b2i.le hle) (c0A.le hle)⟩
   ·exact .inr ⟨a,b,cs,p,hle _ _ c,d⟩
 ·unfold b8.erase at e
  split at e
  ·cases e
  ·show(if p=k then some o.acs else R p)=none
   rw[if_neg]
   ·exact h.safe j x e p hp
   ·rintro rfl
    obtain⟨y,y1,_⟩:=h.alive e
    have hp':p∈B3 y:=by unfold b3u at hp;rw[y1]at hp;exact hp
    have:=h.fine.kin j p y _ y1 hp' h2
    cases this
theorem A1.toTip(h:A1 E R S H){k:Nat}{o:D6}(hk:S k=some o)(hc:o.sz<M8∨∃cs,o.rows=[cs])(acs:List AV):A1 E (fun j=>if j=k then some o.acs else R j) (S.set k ⟨c2Y,[[],[]],acs⟩) H∧R.le fun j=>if j=k then some o.acs else R j:=by
 obtain⟨h1,h2⟩:=h.freeze hk hc
 obtain⟨_,⟨pre,g⟩,_⟩:=h.cells hk hc
 refine⟨⟨h1.fine,h1.frozen,fun j x e=> ?_,fun j x e=> ?_⟩,h2⟩
 ·unfold b8.set at e
  split at e
  ·rename_i hj;subst hj;cases e;exact .inr ⟨rfl,rfl,o.acs,pre,if_pos rfl,g⟩
  ·rename_i hj;exact h1.own j x (by rw[b8.erase_ne _ _ hj];exact e)
 ·unfold b8.set at e
  split at e
  ·rename_i hj
   subst hj
   intro p hp
   show(if p=j then some o.acs else R p)=none
   rw[if_neg]
   ·exact h.safe j o hk p hp
   ·rintro rfl
    rw[Q5 g]at hp
    exact h.fine.self p _ p g hp rfl
  ·rename_i hj;exact h1.safe j x (by rw[b8.erase_ne _ _ hj];exact e)
theorem A1.start{H:AHeap}(F:E6 H):A1 E (fun _=>Option.none) b8.none H:=⟨F,fun k cs e=>(by cases e),fun k o e=>(by cases e),fun k o e=>(by cases e)⟩
end
end
section
def a0W:AV→D
 | .bool b=> .bool b
 | .int k n=> .int k n
 | .str s=> .str s
 | .nilPtr=> .nilPtr
 | .nilSlc=> .nilSlc
 | .nilMap=> .nilMap
 | .nilFn=> .nilFn
 | .nilIfc=> .nilIfc
 |_=> .any
def c6d:AV→D
 | .agg cs=>if cs.all r6 then .agg (cs.map a0W) else .any
 | .tup []=> .tup []
 |v=>a0W v
def o4:D→Option (List D)
 | .any| .tup _=>none
 | .agg cs=>some cs
 |d=>some [d]
def l7:List D→Nat→List D→List D
 |cs,_,[]=>cs
 |cs,i,v::vs=>l7 (cs.set i v) (i+1) vs
def t8(T:List D):Operand→D
 | .tmp t=>T.getD t c9
 | .const v=>c6d (c6y v)
 | .global _=> .any
 | .func f=> .fn (.func f) [] []
def b8o(S:b8):D→Option (List D×Nat)
 | .ptr k i=>match S k with
  |some o=>match o.rows with
   | [cs]=>some (cs,i)
   |_=>none
  |none=>none
 | .rel k r i sz=>match S k with
  |some o=>if o.sz=sz then match o.rows[r]? with
   |some row=>some (row,i)
   |none=>none
   else none
  |none=>none
 | .elt row i=>some (row,i)
 |_=>none
def i4(S:b8)(n:Nat)(a:D):Option D:=match b8o S a with
 |some (row,i)=>if 0<n∧i+n≤row.length then some (.agg ((row.drop i).take n)) else none
 |none=>none
def d0(S:b8)(a:D):Option D:=match b8o S a with
 |some (row,i)=>row[i]?
 |none=>none
def b6b:D→Option Nat
 | .ptr k _| .rel k _ _ _| .raw k _ _ _ _ _=>some k
 | .mp k=>some k
 |_=>none
def b5D:D→Option Nat
 | .mp k=>some k
 |_=>none
def b5h(o:D6):Option (List (List D)):=if o.sz=M8 then(match o.rows with
 | []::[]::rows=>some rows
 |_=>none) else none
def b6d(P:Program)(t:TypeId):Option Nat:=match P.underlying t with
 |some (.int _)=>some 0
 |some .string=>some 1
 |some .bool=>some 2
 |_=>none
def c5E(kk:Nat)(d:D):Bool:=match d with
 | .int _ _=>kk==0
 | .str _=>kk==1
 | .bool _=>kk==2
 |_=>false
def c7X:D→D→Option Bool
 | .int k a, .int k' b=>if k=k' then some (a==b) else none
 | .str a, .str b=>some (a==b)
 | .bool a, .bool b=>some (a==b)
 |_,_=>none
def c0V(k:D):List (List D)→Nat→Option (Option (Nat×D×D))
 | [],_=>some none
 | [k',v,n]::es,i=>match c7X k k' with
  |some true=>some (some (i,v,n))
  |some false=>c0V k es (i+1)
  |none=>none
 |_::_,_=>none
def d1R(S:b8):D→Option (List (List D))
 | .nilMap=>some []
 | .mp k=>match S k with
  |some o=>b5h o
  |none=>none
 |_=>none
def d6N(z:D)(ok:Bool):Option (Option (Nat×D×D))→Option D
 |some (some (_,v,_))=>some (if ok then .tup [v, .bool true]else v)
 |some none=>some (if ok then .tup [z, .bool false]else z)
 |none=>none
def d4c(S:b8)(kk:Nat)(z:D)(ok:Bool)(x ix:D):Option D:=if c5E kk ix then(match d1R S x with
 |some es=>d6N z ok (c0V ix es 0)
 |none=>none) else none
def c4R(P:Program)(S:b8)(t:TypeId)(x ix:D)(ok:Bool):Option D:=match P.underlying t with
 |some (.map kt e)=>match b6d P kt,K4 P e with
  |some kk,some z=>d4c S kk (c6d z) ok x ix
  |_,_=>none
 |_=>none
def d5W(S:b8)(x:D):Option D:=match d1R S x with
 |some es=>some (.int .i64 es.length)
 |none=>none
def b7E(P:Program)(t:TypeId):Bool:=match P.underlying t with
 |some (.map _ _)=>true
 |_=>false
def o0(c a b:D):Option D:=match c with
 | .bool t=>some (if t then a else b)
 |_=>none
def a0H:D→Option D
 | .nilPtr| .nilIfc| .nilFn| .any| .fn (.method _) _ _=>none
 |y=>some y
def j2(x:D)(ix:Nat):Option D:=match x with
 | .tup vs=>vs[ix]?
 |_=>none
def f9(op:BinOp)(a b:D):Option D:=match a,b with
 | .int k x, .int k' y=>match op with
  | .shl=>if y<0 then none else some (.int k (k.wrap (x*2^(min y.toNat k.bits))))
  | .shr=>if y<0 then none else some (.int k (x.fdiv (2^(min y.toNat k.bits))))
  |_=>if k=k' then(Q7 op k x y).map a0W else none
 |_,_=>none
def c6O(op:BinOp)(a b:D):Option D:=match a,b with
 | .str x, .str y=>(a7f op x y).map a0W
 |_,_=>none
def b8S(op:BinOp)(r:Option Bool):Option D:=match op with
 | .eql=>r.map .bool
 | .neq=>r.map fun b=> .bool !b
 |_=>none
def d4M(a b:D):Option Bool:=match a,b with
 | .bool x, .bool y=>some (x==y)
 |_,_=>none
def c7a(a b:D):Option Bool:=match a,b with
 | .nilSlc, .nilSlc=>some true
 | .nilSlc, .lst (_::_) _| .nilSlc, .ext _ _ _| .nilSlc, .raw _ _ _ _ _ _| .lst (_::_) _, .nilSlc| .ext _ _ _, .nilSlc| .raw _ _ _ _ _ _, .nilSlc=>some false
 |_,_=>none
def d5V(a b:D):Option Bool:=match a,b with
 | .nilPtr, .nilPtr=>some true
 | .nilPtr, .ptr _ _| .nilPtr, .rel _ _ _ _| .nilPtr, .elt _ _| .ptr _ _, .nilPtr| .rel _ _ _ _, .nilPtr| .elt _ _, .nilPtr=>some false
 |_,_=>none
def d5A(a b:D):Option Bool:=match a,b with
 | .nilFn, .nilFn=>some true
 | .nilFn, .fn _ _ _| .fn _ _ _, .nilFn=>some false
 |_,_=>none
def d5M(c:Bool)(a b:D):Option Bool:=match a,b with
 | .nilIfc, .nilIfc=>if c then some true else none
 | .nilIfc, .ifc _ _| .ifc _ _, .nilIfc=>some false
 |_,_=>none
mutual
def d2D:D→Option AV
 | .bool b=>some (.bool b)
 | .int k n=>some (.int k n)
 | .str s=>some (.str s)
 | .nilPtr=>some .nilPtr
 | .nilSlc=>some .nilSlc
 | .nilMap=>some .nilMap
 | .nilFn=>some .nilFn
 | .nilIfc=>some .nilIfc
 | .ptr k i=>some (.ptr (.new k) i)
 | .agg cs=>match c3v cs with
  |some l=>some (.agg l)
  |none=>none
 |_=>none
def c3v:List D→Option (List AV)
 | []=>some []
 |d::ds=>match d2D d,c3v ds with
  |some v,some vs=>some (v::vs)
  |_,_=>none
end
def d6a(P:Program)(t:TypeId)(a b:D):Option Bool:=match a,b with
 | .agg x, .agg y=>match c3v x,c3v y with
  |some x,some y=>if P.eqGuardType P.depth t then none else eqA P Op.maxDepth t (.agg x) (.agg y)
  |_,_=>none
 |_,_=>none
def d4i(P:Program)(op:BinOp)(t:TypeId)(x y:Operand)(a b:D):Option D:=match P.underlying t with
 |some (.int _)=>f9 op a b
 |some .string=>c6O op a b
 |some .bool=>b8S op (d4M a b)
 |some (.slice _)=>b8S op (c7a a b)
 |some (.pointer _)=>b8S op (d5V a b)
 |some (.func ..)=>b8S op (d5A a b)
 |some (.interface _)=>b8S op (d5M (Region.isConst x||Region.isConst y) a b)
 |some (.struct _)=>b8S op (d6a P t a b)
 |_=>none
def unD(op:UnOp)(x:D):Option D:=match op,x with
 | .neg, .int k n=>some (.int k (k.wrap (0 - n)))
 | .xor, .int k n=>some (.int k (k.wrap (BitVec.ofInt k.bits (if k.signed then -1 else k.max) ^^^ BitVec.ofInt k.bits n).toNat))
 | .not, .bool b=>some (.bool !b)
 |_,_=>none
def J2(S:b8)(sz:Nat):D→Option (List (List D))
 | .nilSlc=>some []
 | .lst rows z=>if z=sz then some rows else none
 | .ext rows _ z=>if z=sz then some rows else none
 | .raw k i len _ _ z=>match S k with
  |some o=>if z=sz∧o.sz=sz∧i+len≤o.rows.length then some ((o.rows.drop i).take len) else none
  |none=>none
 |_=>none
def c0h:List D→Option UInt8
 | [.int .u8 n]=>some (UInt8.ofNat n.toNat)
 |_=>none
def K1(k:IntKind):D→Option D
 | .int _ n=>some (.int k (k.wrap n))
 |_=>none
def c5d:D→Option D
 | .str s=>some (.str s)
 |_=>none
def c1n(S:b8)(x:D):Option D:=match J2 S 1 x with
 |some rows=>(rows.mapM c0h).map .str
 |none=>none
def d1E(P:Program)(S:b8)(src dst:TypeId)(x:D):Option D:=match P.underlying src,P.underlying dst with
 |some (.int _),some (.int k)=>K1 k x
 |some .string,some .string=>c5d x
 |some (.slice e),some .string=>match P.underlying e with
  |some (.int .u8)=>c1n S x
  |_=>none
 |_,_=>none
def E4(x:D)(y:Nat):Option Nat:=match x with
 | .int _ i=>if 0≤i∧i≤y then some i.toNat else none
 |_=>none
def c4S(cap:Nat):Option D→Option Nat
 |some v=>E4 v cap
 |none=>some cap
def b0L(len m:Nat):Option D→Option D→Option Nat
 |some v,_=>E4 v m
 |none,none=>some len
 |none,some _=>none
def b8z(h:Nat):Option D→Option Nat
 |some v=>E4 v h
 |none=>some 0
def M6(len cap:Nat)(low high max:Option D):Option (Nat×Nat×Nat):=
 (c4S cap max).bind fun m=>(b0L len m high max).bind fun h=>(b8z h low).bind fun l=>some (l,h,m)
def c1f(x:D)(lo hi:Option D):Option D:=match x with
 | .str s=>(M6 s.length s.length lo hi none).map fun r=> .str ((s.drop r.1).take (r.2.1 - r.1))
 |_=>none
def d0t(rows more:List (List D))(sz:Nat):D:=match more with
 | []=> .lst rows sz
 |m=> .ext rows m sz
def a0E(sz:Nat)(x:D)(lo hi mx:Option D):Option D:=match x with
 | .nilSlc=>(M6 0 0 lo hi mx).map fun _=> .nilSlc
 | .lst rows z=>if z=sz then(M6 rows.length rows.length lo hi mx).map fun r=>d0t ((rows.drop r.1).take (r.2.1 - r.1)) ((rows.drop r.2.1).take (r.2.2 - r.2.1)) sz else none
 | .ext rows more z=>if z=sz then(M6 rows.length (rows++more).length lo hi mx).map fun r=>d0t (((rows++more).drop r.1).take (r.2.1 - r.1)) (((rows++more).drop r.2.1).take (r.2.2 - r.2.1)) sz else none
 | .raw k i len cap ex z=>if z=sz then(M6 len cap lo hi mx).map fun r=> .raw k (i+r.1) (r.2.1 - r.1) (r.2.2 - r.1) (ex||mx.isSome) sz else none
 |_=>none
def c7x(P:Program)(t:TypeId)(x:D)(lo hi mx:Option D):Option D:=match P.underlying t with
 |some .string=>match mx with
  |none=>c1f x lo hi
  |some _=>none
 |some (.slice e)=>match C5 P e with
  |some sz=>a0E sz x lo hi mx
  |none=>none
 |_=>none
def j5(off:Nat):D→Option D
 | .ptr k i=>some (.ptr k (i+off))
 | .rel k r i sz=>some (.rel k r (i+off) sz)
 | .elt row i=>some (.elt row (i+off))
 |_=>none
def c1t(P:Program)(s:TypeId)(x:D)(field:Nat):Option D:=match a5r P s field with
 |some f=>match C5 P f.type with
  |some (_+1)=>j5 f.offset x
  |_=>none
 |none=>none
def c5i(off n:Nat):D→Option D
 | .agg cs=>some (.agg ((cs.drop off).take n))
 |_=>none
def c4E(off:Nat):D→Option D
 | .agg cs=>cs[off]?
 |_=>none
def c6w(P:Program)(t:TypeId)(off:Nat)(x:D):Option D:=match a9u P t with
 |some true=>match C5 P t with
  |some n=>c5i off n x
  |none=>none
 |some false=>c4E off x
 |none=>none
def c8v(P:Program)(s:TypeId)(x:D)(field:Nat):Option D:=match a5r P s field with
 |some f=>c6w P f.type f.offset x
 |none=>none
def p9(sz:Nat)(x ix:D):Option D:=match ix with
 | .int _ n=>match x with
  | .lst rows z=>if z=sz∧0≤n then match rows[n.toNat]? with
   |some row=>some (.elt row 0)
   |none=>none
   else none
  | .ext rows _ z=>if z=sz∧0≤n then match rows[n.toNat]? with
   |some row=>some (.elt row 0)
   |none=>none
   else none
  | .raw k i len _ _ z=>if z=sz∧0≤n∧n<len then some (.rel k (i+n.toNat) 0 sz) else none
  |_=>none
 |_=>none
def d2w(len sz:Nat)(x ix:D):Option D:=match ix with
 | .int _ n=>if 0≤n∧n<len then j5 (n.toNat*sz) x else none
 |_=>none
def c1W(P:Program)(t:TypeId)(x ix:D):Option D:=match P.underlying t with
 |some (.slice e)=>match C5 P e with
  |some sz=>p9 sz x ix
  |none=>none
 |some (.array len e)=>match C5 P e with
  |some sz=>d2w len sz x ix
  |none=>none
 |_=>none
def c4c(x ix:D):Option D:=match ix,x with
 | .int _ n, .str s=>if 0≤n then match s[n.toNat]? with
  |some b=>some (.int .u8 b.toNat)
  |none=>none
  else none
 |_,_=>none
def d2c(len sz:Nat)(ag:Bool)(x ix:D):Option D:=match ix with
 | .int _ n=>if 0≤n∧n<len then(match ag with
  |true=>c5i (n.toNat*sz) sz x
  |false=>c4E (n.toNat*sz) x) else none
 |_=>none
def c7T(P:Program)(t:TypeId)(x ix:D):Option D:=match P.underlying t with
 |some .string=>c4c x ix
 |some (.array len e)=>match C5 P e,a9u P e with
  |some sz,some ag=>d2c len sz ag x ix
  |_,_=>none
 |_=>none
def a9l:D→Option D
 | .str s=>some (.int .i64 s.length)
 |_=>none
def m9:D→Option D
 | .nilSlc=>some (.int .i64 0)
 | .lst rows _=>some (.int .i64 rows.length)
 | .ext rows _ _=>some (.int .i64 rows.length)
 | .raw _ _ len _ _ _=>some (.int .i64 len)
 |_=>none
def d5l(P:Program)(S:b8)(t:TypeId)(x:D):Option D:=match P.underlying t with
 |some .string=>a9l x
 |some (.map _ _)=>d5W S x
 |some (.slice _)=>m9 x
 |some (.array n _)=>some (.int .i64 n)
 |_=>none
def c6S:D→Option D
 | .nilSlc=>some (.int .i64 0)
 | .raw _ _ _ cap true _=>some (.int .i64 cap)
 |_=>none
def d5h(P:Program)(t:TypeId)(x:D):Option D:=match P.underlying t with
 |some (.slice _)=>c6S x
 |some (.array n _)=>some (.int .i64 n)
 |_=>none
def mmD(isMax:Bool)(x y:D):Option D:=match x,y with
 | .int k a, .int _ b=>some (.int k (if isMax then(if b>a then b else a) else(if b<a then b else a)))
 |_,_=>none
def b4R(isMax:Bool):List D→Option D
 | []=>none
 |x::rest=>rest.foldlM (mmD isMax) x
def c8I(P:Program)(t:TypeId)(x:D):Option D:=match P.underlying t with
 |some (.interface _)=>none
 |some _=>some (.ifc t x)
 |none=>none
def asD(t:TypeId)(z:D)(ok:Bool)(x:D):Option D:=match x with
 | .nilIfc=>if ok then some (.tup [z, .bool false]) else none
 | .ifc t' v=>if t'=t then some (if ok then .tup [v, .bool true]else v) else if ok then some (.tup [z, .bool false]) else none
 |_=>none
def c3Y(P:Program)(x:D)(asserted:TypeId)(ok:Bool):Option D:=match P.underlying asserted with
 |some (.interface _)=>none
 |some _=>match K4 P asserted with
  |some z=>asD asserted (c6d z) ok x
  |none=>none
 |none=>none
def o8:List D→List (Nat×Nat×D)→Option (List D)
 |cs,[]=>some cs
 |cs,(off,size,v)::rest=>match o4 v with
  |some ds=>if ds.length=size∧off+size≤cs.length then o8 (l7 cs off ds) rest else none
  |none=>none
def b2q(place:Nat→Option (Nat×Nat)):List (Nat×D)→Option (List (Nat×Nat×D))
 | []=>some []
 |(i,v)::rest=>match place i with
  |some (off,size)=>match b2q place rest with
   |some l=>some ((off,size,v)::l)
   |none=>none
  |none=>none
def C3(r:Option (List D)):Option D:=match r with
 |some cs=>some (.agg cs)
 |none=>none
def c7W(P:Program)(t:TypeId)(parts:List (Nat×D)):Option D:=match K4 P t with
 |some (.agg z)=>if z.all r6 then match P.underlying t with
  |some (.struct fields)=>match fields.toList.mapM fun f=>(C5 P f.type).map fun s=>(f.offset,s) with
   |some places=>match b2q (places[·]?) parts with
    |some l=>C3 (o8 (z.map a0W) l)
    |none=>none
   |none=>none
  |some (.array _ e)=>match C5 P e with
   |some size=>match b2q (fun i=>some (i*size,size)) parts with
    |some l=>C3 (o8 (z.map a0W) l)
    |none=>none
   |none=>none
  |_=>none
  else none
 |_=>none
def c9g(P:Program)(S:b8)(t:TypeId)(a:D):Option D:=match a9u P t with
 |some true=>match C5 P t with
  |some n=>i4 S n a
  |none=>none
 |some false=>d0 S a
 |none=>none
def d4n(P:Program)(T:List D)(S:b8)(o:Oper):Option D:=
 match o.op with
 | .move x| .assign x=>some (t8 T x)
 | .pick c a b=>o0 (t8 T c) (t8 T a) (t8 T b)
 | .build t parts=>c7W P t (parts.toList.map fun p=>(p.1,t8 T p.2))
 | .load t a=>c9g P S t (t8 T a)
 | .nilCheck x=>a0H (t8 T x)
 | .binOp op t x y _=>d4i P op t x y (t8 T x) (t8 T y)
 | .unOp op _ x=>unD op (t8 T x)
 | .convert src dst x=>d1E P S src dst (t8 T x)
 | .makeInterface t x=>c8I P t (t8 T x)
 | .makeFunc fn first captured=>some (.fn fn (first.toList.map (t8 T)) (captured.toList.map (t8 T)))
 | .slice t x lo hi mx=>c7x P t (t8 T x) (lo.map (t8 T)) (hi.map (t8 T)) (mx.map (t8 T))
 | .fieldAddr s x f=>c1t P s (t8 T x) f
 | .field s x f=>c8v P s (t8 T x) f
 | .indexAddr t x ix=>c1W P t (t8 T x) (t8 T ix)
 | .index t x ix=>c7T P t (t8 T x) (t8 T ix)
 | .lookup t x ix ok=>c4R P S t (t8 T x) (t8 T ix) ok
 | .typeAssert x _ asserted ok=>c3Y P (t8 T x) asserted ok
 | .extract t ix=>j2 (t8 T t) ix
 | .call c=>match c.callee with
  | .builtin b=>match b,c.args.toList.map (t8 T),c.argTypes.toList with
   | .len,[x],[t]=>d5l P S t x
   | .cap,[x],[t]=>d5h P t x
   | .min,l,_=>b4R false l
   | .max,l,_=>b4R true l
   |_,_,_=>none
  |_=>none
 |_=>none
def d2T(P:Program)(c:Call):Bool:=match c.callee with
 | .builtin .len=>match c.argTypes.toList with
  | [t]=>b7E P t
  |_=>false
 |_=>false
def c0Z(T:List D)(c:Call):D:=match c.args.toList.map (t8 T) with
 | [x]=>x
 |_=> .any
def b1c(P:Program)(T:List D)(o:Oper):Option Nat:=match o.op with
 | .load _ a=>b6b (t8 T a)
 | .convert _ _ x=>b6b (t8 T x)
 | .lookup _ x _ _=>b5D (t8 T x)
 | .call c=>if d2T P c then b5D (c0Z T c) else none
 |_=>none
structure Agr (R:Fz) (S:b8) (k:Option Nat) (H:AHeap):Prop where
 fz:∀j cs,R j=some cs→∃w p,H.get j=some (.cells cs w p)
 st:∀j o,k=some j→S j=some o→(o.sz<M8∨∃cs,o.rows=[cs])→∃w p,H.get j=some (.cells o.acs w p)
 mp:∀j o rows,k=some j→S j=some o→b5h o=some rows→∃es clock,o.acs=es.map c4T∧H.get j=some (.map es clock)
theorem c7u{o:D6}{rows:List (List D)}(h:b5h o=some rows):o.sz=M8∧o.rows=[]::[]::rows:=by
 unfold b5h at h
 split at h
 ·rename_i hs
  split at h
  ·rename_i r e;cases h;exact⟨hs,e⟩
  ·cases h
 ·cases h
theorem A1.mapAt{E:i9}{R:Fz}{S:b8}{H:AHeap}(h:A1 E R S H){k:Nat}{o:D6}{rows:List (List D)}(hk:S k=some o)(hm:b5h o=some rows):
  R k=none∧∃es clock,o.acs=es.map c4T∧H.get k=some (.map es clock)∧RpE E R rows es∧(es.map (·.2.2)).Nodup∧∀e∈es,e.2.2<clock:=by
 obtain⟨hs,hr⟩:=c7u hm
 rcases h.own k o hk with ⟨h1,⟨_,_,h2,_⟩|⟨es,cl,rws,_,b,a,g,r⟩⟩|⟨a,_⟩
 ·have:=h2 [] (by rw[hr];exact List.mem_cons_self)
  rw[hs]at this
  cases this
 ·rw[hr]at b
  cases b
  exact⟨h1,es,cl,a,g,r⟩
 ·rw[hs]at a
  exact absurd a (by decide)
theorem A1.agr{E:i9}{R:Fz}{S:b8}{H:AHeap}(h:A1 E R S H)(k:Option Nat):Agr R S k H:=
 ⟨fun j cs e=>let ⟨w,pre,g⟩:=h.frozen j cs e;⟨w,pre,g⟩,fun j o _ e hc=>let ⟨_,⟨pre,g⟩,_⟩:=h.cells e hc;⟨_,pre,g⟩,fun j o rows _ e hm=>
  let ⟨_,es,cl,a,g,_⟩:=h.mapAt e hm;⟨es,cl,a,g⟩⟩
end
end Go.Am
end
