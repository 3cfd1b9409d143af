/-
  BlocksCutsSaid: part Pam of its proof.
-/
import Derived.Test.YtdkidgkiplcggaaPal
set_option linter.unusedVariables false
set_option linter.unusedSimpArgs false
set_option maxRecDepth 100000
section
namespace Go.Am
section
section
variable{P:Program}{E:g8}{w0:a4P}
theorem vF(r:Option AV):c3m (some false) r=some s8:=(rfl)
theorem dT{p:Prop}[Decidable p](h:p):decide p=true:=decide_eq_true h
end
theorem a8q:∀(vs cs:List AV) (i:Nat),(z7 cs i vs).length=cs.length
 | [],cs,i=>rfl
 |v::vs,cs,i=>by rw[z7,a8q vs,List.length_set]
theorem B1.stores{H:AHeap}(F:B1 H){b:Nat}{all:List AV}{pre:List Nat}(h:H.get b=some (.cells all true pre)){n:Nat}{vs:List AV}(h0:vs≠[])(hn:n+vs.length≤all.length)(hx:vs.all m9=true):
  ∃H',z8 H (.new b) n vs=some H'∧H'.get b=some (.cells (z7 all n vs) true [])∧But b H H'∧H'.next=H.next∧B1 H':=by
 cases vs with
 |nil=>exact(h0 rfl).elim
 |cons x xs=>
 have hg:∀j,((H.killAll pre).set b (.cells (z7 all n (x::xs)) true [])).get j=if b=j then some (.cells (z7 all n (x::xs)) true []) else if j∈pre then none else H.get j:=by
  intro j
  rw[G9,get_killAll]
 have hlen:n<all.length:=by simp at hn;omega
 obtain⟨H1,e1,e2,e3,e4,F1⟩:=F.store h hlen (x:= .bool true) rfl
 rw[a1q h n _ [] (by simp;omega) (by rfl)]at e1
 refine⟨_,a1q h n x xs (by simpa using hn) hx,(hg b).trans (if_pos rfl), ?_,by rw[next_set,next_killAll], ?_⟩
 ·intro k ob hw hk hgk
  refine(hg k).trans ?_
  rw[if_neg (Ne.symm hk),if_neg]
  ·exact hgk
  ·intro hp
   rcases hw with hw|hw
   ·rw[F.kin b k _ _ h hp hgk]at hw
    cases hw
   ·rw[L5 h]at hw
    exact hw hp
 ·have key:∀j o,((H.killAll pre).set b (.cells (z7 all n (x::xs)) true [])).get j=some o→(b=j∧o= .cells (z7 all n (x::xs)) true [])∨(b≠j∧H.get j=some o):=by
   intro j o hj
   rw[hg]at hj
   split at hj
   ·rename_i e;cases hj;exact .inl ⟨e,rfl⟩
   ·rename_i e
    split at hj
    ·cases hj
    ·exact .inr ⟨e,hj⟩
  have hnx:((H.killAll pre).set b (.cells (z7 all n (x::xs)) true [])).next=H.next:=by rw[next_set,next_killAll]
  refine⟨?_, ?_, ?_, ?_⟩
  ·intro k hk
   rw[hnx]at hk
   have hkb:b≠k:=by have:=F.lt h;omega
   refine(hg k).trans ?_
   rw[if_neg hkb,F.above k hk]
   split<;>rfl
  ·intro k p o op hk hp ho
   rcases key k o hk with ⟨rfl,rfl⟩|⟨hbk,hk⟩
   ·cases hp
   ·rcases key p op ho with ⟨rfl,rfl⟩|⟨hbp,ho⟩
    ·have:=F.kin k b _ _ hk hp h
     cases this
    ·exact F.kin k p o op hk hp ho
  ·intro k o p hk hp
   rcases key k o hk with ⟨rfl,rfl⟩|⟨hbk,hk⟩
   ·cases hp
   ·exact F.self k o p hk hp
  ·intro k o p hk hp
   rw[hnx]
   rcases key k o hk with ⟨rfl,rfl⟩|⟨hbk,hk⟩
   ·cases hp
   ·exact F.below k o p hk hp
theorem B1.growN{E:g8}{H:AHeap}(F:B1 H){k i n cap sz:Nat}{ex:Bool}{all:List AV}{pre:List Nat}(h:H.get k=some (.cells all true pre))(hl:i+n*sz≤all.length){bytes m:Nat}(news:List AV)(hm:news.length=m*sz)(h0:m≠0)(hsc:news.all m9=true)
  (hb:0<bytes∧(2*(n+m)+768)*bytes≤2^47):
  ∃H' q,J6 E H sz bytes (.slc (.new k) i n cap ex sz) m news=some (.slc (.new H.next) 0 (n+m) (n+m) false sz,H')∧H'.next=H.next+1∧H'.get H.next=some (.cells ((all.drop i).take (n*sz)++news) true q)∧But k H H'∧B1 H'∧(∀p∈q,p=k∨p∈pre)∧(i+n*sz=all.length→∃w p,H'.get k=some (.cells all w p)):=by
 have hklt:=F.lt h
 unfold J6
 rw[if_pos hm]
 simp only
 rw[if_neg h0,if_pos hb]
 by_cases hx:(ex&&decide (cap<n+m))=true
 ·rw[if_pos hx,a4T E h,if_pos (by omega)]
  obtain⟨a,b,c,d⟩:=F.newCells ((all.drop i).take (n*sz)++news)
  refine⟨_,[],rfl,c,a,b.but,d, ?_, ?_⟩
  ·exact fun p hp=>by cases hp
  ·exact fun _=>⟨true,pre,b k _ h⟩
 ·rw[if_neg hx]
  simp only[h]
  rw[if_pos ⟨by trivial,by omega,hsc⟩]
  by_cases hc:i+n*sz<all.length
  ·rw[if_pos hc]
   refine⟨_,[k],rfl, ?_, ?_, ?_, ?_,fun p hp=>Or.inl (List.mem_singleton.1 hp),fun e=>absurd e (by omega)⟩
   ·rw[next_new,next_set,next_killAll]
   ·rw[get_new,next_set,next_killAll,if_pos rfl,List.drop_take,Nat.add_sub_cancel_left]
   ·intro j al pr hj hgj
    have:=F.lt hgj
    rw[get_new,next_set,next_killAll,if_neg (by omega),G9,if_neg (Ne.symm hj),get_killAll,if_neg]
    ·exact hgj
    ·intro hp
     rcases pr with pr|pr
     ·rw[F.kin k j _ _ h hp hgj]at pr
      cases pr
     ·rw[L5 h]at pr
      exact pr hp
   ·have key:∀j o,((((H.killAll pre).set k (.cells (all.take (i+n*sz)) false [])).new (.cells ((all.take (i+n*sz)).drop i++news) true [k]))).get j=some o→
      (j=H.next∧s9 o=[k])∨(j=k∧o= .cells (all.take (i+n*sz)) false [])∨(j≠H.next∧j≠k∧H.get j=some o):=by
     intro j o hj
     rw[get_new,next_set,next_killAll,G9,get_killAll]at hj
     split at hj
     ·rename_i e;cases hj;exact .inl ⟨e.symm,rfl⟩
     ·rename_i e
      split at hj
      ·rename_i e2;cases hj;exact .inr (.inl ⟨e2.symm,rfl⟩)
      ·rename_i e2
       split at hj
       ·cases hj
       ·exact .inr (.inr ⟨Ne.symm e,Ne.symm e2,hj⟩)
    refine⟨?_, ?_, ?_, ?_⟩
    ·intro j hj
     rw[next_new,next_set,next_killAll]at hj
     rw[get_new,next_set,next_killAll,if_neg (by omega),G9,if_neg (by omega),get_killAll,F.above j (by omega)]
     split<;>rfl
    ·intro j p o op hj hp ho
     rcases key p op ho with ⟨rfl,_⟩|⟨rfl,rfl⟩|⟨_,hpk,ho⟩
     ·rcases key j o hj with ⟨rfl,e⟩|⟨rfl,rfl⟩|⟨_,_,hj⟩
      ·rw[e]at hp;simp at hp;omega
      ·cases hp
      ·have:=F.below j o _ hj hp;omega
     ·rfl
     ·rcases key j o hj with ⟨rfl,e⟩|⟨rfl,rfl⟩|⟨_,_,hj⟩
      ·rw[e]at hp;simp at hp;exact(hpk hp).elim
      ·cases hp
      ·exact F.kin j p o op hj hp ho
    ·intro j o p hj hp
     rcases key j o hj with ⟨rfl,e⟩|⟨rfl,rfl⟩|⟨_,_,hj⟩
     ·rw[e]at hp;simp at hp;omega
     ·cases hp
     ·exact F.self j o p hj hp
    ·intro j o p hj hp
     rw[next_new,next_set,next_killAll]
     rcases key j o hj with ⟨rfl,e⟩|⟨rfl,rfl⟩|⟨_,_,hj⟩
     ·rw[e]at hp;simp at hp;omega
     ·cases hp
     ·have:=F.below j o p hj hp;omega
  ·rw[if_neg hc]
   have hn:i+n*sz=all.length:=by omega
   refine⟨_,k::pre,rfl, ?_, ?_, ?_, ?_,fun p hp=>List.mem_cons.1 hp,fun _=>⟨false,pre,by rw[get_new,next_set,if_neg (by omega),G9,if_pos rfl]⟩⟩
   ·rw[next_new,next_set]
   ·rw[get_new,next_set,if_pos rfl]
    have:(all.drop i).take (n*sz)=all.drop i:=List.take_of_length_le (by rw[List.length_drop];omega)
    rw[this]
   ·intro j al pr hj hgj
    have:=F.lt hgj
    rw[get_new,next_set,if_neg (by omega),G9,if_neg (Ne.symm hj)]
    exact hgj
   ·have key:∀j o,((H.set k (.cells all false pre)).new (.cells (all.drop i++news) true (k::pre))).get j=some o→
      (j=H.next∧s9 o=k::pre)∨(j=k∧o= .cells all false pre)∨(j≠H.next∧j≠k∧H.get j=some o):=by
     intro j o hj
     rw[get_new,next_set,G9]at hj
     split at hj
     ·rename_i e;cases hj;exact .inl ⟨e.symm,rfl⟩
     ·rename_i e
      split at hj
      ·rename_i e2;cases hj;exact .inr (.inl ⟨e2.symm,rfl⟩)
      ·rename_i e2
       exact .inr (.inr ⟨Ne.symm e,Ne.symm e2,hj⟩)
    refine⟨?_, ?_, ?_, ?_⟩
    ·intro j hj
     rw[next_new,next_set]at hj
     rw[get_new,next_set,if_neg (by omega),G9,if_neg (by omega),F.above j (by omega)]
    ·intro j p o op hj hp ho
     rcases key p op ho with ⟨rfl,_⟩|⟨rfl,rfl⟩|⟨_,hpk,hop⟩
     ·rcases key j o hj with ⟨rfl,e⟩|⟨rfl,rfl⟩|⟨_,_,hj⟩
      ·rw[e]at hp
       rcases List.mem_cons.1 hp with rfl|hp
       ·omega
       ·have:=F.below k _ _ h hp;omega
      ·have:=F.below _ _ _ h hp;omega
      ·have:=F.below j o _ hj hp;omega
     ·rfl
     ·rcases key j o hj with ⟨rfl,e⟩|⟨rfl,rfl⟩|⟨_,_,hj⟩
      ·rw[e]at hp
       rcases List.mem_cons.1 hp with rfl|hp
       ·exact(hpk rfl).elim
       ·exact F.kin k p _ op h hp hop
      ·exact F.kin _ p _ op h hp hop
      ·exact F.kin j p o op hj hp hop
    ·intro j o p hj hp
     rcases key j o hj with ⟨rfl,e⟩|⟨rfl,rfl⟩|⟨_,_,hj⟩
     ·rw[e]at hp
      rcases List.mem_cons.1 hp with rfl|hp
      ·omega
      ·have:=F.below k _ _ h hp;omega
     ·exact F.self _ _ p h hp
     ·exact F.self j o p hj hp
    ·intro j o p hj hp
     rw[next_new,next_set]
     rcases key j o hj with ⟨rfl,e⟩|⟨rfl,rfl⟩|⟨_,_,hj⟩
     ·rw[e]at hp
      rcases List.mem_cons.1 hp with rfl|hp
      ·omega
      ·have:=F.below k _ _ h hp;omega
     ·have:=F.below _ _ _ h hp;omega
     ·have:=F.below j o p hj hp;omega
end
section
inductive D where
 |any
 |bool (b:Bool)
 |int (k:IntKind) (n:Int)
 |str (s:List UInt8)
 |nilPtr
 |nilSlc
 |nilMap
 |nilFn
 |nilIfc
 |mp (k:Nat)
 |ptr (k i:Nat)
 |rel (k r i sz:Nat)
 |elt (row:List D) (i:Nat)
 |lst (rows:List (List D)) (sz:Nat)
 |ext (rows more:List (List D)) (sz:Nat)
 |raw (k i len cap:Nat) (ex:Bool) (sz:Nat)
 |tip (k:Nat) (rows:List (List D)) (sz:Nat)
 |fn (f:Fn) (a b:List D)
 |ifc (t:TypeId) (v:D)
 |agg (cs:List D)
 |tup (vs:List D)
 deriving Inhabited
def b6:D:= .tup []
def H3:Nat:=4294967296
def b9d:Nat:=4294967297
def b4m:Nat:=4294967298
abbrev Fz:=Nat→Option (List AV)
def rdE(E:g8)(R:Fz):Id→Option (List AV)
 | .old b=>E b
 | .new k=>R k
def c6H:Id→Nat→Nat→Prop
 | .old _,_,_=>True
 | .new _,z,sz=>z=sz
mutual
def Rp(E:g8)(R:Fz):D→AV→Prop
 | .any,_=>True
 | .bool b,v=>v= .bool b
 | .int k n,v=>v= .int k n
 | .str s,v=>v= .str s
 | .nilPtr,v=>v= .nilPtr
 | .nilSlc,v=>v= .nilSlc
 | .nilMap,v=>v= .nilMap
 | .nilFn,v=>v= .nilFn
 | .nilIfc,v=>v= .nilIfc
 | .mp k,v=>v= .map k
 | .ptr k i,v=>v= .ptr (.new k) i
 | .rel k r i sz,v=>sz<H3∧v= .ptr (.new k) (r*sz+i)
 | .elt row i,v=>∃o j all,v= .ptr o (j+i)∧rdE E R o=some all∧s7 E R row ((all.drop j).take row.length)∧((all.drop j).take row.length).all m9=true
 | .lst rows sz,v=>(rows=[]∧v= .nilSlc)∨∃o j cap ex z,v= .slc o j rows.length cap ex z∧c6H o z sz∧rows.length≤cap∧(∀row∈rows,row.length=sz)∧
   (rows=[]∨∃all,rdE E R o=some all∧a0b E R rows ((all.drop j).take (rows.length*sz))∧((all.drop j).take (rows.length*sz)).all m9=true)
 | .ext rows more sz,v=>∃o j cap ex z all,v= .slc o j rows.length cap ex z∧c6H o z sz∧rows.length+more.length≤cap∧(∀row∈rows,row.length=sz)∧(∀row∈more,row.length=sz)∧(rdE E R o=some all∨(rows=[]∧more=[]))∧
   a0b E R rows ((all.drop j).take (rows.length*sz))∧a0b E R more ((all.drop (j+rows.length*sz)).take (more.length*sz))∧((all.drop j).take ((rows.length+more.length)*sz)).all m9=true
 | .raw k i len cap ex sz,v=>sz<H3∧v= .slc (.new k) (i*sz) len cap ex sz
 | .tip k rows sz,v=>sz<H3∧∃j cap ex all,v= .slc (.new k) j rows.length cap ex sz∧rows.length≤cap∧(∀row∈rows,row.length=sz)∧R k=some all∧
   a0b E R rows ((all.drop j).take (rows.length*sz))∧((all.drop j).take (rows.length*sz)).all m9=true∧j+rows.length*sz=all.length
 | .fn f a b,v=>∃a' b',v= .fn f a' b'∧s7 E R a a'∧s7 E R b b'
 | .ifc t d,v=>∃v',v= .ifc t v'∧Rp E R d v'
 | .agg cs,v=>∃vs,v= .agg vs∧s7 E R cs vs∧vs.all m9=true
 | .tup ds,v=>∃vs,v= .tup vs∧s7 E R ds vs
def s7(E:g8)(R:Fz):List D→List AV→Prop
 | [],l=>l=[]
 |d::ds,l=>∃v vs,l=v::vs∧Rp E R d v∧s7 E R ds vs
def a0b(E:g8)(R:Fz):List (List D)→List AV→Prop
 | [],l=>l=[]
 |row::rows,l=>∃vs ws,l=vs++ws∧s7 E R row vs∧a0b E R rows ws
end
def Fz.le(R R':Fz):Prop:=∀k cs,R k=some cs→R' k=some cs
theorem Fz.le_refl(R:Fz):R.le R:=fun _ _ h=>h
theorem Fz.le_trans{R R1 R2:Fz}(h:R.le R1)(h':R1.le R2):R.le R2:=fun k cs e=>h' _ _ (h _ _ e)
theorem c3p{E:g8}{R R':Fz}(h:R.le R'){o:Id}{all:List AV}(e:rdE E R o=some all):rdE E R' o=some all:=by
 cases o with
 |old b=>exact e
 |new k=>exact h _ _ e
mutual
theorem Rp.le{E:g8}{R R':Fz}(h:R.le R'):∀(d:D) (v:AV),Rp E R d v→Rp E R' d v
 | .any,_,_=>by simp only[Rp]
 | .bool b,v,e=>by simp only[Rp]at e ⊢;exact e
 | .int k n,v,e=>by simp only[Rp]at e ⊢;exact e
 | .str s,v,e=>by simp only[Rp]at e ⊢;exact e
 | .nilPtr,v,e=>by simp only[Rp]at e ⊢;exact e
 | .nilSlc,v,e=>by simp only[Rp]at e ⊢;exact e
 | .nilMap,v,e=>by simp only[Rp]at e ⊢;exact e
 | .nilFn,v,e=>by simp only[Rp]at e ⊢;exact e
 | .nilIfc,v,e=>by simp only[Rp]at e ⊢;exact e
 | .mp k,v,e=>by simp only[Rp]at e ⊢;exact e
 | .ptr k i,v,e=>by simp only[Rp]at e ⊢;exact e
 | .rel k r i sz,v,e=>by simp only[Rp]at e ⊢;exact e
 | .elt row i,v,e=>by
  simp only[Rp]at e ⊢
  obtain⟨o,j,all,e1,e2,e3,e4⟩:=e
  exact⟨o,j,all,e1,c3p h e2,s7.le h row _ e3,e4⟩
 | .lst rows sz,v,e=>by
  simp only[Rp]at e ⊢
  rcases e with e|⟨o,j,cap,ex,z,e1,e2,e3,e4,e5⟩
  ·exact .inl e
  refine .inr ⟨o,j,cap,ex,z,e1,e2,e3,e4, ?_⟩
  rcases e5 with e5|⟨all,e5,e6,e7⟩
  ·exact .inl e5
  ·exact .inr ⟨all,c3p h e5,a0b.le h rows _ e6,e7⟩
 | .ext rows more sz,v,e=>by
  simp only[Rp]at e ⊢
  obtain⟨o,j,cap,ex,z,all,e1,e2,e3,e4,e5,e6,e7,e8,e9⟩:=e
  exact⟨o,j,cap,ex,z,all,e1,e2,e3,e4,e5,e6.imp (c3p h) id,a0b.le h rows _ e7,a0b.le h more _ e8,e9⟩
 | .raw k i len cap ex sz,v,e=>by simp only[Rp]at e ⊢;exact e
 | .tip k rows sz,v,e=>by
  simp only[Rp]at e ⊢
  obtain⟨e0,j,cap,ex,all,e1,e2,e3,e4,e5,e6,e7⟩:=e
  exact⟨e0,j,cap,ex,all,e1,e2,e3,h _ _ e4,a0b.le h rows _ e5,e6,e7⟩
 | .fn f a b,v,e=>by
  simp only[Rp]at e ⊢
  obtain⟨a',b',e1,e2,e3⟩:=e
  exact⟨a',b',e1,s7.le h a _ e2,s7.le h b _ e3⟩
 | .ifc t d,v,e=>by
  simp only[Rp]at e ⊢
  obtain⟨v',e1,e2⟩:=e
  exact⟨v',e1,Rp.le h d _ e2⟩
 | .agg cs,v,e=>by
  simp only[Rp]at e ⊢
  obtain⟨vs,e1,e2,e3⟩:=e
  exact⟨vs,e1,s7.le h cs _ e2,e3⟩
 | .tup ds,v,e=>by
  simp only[Rp]at e ⊢
  obtain⟨vs,e1,e2⟩:=e
  exact⟨vs,e1,s7.le h ds _ e2⟩
theorem s7.le{E:g8}{R R':Fz}(h:R.le R'):∀(ds:List D) (vs:List AV),s7 E R ds vs→s7 E R' ds vs
 | [],l,e=>by simp only[s7]at e ⊢;exact e
 |d::ds,l,e=>by
  simp only[s7]at e ⊢
  obtain⟨v,vs,e1,e2,e3⟩:=e
  exact⟨v,vs,e1,Rp.le h d _ e2,s7.le h ds _ e3⟩
theorem a0b.le{E:g8}{R R':Fz}(h:R.le R'):∀(rows:List (List D)) (vs:List AV),a0b E R rows vs→a0b E R' rows vs
 | [],l,e=>by simp only[a0b]at e ⊢;exact e
 |row::rows,l,e=>by
  simp only[a0b]at e ⊢
  obtain⟨vs,ws,e1,e2,e3⟩:=e
  exact⟨vs,ws,e1,s7.le h row _ e2,a0b.le h rows _ e3⟩
end
section
variable{E:g8}{R:Fz}
theorem s7.length:∀ {ds:List D} {vs:List AV},s7 E R ds vs→vs.length=ds.length
 | [],l,e=>by simp only[s7]at e;rw[e];rfl
 |d::ds,l,e=>by
  simp only[s7]at e
  obtain⟨v,vs,rfl,e2,e3⟩:=e
  rw[List.length_cons,List.length_cons,s7.length e3]
theorem A7:s7 E R [] []:=by simp only[s7]
theorem q9{d:D}{v:AV}{ds:List D}{vs:List AV}(h:Rp E R d v)(hs:s7 E R ds vs):s7 E R (d::ds) (v::vs):=by simp only[s7];exact⟨v,vs,rfl,h,hs⟩
theorem a2N:∀ {ds:List D} {vs:List AV},s7 E R ds vs→∀ {i:Nat} {d:D},ds[i]? =some d→∃v,vs[i]? =some v∧Rp E R d v
 | [],l,e,i,d,h=>by cases h
 |x::ds,l,e,i,d,h=>by
  simp only[s7]at e
  obtain⟨v,vs,rfl,e2,e3⟩:=e
  cases i with
  |zero=>cases h;exact⟨v,rfl,e2⟩
  |succ i=>exact a2N e3 (i:=i) h
theorem a3f:∀ {ds:List D} {vs:List AV},vs.length=ds.length→(∀(i:Nat) (d:D) (v:AV),ds[i]? =some d→vs[i]? =some v→Rp E R d v)→s7 E R ds vs
 | [],[],_,_=>A7
 | [],_::_,h,_=>by cases h
 |_::_,[],h,_=>by cases h
 |d::ds,v::vs,hl,h=>q9 (h 0 d v rfl rfl) (a3f (by simpa using hl) fun i d v h1 h2=>h (i+1) d v h1 h2)
theorem s7.set{ds:List D}{vs:List AV}(h:s7 E R ds vs)(i:Nat){d:D}{v:AV}(hd:Rp E R d v):s7 E R (ds.set i d) (vs.set i v):=by
 refine a3f (by rw[List.length_set,List.length_set,h.length]) fun j d' v' h1 h2=> ?_
 rw[List.getElem?_set]at h1 h2
 have hl:=h.length
 by_cases e:i=j
 ·rw[if_pos e]at h1 h2
  split at h1
  ·split at h2
   ·cases h1;cases h2;exact hd
   ·cases h2
  ·cases h1
 ·rw[if_neg e]at h1 h2
  obtain⟨w,g1,g2⟩:=a2N h h1
  rw[h2]at g1;cases g1;exact g2
theorem s7.append{ds ds':List D}{vs vs':List AV}(h:s7 E R ds vs)(h':s7 E R ds' vs'):s7 E R (ds++ds') (vs++vs'):=by
 induction ds generalizing vs with
 |nil=>simp only[s7]at h;subst h;exact h'
 |cons d ds ih=>
  simp only[s7]at h
  obtain⟨v,vs,rfl,e2,e3⟩:=h
  exact q9 e2 (ih e3)
theorem s7.drop{ds:List D}{vs:List AV}(h:s7 E R ds vs)(n:Nat):s7 E R (ds.drop n) (vs.drop n):=
 a3f (by rw[List.length_drop,List.length_drop,h.length]) fun i d v h1 h2=>by
  rw[List.getElem?_drop]at h1 h2
  obtain⟨w,g1,g2⟩:=a2N h h1
  rw[h2]at g1;cases g1;exact g2
theorem s7.take{ds:List D}{vs:List AV}(h:s7 E R ds vs)(n:Nat):s7 E R (ds.take n) (vs.take n):=
 a3f (by rw[List.length_take,List.length_take,h.length]) fun i d v h1 h2=>by
  rw[List.getElem?_take]at h1 h2
  split at h1
  ·rename_i hi
   rw[if_pos hi]at h2
   obtain⟨w,g1,g2⟩:=a2N h h1
   rw[h2]at g1;cases g1;exact g2
  ·cases h1
theorem a1H:∀ {as bs:List D} {vs:List AV},s7 E R (as++bs) vs→∃v w,vs=v++w∧s7 E R as v∧s7 E R bs w
 | [],bs,vs,h=>⟨[],vs,rfl,A7,h⟩
 |a::as,bs,vs,h=>by
  simp only[List.cons_append,s7]at h
  obtain⟨v,vs,rfl,e2,e3⟩:=h
  obtain⟨v',w,rfl,h1,h2⟩:=a1H e3
  exact⟨v::v',w,rfl,q9 e2 h1,h2⟩
theorem E5:∀ {rows:List (List D)} {vs:List AV},a0b E R rows vs↔s7 E R rows.flatten vs
 | [],vs=>by simp only[a0b,List.flatten_nil,s7]
 |row::rows,vs=>by
  simp only[a0b,List.flatten_cons]
  constructor
  ·rintro⟨v,w,rfl,h1,h2⟩
   exact h1.append (E5.1 h2)
  ·intro h
   obtain⟨v,w,rfl,h1,h2⟩:=a1H h
   exact⟨v,w,rfl,h1,E5.2 h2⟩
theorem W8:Rp E R b6 s8:=by simp only[b6,Rp];exact⟨[],rfl,A7⟩
theorem a7C{ds:List D}{vs:List AV}(h:s7 E R ds vs)(t:Nat):Rp E R (ds.getD t b6) (vs.getD t s8):=by
 rw[List.getD_eq_getElem?_getD,List.getD_eq_getElem?_getD]
 cases e:ds[t]? with
 |none=>
  have:vs[t]? =none:=List.getElem?_eq_none (by rw[h.length];exact List.getElem?_eq_none_iff.1 e)
  rw[this];exact W8
 |some d=>
  obtain⟨v,g1,g2⟩:=a2N h e
  rw[g1];exact g2
end
theorem r6{α:Type}{rows:List (List α)}{sz:Nat}(h:∀row∈rows,row.length=sz):rows.flatten.length=rows.length*sz:=by
 induction rows with
 |nil=>simp
 |cons r rs ih=>
  rw[List.flatten_cons,List.length_append,h r List.mem_cons_self,ih fun x hx=>h x (List.mem_cons_of_mem _ hx),List.length_cons,Nat.succ_mul,Nat.add_comm]
theorem a0T{α:Type}{rows:List (List α)}{sz:Nat}(h:∀row∈rows,row.length=sz)(n:Nat):rows.flatten.drop (n*sz)=(rows.drop n).flatten:=by
 induction rows generalizing n with
 |nil=>simp
 |cons r rs ih=>
  cases n with
  |zero=>simp
  |succ n=>
   have hr:=h r List.mem_cons_self
   rw[List.flatten_cons,List.drop_succ_cons, ←ih (fun x hx=>h x (List.mem_cons_of_mem _ hx)) n,List.drop_append,List.drop_of_length_le (by rw[hr,Nat.succ_mul];omega),List.nil_append,hr,Nat.succ_mul,Nat.add_sub_cancel]
theorem Z1{α:Type}{rows:List (List α)}{sz:Nat}(h:∀row∈rows,row.length=sz)(n:Nat):rows.flatten.take (n*sz)=(rows.take n).flatten:=by
 induction rows generalizing n with
 |nil=>simp
 |cons r rs ih=>
  cases n with
  |zero=>simp
  |succ n=>
   have hr:=h r List.mem_cons_self
   rw[List.flatten_cons,List.take_succ_cons,List.flatten_cons, ←ih (fun x hx=>h x (List.mem_cons_of_mem _ hx)) n,List.take_append,List.take_of_length_le (by rw[hr,Nat.succ_mul];omega),hr,Nat.succ_mul,Nat.add_sub_cancel]
theorem a8j{α:Type}{rows:List (List α)}{sz:Nat}(h:∀row∈rows,row.length=sz){r:Nat}{row:List α}(hr:rows[r]? =some row):(rows.flatten.drop (r*sz)).take sz=row:=by
 rw[a0T h]
 have hlt:=(List.getElem?_eq_some_iff.1 hr).1
 have e:rows.drop r=row::rows.drop (r+1):=by
  rw[List.drop_eq_getElem_cons hlt]
  congr 1
  exact(List.getElem?_eq_some_iff.1 hr).2
 rw[e,List.flatten_cons,List.take_append,List.take_of_length_le (by rw[h row (List.mem_of_getElem? hr)];omega),h row (List.mem_of_getElem? hr),Nat.sub_self,List.take_zero,List.append_nil]
structure A2 where
 sz:Nat
 rows:List (List D)
 acs:List AV
abbrev b5:=Nat→Option A2
def b5.set(S:b5)(k:Nat)(o:A2):b5:=fun j=>if j=k then some o else S j
def b5.erase(S:b5)(k:Nat):b5:=fun j=>if j=k then none else S j
def b5.none:b5:=fun _=>Option.none
def b5.le(S S':b5):Prop:=∀k o,S k=some o→S' k=some o
theorem b5.set_same(S:b5)(k:Nat)(o:A2):(S.set k o) k=some o:=if_pos rfl
theorem b5.set_ne(S:b5)(k:Nat)(o:A2){j:Nat}(h:j≠k):(S.set k o) j=S j:=if_neg h
theorem b5.erase_same(S:b5)(k:Nat):(S.erase k) k=Option.none:=if_pos rfl
theorem b5.erase_ne(S:b5)(k:Nat){j:Nat}(h:j≠k):(S.erase k) j=S j:=if_neg h
theorem b5.le_refl(S:b5):S.le S:=fun _ _ h=>h
theorem b5.le_trans{S S1 S2:b5}(h:S.le S1)(h':S1.le S2):S.le S2:=fun k o e=>h' _ _ (h _ _ e)
theorem b5.le_set{S S':b5}(h:S.le S'){k:Nat}{o:A2}(hk:S k=Option.none):S.le (S'.set k o):=fun j x e=>by
 rw[b5.set_ne]
 ·exact h _ _ e
 ·rintro rfl;rw[hk]at e;cases e
theorem b5.le_erase{S S':b5}(h:S.le S'){k:Nat}(hk:S k=Option.none):S.le (S'.erase k):=fun j x e=>by
 rw[b5.erase_ne]
 ·exact h _ _ e
 ·rintro rfl;rw[hk]at e;cases e
theorem b5.erase_le(S:b5)(k:Nat):(S.erase k).le S:=fun j x e=>by
 unfold b5.erase at e
 split at e
 ·cases e
 ·exact e
theorem b5.set_set(S:b5)(k:Nat)(a b:A2):(S.set k a).set k b=S.set k b:=by
 funext j;unfold b5.set;split<;>rfl
theorem b5.set_comm(S:b5){k l:Nat}(h:k≠l)(a b:A2):(S.set k a).set l b=(S.set l b).set k a:=by
 funext j;unfold b5.set
 by_cases h1:j=l
 ·subst h1;rw[if_pos rfl,if_neg (Ne.symm h),if_pos rfl]
 ·rw[if_neg h1,if_neg h1]
theorem b5.erase_set(S:b5)(k:Nat)(a:A2)(h:S k=Option.none):(S.set k a).erase k=S:=by
 funext j;unfold b5.erase b5.set
 by_cases h1:j=k
 ·subst h1;rw[if_pos rfl,h]
 ·rw[if_neg h1,if_neg h1]
def b7T(e:AV×AV×Nat):AV:= .tup [e.1,e.2.1, .int .i64 e.2.2]
def RpE(E:g8)(R:Fz):List (List D)→List (AV×AV×Nat)→Prop
 | [],es=>es=[]
 |row::rows,es=>∃kd vd e es',row=[kd,vd, .int .i64 (e:AV×AV×Nat).2.2]∧es=e::es'∧Rp E R kd e.1∧Rp E R vd e.2.1∧RpE E R rows es'
def a8u(E:g8)(R:Fz)(o:A2)(x:Option G3):Prop:=
 (∃pre,x=some (.cells o.acs true pre))∧o.acs.all m9=true∧(∀row∈o.rows,row.length=o.sz)∧s7 E R o.rows.flatten o.acs
def b7q(E:g8)(R:Fz)(o:A2)(x:Option G3):Prop:=
 ∃es clock rows,o.sz=H3∧o.rows=[]::[]::rows∧o.acs=es.map b7T∧x=some (.map es clock)∧RpE E R rows es∧(es.map (·.2.2)).Nodup∧∀e∈es,e.2.2<clock
theorem RpE.le{E:g8}{R R':Fz}(h:R.le R'):∀ {rows:List (List D)} {es:List (AV×AV×Nat)},RpE E R rows es→RpE E R' rows es
 | [],es,e=>e
 |row::rows,es,⟨kd,vd,x,es',a,b,c,d,f⟩=>⟨kd,vd,x,es',a,b,Rp.le h _ _ c,Rp.le h _ _ d,RpE.le h f⟩
theorem a8u.le{E:g8}{R R':Fz}(h:R.le R'){o:A2}{x:Option G3}(c:a8u E R o x):a8u E R' o x:=⟨c.1,c.2.1,c.2.2.1,s7.le h _ _ c.2.2.2⟩
theorem b7q.le{E:g8}{R R':Fz}(h:R.le R'){o:A2}{x:Option G3}(c:b7q E R o x):b7q E R' o x:=
 let ⟨es,cl,rows,a,b,c,d,e,f⟩:=c
 ⟨es,cl,rows,a,b,c,d,e.le h,f⟩
def d0z(R:Fz)(k:Nat)(o:A2)(x:Option G3):Prop:=o.sz=b9d∧o.rows=[[],[]]∧∃cs pre,R k=some cs∧x=some (.cells cs true pre)
def d1w(R:Fz)(k:Nat)(o:A2)(x:Option G3):Prop:=o.sz=b4m∧R k=none∧∃m sr rows since seen last,o.rows=[.mp m]::sr::rows∧x=some (.iter m since seen last)
def a7j(E:g8)(R:Fz)(S:b5)(H:AHeap)(j m:Nat)(sr:List D)(rows:List (List D))(acs:List AV):Prop:=
 S m=none∧∃es clock since seen last,H.get j=some (.iter m since seen last)∧H.get m=some (.map es clock)∧acs=es.map b7T∧sr=seen.map (fun n:Nat=> .int .i64 (n:Int))∧RpE E R rows es∧(es.map (·.2.2)).Nodup∧(∀e∈es,e.2.2<clock∧e.2.2<since)∧(seen≠[]→last=clock)
theorem a7j.le{E:g8}{R R':Fz}(h:R.le R'){S:b5}{H:AHeap}{j m:Nat}{sr:List D}{rows:List (List D)}{acs:List AV}(w:a7j E R S H j m sr rows acs):a7j E R' S H j m sr rows acs:=
 let ⟨a,es,cl,si,se,la,b,c,d,e,f,g⟩:=w
 ⟨a,es,cl,si,se,la,b,c,d,e,f.le h,g⟩
structure s0 (E:g8) (R:Fz) (S:b5) (H:AHeap):Prop where
 fine:B1 H
 frozen:∀k cs,R k=some cs→∃w pre,H.get k=some (.cells cs w pre)
 own:∀k o,S k=some o→(R k=none∧(a8u E R o (H.get k)∨b7q E R o (H.get k)))∨d0z R k o (H.get k)∨d1w R k o (H.get k)
 safe:∀k o,S k=some o→∀p∈a8a H k,R p=none
 walks:∀j o,S j=some o→o.sz=b4m→∀m sr rows,o.rows=[.mp m]::sr::rows→a7j E R S H j m sr rows o.acs
section
variable{E:g8}{R:Fz}{S:b5}{H:AHeap}
theorem s0.cells(h:s0 E R S H){k:Nat}{o:A2}(hk:S k=some o)(hc:o.sz<H3∨∃cs,o.rows=[cs]):
  R k=none∧(∃pre,H.get k=some (.cells o.acs true pre))∧o.acs.all m9=true∧(∀row∈o.rows,row.length=o.sz)∧s7 E R o.rows.flatten o.acs:=by
 rcases h.own k o hk with ⟨h1,h2|⟨es,cl,rows,a,b,_⟩⟩|⟨a,b,_⟩|⟨a,_,m,sr,rows,_,_,_,b,_⟩
 ·exact⟨h1,h2⟩
 ·rcases hc with hc|⟨cs,hc⟩
  ·rw[a]at hc;exact absurd hc (by decide)
  ·rw[b]at hc;cases hc
 ·rcases hc with hc|⟨cs,hc⟩
  ·rw[a]at hc;exact absurd hc (by decide)
  ·rw[b]at hc;cases hc
 ·rcases hc with hc|⟨cs,hc⟩
  ·rw[a]at hc;exact absurd hc (by decide)
  ·rw[b]at hc;cases hc
theorem s0.tip(h:s0 E R S H){k:Nat}{o:A2}(hk:S k=some o)(hc:o.sz=b9d)(hr:o.rows=[[],[]]):∃cs pre,R k=some cs∧H.get k=some (.cells cs true pre):=by
 rcases h.own k o hk with ⟨h1,⟨⟨pre,h2⟩,h3,h4,h5⟩|⟨es,cl,rows,a,b,_⟩⟩|⟨a,b,c⟩|⟨a,_⟩
 ·have:=h4 [] (by rw[hr];exact List.mem_cons_self)
  rw[hc]at this
  cases this
 ·rw[a]at hc;exact absurd hc (by decide)
 ·exact c
 ·rw[a]at hc;exact absurd hc (by decide)
theorem s0.alive(h:s0 E R S H){k:Nat}{o:A2}(hk:S k=some o):∃x,H.get k=some x∧a7T x=true:=by
 rcases h.own k o hk with ⟨_,⟨⟨pre,h2⟩,_⟩|⟨es,cl,rows,_,_,_,h2,_⟩⟩|⟨_,_,cs,pre,_,h2⟩|⟨_,_,m,sr,rows,si,se,la,_,h2⟩
 ·exact⟨_,h2,rfl⟩
 ·exact⟨_,h2,rfl⟩
 ·exact⟨_,h2,rfl⟩
 ·exact⟨_,h2,rfl⟩
theorem a7j.of{S':b5}{H':AHeap}{j m:Nat}{sr:List D}{rows:List (List D)}{acs:List AV}(w:a7j E R S H j m sr rows acs)(hS:S m=none→(∃es cl,H.get m=some (.map es cl))→S' m=none)(hj:H'.get j=H.get j)(hm:S m=none→(∃es cl,H.get m=some (.map es cl))→H'.get m=H.get m):a7j E R S' H' j m sr rows acs:=
 let ⟨a,es,cl,si,se,la,b,c,d,e,f,g⟩:=w
 ⟨hS a ⟨es,cl,c⟩,es,cl,si,se,la,by rw[hj];exact b,by rw[hm a ⟨es,cl,c⟩];exact c,d,e,f,g⟩
theorem a8M{S S':b5}(hs:S'.le S){m:Nat}(h:S m=none):S' m=none:=by
 cases e:S' m with
 |none=>rfl
 |some o=>rw[hs _ _ e]at h;cases h
theorem s0.less(h:s0 E R S H){S':b5}(hs:S'.le S):s0 E R S' H:=⟨h.fine,h.frozen,fun k o e=>h.own k o (hs _ _ e),fun k o e=>h.safe k o (hs _ _ e),fun j o e hz m sr rows hr=>(h.walks j o (hs _ _ e) hz m sr rows hr).of (fun a _=>a8M hs a) rfl fun _ _=>rfl⟩
theorem s0.fresh(h:s0 E R S H):R H.next=none∧S H.next=none:=by
 have g:=h.fine.above H.next (Nat.le_refl _)
 constructor
 ·cases e:R H.next with
  |none=>rfl
  |some cs=>obtain⟨_,_,h1⟩:=h.frozen _ _ e;rw[g]at h1;cases h1
 ·cases e:S H.next with
  |none=>rfl
  |some o=>obtain⟨_,h1,_⟩:=h.alive e;rw[g]at h1;cases h1
theorem c1t{H H':AHeap}{k:Nat}(h:H'.get k=H.get k):a8a H' k=a8a H k:=by unfold a8a;rw[h]
theorem s0.stays(h:s0 E R S H){H':AHeap}(F':B1 H')(hs:b8y H H'):s0 E R S H':=by
 have hg:∀k o,S k=some o→H'.get k=H.get k:=fun k o e=>by
  obtain⟨x,h1,h2⟩:=h.alive e
  rw[hs _ _ h1,h1]
 exact⟨F',fun k cs e=>let ⟨w,pre,g⟩:=h.frozen k cs e;⟨w,pre,hs _ _ g⟩,fun k o e=>by rw[hg k o e];exact h.own k o e,fun k o e=>by rw[c1t (hg k o e)];exact h.safe k o e,fun j o e hz m sr rows hr=>(h.walks j o e hz m sr rows hr).of (fun a _=>a) (hg j o e) fun _ ⟨es,cl,c⟩=>by rw[hs _ _ c,c]⟩
theorem s0.but(h:s0 E R S H){H':AHeap}{b:Nat}(F':B1 H')(hs:But b H H'){ob:A2}(hS:S b=some ob)(hb:∀cs,R b=some cs→∃w pre,H'.get b=some (.cells cs w pre)):s0 E R (S.erase b) H':=by
 have hg:∀k o,(S.erase b) k=some o→S k=some o∧H'.get k=H.get k:=fun k o e=>by
  unfold b5.erase at e
  split at e
  ·cases e
  ·rename_i hk
   obtain⟨x,h1,h2⟩:=h.alive e
   exact⟨e,by rw[hs _ _ (.inl h2) hk h1,h1]⟩
 refine⟨F',fun k cs e=> ?_,fun k o e=> ?_,fun k o e=> ?_,fun j o e hz m sr rows hr=> ?_⟩
 ·by_cases hk:k=b
  ·subst hk;exact hb cs e
  ·obtain⟨w,pre,g⟩:=h.frozen k cs e
   refine⟨w,pre,hs _ _ (.inr fun hp=> ?_) hk g⟩
   have:=h.safe b ob hS k hp
   rw[e]at this;cases this
 ·obtain⟨e1,e2⟩:=hg k o e;rw[e2];exact h.own k o e1
 ·obtain⟨e1,e2⟩:=hg k o e;rw[c1t e2];exact h.safe k o e1
 ·obtain⟨e1,e2⟩:=hg j o e
  refine(h.walks j o e1 hz m sr rows hr).of (fun a _=>a8M (b5.erase_le S b) a) e2 fun a ⟨es,cl,c⟩=> ?_
  rw[hs _ _ (.inl rfl) (fun e'=>by rw[e',hS]at a;cases a) c,c]
theorem s0.put(h:s0 E R S H){k:Nat}{o:A2}(hr:R k=none){pre:List Nat}(hg:H.get k=some (.cells o.acs true pre))(hp:∀p∈pre,R p=none)(hsc:o.acs.all m9=true)(hl:∀row∈o.rows,row.length=o.sz)(hR:s7 E R o.rows.flatten o.acs):s0 E R (S.set k o) H:=
 ⟨h.fine,h.frozen,fun j x e=>by
  unfold b5.set at e
  split at e
  ·rename_i hj;subst hj;cases e;exact .inl ⟨hr, .inl ⟨⟨pre,hg⟩,hsc,hl,hR⟩⟩
  ·exact h.own j x e,fun j x e=>by
  unfold b5.set at e
  split at e
  ·rename_i hj;subst hj;rw[L5 hg];exact hp
  ·exact h.safe j x e,fun j x e hz m sr rows hr'=>by
  unfold b5.set at e
  split at e
  ·rename_i hj
   cases e
   have:=hl _ (by rw[hr'];exact List.mem_cons_self)
   rw[hz]at this
   cases this
  ·refine(h.walks j x e hz m sr rows hr').of (fun a ⟨es,cl,c⟩=> ?_) rfl fun _ _=>rfl
   rw[b5.set_ne]
   ·exact a
   ·rintro rfl;rw[hg]at c;cases c⟩
def b1Y(S:b5)(k:Nat):Prop:=∀j o,S j=some o→o.sz=b4m→∀m sr rows,o.rows=[.mp m]::sr::rows→m≠k
theorem s0.unwalked(h:s0 E R S H){k:Nat}{o:A2}(hk:S k=some o):b1Y (S.erase k) k:=fun j x e hz m sr rows hr hm=>by
 have e1:=b5.erase_le S k _ _ e
 have:=(h.walks j x e1 hz m sr rows hr).1
 rw[hm,hk]at this
 cases this
theorem s0.unwalkedNew(h:s0 E R S H):b1Y S H.next:=fun j x e hz m sr rows hr hm=>by
 obtain⟨_,es,cl,_,_,_,_,c,_⟩:=h.walks j x e hz m sr rows hr
 rw[hm,h.fine.above _ (Nat.le_refl _)]at c
 cases c
theorem s0.putM(h:s0 E R S H){k:Nat}{o:A2}(hr:R k=none)(hu:b1Y S k)(hm:b7q E R o (H.get k)):s0 E R (S.set k o) H:=
 ⟨h.fine,h.frozen,fun j x e=>by
  unfold b5.set at e
  split at e
  ·rename_i hj;subst hj;cases e;exact .inl ⟨hr, .inr hm⟩
  ·exact h.own j x e,fun j x e=>by
  unfold b5.set at e
  split at e
  ·rename_i hj
   subst hj
   obtain⟨es,cl,_,_,_,_,g,_⟩:=hm
   unfold a8a;rw[g];exact fun p hp=>by cases hp
  ·exact h.safe j x e,fun j x e hz m sr rows hr'=>by
  unfold b5.set at e
  split at e
  ·rename_i hj
   cases e
   obtain⟨_,_,_,g,_⟩:=hm
   rw[hz]at g
   exact absurd g (by decide)
  ·refine(h.walks j x e hz m sr rows hr').of (fun a ⟨es,cl,c⟩=> ?_) rfl fun _ _=>rfl
   rw[b5.set_ne]
   ·exact a
   ·exact hu j x e hz m sr rows hr'⟩
theorem s0.freeze(h:s0 E R S H){k:Nat}{o:A2}(hk:S k=some o)(hc:o.sz<H3∨∃cs,o.rows=[cs]):s0 E (fun j=>if j=k then some o.acs else R j) (S.erase k) H∧R.le fun j=>if j=k then some o.acs else R j:=by
 obtain⟨h1,⟨pre,h2⟩,h3,h4,h5⟩:=h.cells hk hc
 have hle:R.le fun j=>if j=k then some o.acs else R j:=fun j cs e=>by
  show(if j=k then some o.acs else R j)=some cs
  rw[if_neg]
  ·exact e
  ·rintro rfl;rw[h1]at e;cases e
 refine⟨⟨h.fine,fun j cs e=> ?_,fun j x e=> ?_,fun j x e p hp=> ?_,fun j x e hz m sr rows hr=>((h.walks j x (b5.erase_le S k _ _ e) hz m sr rows hr).of (fun a _=>a8M (b5.erase_le S k) a) rfl fun _ _=>rfl).le hle⟩,hle⟩
 ·replace e:(if j=k then some o.acs else R j)=some cs:=e
  split at e
  ·rename_i hj;subst hj;cases e;exact⟨true,pre,h2⟩
  ·exact h.frozen j cs e
 ·unfold b5.erase at e
  split at e
  ·cases e
  ·rename_i hj
   rcases h.own j x e with ⟨g1,g2⟩|⟨a,b,cs,p,c,d⟩|⟨a,g1,b⟩
   ·exact .inl ⟨by show(if j=k then some o.acs else R j)=none;rw[if_neg hj];exact g1,g2.imp (a8u.le hle) (b7q.le hle)⟩
   ·exact .inr (.inl ⟨a,b,cs,p,hle _ _ c,d⟩)
   ·exact .inr (.inr ⟨a,by show(if j=k then some o.acs else R j)=none;rw[if_neg hj];exact g1,b⟩)
 ·unfold b5.erase at e
  split at e
  ·cases e
  ·show(if p=k then some o.acs else R p)=none
   rw[if_neg]
   ·exact h.safe j x e p hp
   ·rintro rfl
    obtain⟨y,y1,_⟩:=h.alive e
    have hp':p∈s9 y:=by unfold a8a at hp;rw[y1]at hp;exact hp
    have:=h.fine.kin j p y _ y1 hp' h2
    cases this
theorem s0.toTip(h:s0 E R S H){k:Nat}{o:A2}(hk:S k=some o)(hc:o.sz<H3∨∃cs,o.rows=[cs])(acs:List AV):s0 E (fun j=>if j=k then some o.acs else R j) (S.set k ⟨b9d,[[],[]],acs⟩) H∧R.le fun j=>if j=k then some o.acs else R j:=by
 obtain⟨h1,h2⟩:=h.freeze hk hc
 obtain⟨_,⟨pre,g⟩,_⟩:=h.cells hk hc
 refine⟨⟨h1.fine,h1.frozen,fun j x e=> ?_,fun j x e=> ?_,fun j x e hz m sr rows hr=> ?_⟩,h2⟩
 ·unfold b5.set at e
  split at e
  ·rename_i hj;subst hj;cases e;exact .inr (.inl ⟨rfl,rfl,o.acs,pre,if_pos rfl,g⟩)
  ·rename_i hj;exact h1.own j x (by rw[b5.erase_ne _ _ hj];exact e)
 ·unfold b5.set at e
  split at e
  ·rename_i hj
   subst hj
   intro p hp
   show(if p=j then some o.acs else R p)=none
   rw[if_neg]
   ·exact h.safe j o hk p hp
   ·rintro rfl
    rw[L5 g]at hp
    exact h.fine.self p _ p g hp rfl
  ·rename_i hj;exact h1.safe j x (by rw[b5.erase_ne _ _ hj];exact e)
 ·unfold b5.set at e
  split at e
  ·rename_i hj
   cases e
   cases hr
  ·rename_i hj
   have e':(S.erase k) j=some x:=by rw[b5.erase_ne _ _ hj];exact e
   refine(h1.walks j x e' hz m sr rows hr).of (fun a _=> ?_) rfl fun _ _=>rfl
   rw[b5.set_ne]
   ·exact(h.walks j x (b5.erase_le S k _ _ e') hz m sr rows hr).1
   ·exact h.unwalked hk j x e' hz m sr rows hr
theorem s0.start{H:AHeap}(F:B1 H):s0 E (fun _=>Option.none) b5.none H:=⟨F,fun k cs e=>(by cases e),fun k o e=>(by cases e),fun k o e=>(by cases e),fun k o e=>(by cases e)⟩
end
end
end Go.Am
end
