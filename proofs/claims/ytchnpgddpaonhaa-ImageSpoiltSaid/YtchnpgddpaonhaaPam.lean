/-
  ImageSpoiltSaid: part Pam of its proof.
-/
import Derived.Test.YtchnpgddpaonhaaPal
set_option linter.unusedVariables false
set_option linter.unusedSimpArgs false
set_option maxRecDepth 100000
section
namespace Go.Am
section
section
variable{P:Program}{E:m6}{w0:a5P}
theorem vF(r:Option AV):c7R (some false) r=some A0:=(rfl)
theorem cT(x y:Prop):c5X (.bool true) x y=x:=(rfl)
theorem dT{p:Prop}[Decidable p](h:p):decide p=true:=decide_eq_true h
end
theorem b1k:∀(vs cs:List AV) (i:Nat),(E4 cs i vs).length=cs.length
 | [],cs,i=>rfl
 |v::vs,cs,i=>by rw[E4,b1k vs,List.length_set]
theorem L8.stores{H:AHeap}(F:L8 H){b:Nat}{all:List AV}{pre:List Nat}(h:H.get b=some (.cells all true pre)){n:Nat}{vs:List AV}(h0:vs≠[])(hn:n+vs.length≤all.length)(hx:vs.all w8=true):
  ∃H',E1 H (.new b) n vs=some H'∧H'.get b=some (.cells (E4 all n vs) true [])∧But b H H'∧H'.next=H.next∧L8 H':=by
 cases vs with
 |nil=>exact(h0 rfl).elim
 |cons x xs=>
 have hg:∀j,((H.killAll pre).set b (.cells (E4 all n (x::xs)) true [])).get j=if b=j then some (.cells (E4 all n (x::xs)) true []) else if j∈pre then none else H.get j:=by
  intro j
  rw[a3Z,get_killAll]
 have hlen:n<all.length:=by simp at hn;omega
 obtain⟨H1,e1,e2,e3,e4,F1⟩:=F.store h hlen (x:= .bool true) rfl
 rw[a5K h n _ [] (by simp;omega) (by rfl)]at e1
 refine⟨_,a5K h n x xs (by simpa using hn) hx,(hg b).trans (if_pos rfl), ?_,by rw[next_set,next_killAll], ?_⟩
 ·intro k all' pre' hk hgk
  refine(hg k).trans ?_
  rw[if_neg (Ne.symm hk),if_neg]
  ·exact hgk
  ·intro hp
   have:=F.kin b k _ _ h hp hgk
   cases this
 ·have key:∀j o,((H.killAll pre).set b (.cells (E4 all n (x::xs)) true [])).get j=some o→(b=j∧o= .cells (E4 all n (x::xs)) true [])∨(b≠j∧H.get j=some o):=by
   intro j o hj
   rw[hg]at hj
   split at hj
   ·rename_i e;cases hj;exact .inl ⟨e,rfl⟩
   ·rename_i e
    split at hj
    ·cases hj
    ·exact .inr ⟨e,hj⟩
  have hnx:((H.killAll pre).set b (.cells (E4 all n (x::xs)) true [])).next=H.next:=by rw[next_set,next_killAll]
  refine⟨?_, ?_, ?_, ?_⟩
  ·intro k hk
   rw[hnx]at hk
   have hkb:b≠k:=by have:=F.lt h;omega
   refine(hg k).trans ?_
   rw[if_neg hkb,F.above k hk]
   split<;>rfl
  ·intro k p o op hk hp ho
   rcases key k o hk with ⟨rfl,rfl⟩|⟨hbk,hk⟩
   ·cases hp
   ·rcases key p op ho with ⟨rfl,rfl⟩|⟨hbp,ho⟩
    ·have:=F.kin k b _ _ hk hp h
     cases this
    ·exact F.kin k p o op hk hp ho
  ·intro k o p hk hp
   rcases key k o hk with ⟨rfl,rfl⟩|⟨hbk,hk⟩
   ·cases hp
   ·exact F.self k o p hk hp
  ·intro k o p hk hp
   rw[hnx]
   rcases key k o hk with ⟨rfl,rfl⟩|⟨hbk,hk⟩
   ·cases hp
   ·exact F.below k o p hk hp
theorem L8.growN{E:m6}{H:AHeap}(F:L8 H){k i n cap sz:Nat}{ex:Bool}{all:List AV}{pre:List Nat}(h:H.get k=some (.cells all true pre))(hl:i+n*sz≤all.length){bytes m:Nat}(news:List AV)(hm:news.length=m*sz)(h0:m≠0)(hsc:news.all w8=true)
  (hb:0<bytes∧(2*(n+m)+768)*bytes≤2^47):
  ∃H' q,Z6 E H sz bytes (.slc (.new k) i n cap ex sz) m news=some (.slc (.new H.next) 0 (n+m) (n+m) false sz,H')∧H'.next=H.next+1∧H'.get H.next=some (.cells ((all.drop i).take (n*sz)++news) true q)∧But k H H'∧L8 H':=by
 have hklt:=F.lt h
 unfold Z6
 rw[if_pos hm]
 simp only
 rw[if_neg h0,if_pos hb]
 by_cases hx:(ex&&decide (cap<n+m))=true
 ·rw[if_pos hx,b3E E h,if_pos (by omega)]
  obtain⟨a,b,c,d⟩:=F.newCells ((all.drop i).take (n*sz)++news)
  refine⟨_,[],rfl,c,a,fun j al pr _ hj=>b j al pr hj,d⟩
 ·rw[if_neg hx]
  simp only[h]
  rw[if_pos ⟨by trivial,by omega,hsc⟩]
  by_cases hc:i+n*sz<all.length
  ·rw[if_pos hc]
   refine⟨_,[k],rfl, ?_, ?_, ?_, ?_⟩
   ·rw[next_new,next_set,next_killAll]
   ·rw[get_new,next_set,next_killAll,if_pos rfl,List.drop_take,Nat.add_sub_cancel_left]
   ·intro j al pr hj hgj
    have:=F.lt hgj
    rw[get_new,next_set,next_killAll,if_neg (by omega),a3Z,if_neg (Ne.symm hj),get_killAll,if_neg]
    ·exact hgj
    ·intro hp
     have:=F.kin k j _ _ h hp hgj
     cases this
   ·have key:∀j o,((((H.killAll pre).set k (.cells (all.take (i+n*sz)) false [])).new (.cells ((all.take (i+n*sz)).drop i++news) true [k]))).get j=some o→
      (j=H.next∧D9 o=[k])∨(j=k∧o= .cells (all.take (i+n*sz)) false [])∨(j≠H.next∧j≠k∧H.get j=some o):=by
     intro j o hj
     rw[get_new,next_set,next_killAll,a3Z,get_killAll]at hj
     split at hj
     ·rename_i e;cases hj;exact .inl ⟨e.symm,rfl⟩
     ·rename_i e
      split at hj
      ·rename_i e2;cases hj;exact .inr (.inl ⟨e2.symm,rfl⟩)
      ·rename_i e2
       split at hj
       ·cases hj
       ·exact .inr (.inr ⟨Ne.symm e,Ne.symm e2,hj⟩)
    refine⟨?_, ?_, ?_, ?_⟩
    ·intro j hj
     rw[next_new,next_set,next_killAll]at hj
     rw[get_new,next_set,next_killAll,if_neg (by omega),a3Z,if_neg (by omega),get_killAll,F.above j (by omega)]
     split<;>rfl
    ·intro j p o op hj hp ho
     rcases key p op ho with ⟨rfl,_⟩|⟨rfl,rfl⟩|⟨_,hpk,ho⟩
     ·rcases key j o hj with ⟨rfl,e⟩|⟨rfl,rfl⟩|⟨_,_,hj⟩
      ·rw[e]at hp;simp at hp;omega
      ·cases hp
      ·have:=F.below j o _ hj hp;omega
     ·rfl
     ·rcases key j o hj with ⟨rfl,e⟩|⟨rfl,rfl⟩|⟨_,_,hj⟩
      ·rw[e]at hp;simp at hp;exact(hpk hp).elim
      ·cases hp
      ·exact F.kin j p o op hj hp ho
    ·intro j o p hj hp
     rcases key j o hj with ⟨rfl,e⟩|⟨rfl,rfl⟩|⟨_,_,hj⟩
     ·rw[e]at hp;simp at hp;omega
     ·cases hp
     ·exact F.self j o p hj hp
    ·intro j o p hj hp
     rw[next_new,next_set,next_killAll]
     rcases key j o hj with ⟨rfl,e⟩|⟨rfl,rfl⟩|⟨_,_,hj⟩
     ·rw[e]at hp;simp at hp;omega
     ·cases hp
     ·have:=F.below j o p hj hp;omega
  ·rw[if_neg hc]
   have hn:i+n*sz=all.length:=by omega
   refine⟨_,k::pre,rfl, ?_, ?_, ?_, ?_⟩
   ·rw[next_new,next_set]
   ·rw[get_new,next_set,if_pos rfl]
    have:(all.drop i).take (n*sz)=all.drop i:=List.take_of_length_le (by rw[List.length_drop];omega)
    rw[this]
   ·intro j al pr hj hgj
    have:=F.lt hgj
    rw[get_new,next_set,if_neg (by omega),a3Z,if_neg (Ne.symm hj)]
    exact hgj
   ·have key:∀j o,((H.set k (.cells all false pre)).new (.cells (all.drop i++news) true (k::pre))).get j=some o→
      (j=H.next∧D9 o=k::pre)∨(j=k∧o= .cells all false pre)∨(j≠H.next∧j≠k∧H.get j=some o):=by
     intro j o hj
     rw[get_new,next_set,a3Z]at hj
     split at hj
     ·rename_i e;cases hj;exact .inl ⟨e.symm,rfl⟩
     ·rename_i e
      split at hj
      ·rename_i e2;cases hj;exact .inr (.inl ⟨e2.symm,rfl⟩)
      ·rename_i e2
       exact .inr (.inr ⟨Ne.symm e,Ne.symm e2,hj⟩)
    refine⟨?_, ?_, ?_, ?_⟩
    ·intro j hj
     rw[next_new,next_set]at hj
     rw[get_new,next_set,if_neg (by omega),a3Z,if_neg (by omega),F.above j (by omega)]
    ·intro j p o op hj hp ho
     rcases key p op ho with ⟨rfl,_⟩|⟨rfl,rfl⟩|⟨_,hpk,hop⟩
     ·rcases key j o hj with ⟨rfl,e⟩|⟨rfl,rfl⟩|⟨_,_,hj⟩
      ·rw[e]at hp
       rcases List.mem_cons.1 hp with rfl|hp
       ·omega
       ·have:=F.below k _ _ h hp;omega
      ·have:=F.below _ _ _ h hp;omega
      ·have:=F.below j o _ hj hp;omega
     ·rfl
     ·rcases key j o hj with ⟨rfl,e⟩|⟨rfl,rfl⟩|⟨_,_,hj⟩
      ·rw[e]at hp
       rcases List.mem_cons.1 hp with rfl|hp
       ·exact(hpk rfl).elim
       ·exact F.kin k p _ op h hp hop
      ·exact F.kin _ p _ op h hp hop
      ·exact F.kin j p o op hj hp hop
    ·intro j o p hj hp
     rcases key j o hj with ⟨rfl,e⟩|⟨rfl,rfl⟩|⟨_,_,hj⟩
     ·rw[e]at hp
      rcases List.mem_cons.1 hp with rfl|hp
      ·omega
      ·have:=F.below k _ _ h hp;omega
     ·exact F.self _ _ p h hp
     ·exact F.self j o p hj hp
    ·intro j o p hj hp
     rw[next_new,next_set]
     rcases key j o hj with ⟨rfl,e⟩|⟨rfl,rfl⟩|⟨_,_,hj⟩
     ·rw[e]at hp
      rcases List.mem_cons.1 hp with rfl|hp
      ·omega
      ·have:=F.below k _ _ h hp;omega
     ·have:=F.below _ _ _ h hp;omega
     ·have:=F.below j o p hj hp;omega
end
section
inductive D where
 |any
 |bool (b:Bool)
 |int (k:IntKind) (n:Int)
 |str (s:List UInt8)
 |nilPtr
 |nilSlc
 |nilMap
 |nilFn
 |nilIfc
 |ptr (k i:Nat)
 |rel (k r i sz:Nat)
 |elt (row:List D) (i:Nat)
 |lst (rows:List (List D)) (sz:Nat)
 |ext (rows more:List (List D)) (sz:Nat)
 |raw (k i len cap:Nat) (ex:Bool) (sz:Nat)
 |fn (f:Fn) (a b:List D)
 |ifc (t:TypeId) (v:D)
 |agg (cs:List D)
 |tup (vs:List D)
 deriving Inhabited
def b8:D:= .tup []
abbrev Fz:=Nat→Option (List AV)
def rdE(E:m6)(R:Fz):Id→Option (List AV)
 | .old b=>E b
 | .new k=>R k
def d2c:Id→Nat→Nat→Prop
 | .old _,_,_=>True
 | .new _,z,sz=>z=sz
mutual
def Rp(E:m6)(R:Fz):D→AV→Prop
 | .any,_=>True
 | .bool b,v=>v= .bool b
 | .int k n,v=>v= .int k n
 | .str s,v=>v= .str s
 | .nilPtr,v=>v= .nilPtr
 | .nilSlc,v=>v= .nilSlc
 | .nilMap,v=>v= .nilMap
 | .nilFn,v=>v= .nilFn
 | .nilIfc,v=>v= .nilIfc
 | .ptr k i,v=>v= .ptr (.new k) i
 | .rel k r i sz,v=>v= .ptr (.new k) (r*sz+i)
 | .elt row i,v=>∃o j all,v= .ptr o (j+i)∧rdE E R o=some all∧A3 E R row ((all.drop j).take row.length)∧((all.drop j).take row.length).all w8=true
 | .lst rows sz,v=>(rows=[]∧v= .nilSlc)∨∃o j cap ex z,v= .slc o j rows.length cap ex z∧d2c o z sz∧rows.length≤cap∧(∀row∈rows,row.length=sz)∧
   (rows=[]∨∃all,rdE E R o=some all∧a2u E R rows ((all.drop j).take (rows.length*sz))∧((all.drop j).take (rows.length*sz)).all w8=true)
 | .ext rows more sz,v=>∃o j cap ex z all,v= .slc o j rows.length cap ex z∧d2c o z sz∧rows.length+more.length≤cap∧(∀row∈rows,row.length=sz)∧(∀row∈more,row.length=sz)∧(rdE E R o=some all∨(rows=[]∧more=[]))∧
   a2u E R rows ((all.drop j).take (rows.length*sz))∧a2u E R more ((all.drop (j+rows.length*sz)).take (more.length*sz))∧((all.drop j).take ((rows.length+more.length)*sz)).all w8=true
 | .raw k i len cap ex sz,v=>v= .slc (.new k) (i*sz) len cap ex sz
 | .fn f a b,v=>∃a' b',v= .fn f a' b'∧A3 E R a a'∧A3 E R b b'
 | .ifc t d,v=>∃v',v= .ifc t v'∧Rp E R d v'
 | .agg cs,v=>∃vs,v= .agg vs∧A3 E R cs vs∧vs.all w8=true
 | .tup ds,v=>∃vs,v= .tup vs∧A3 E R ds vs
def A3(E:m6)(R:Fz):List D→List AV→Prop
 | [],l=>l=[]
 |d::ds,l=>∃v vs,l=v::vs∧Rp E R d v∧A3 E R ds vs
def a2u(E:m6)(R:Fz):List (List D)→List AV→Prop
 | [],l=>l=[]
 |row::rows,l=>∃vs ws,l=vs++ws∧A3 E R row vs∧a2u E R rows ws
end
def Fz.le(R R':Fz):Prop:=∀k cs,R k=some cs→R' k=some cs
theorem Fz.le_refl(R:Fz):R.le R:=fun _ _ h=>h
theorem Fz.le_trans{R R1 R2:Fz}(h:R.le R1)(h':R1.le R2):R.le R2:=fun k cs e=>h' _ _ (h _ _ e)
theorem c8d{E:m6}{R R':Fz}(h:R.le R'){o:Id}{all:List AV}(e:rdE E R o=some all):rdE E R' o=some all:=by
 cases o with
 |old b=>exact e
 |new k=>exact h _ _ e
mutual
theorem Rp.le{E:m6}{R R':Fz}(h:R.le R'):∀(d:D) (v:AV),Rp E R d v→Rp E R' d v
 | .any,_,_=>by simp only[Rp]
 | .bool b,v,e=>by simp only[Rp]at e ⊢;exact e
 | .int k n,v,e=>by simp only[Rp]at e ⊢;exact e
 | .str s,v,e=>by simp only[Rp]at e ⊢;exact e
 | .nilPtr,v,e=>by simp only[Rp]at e ⊢;exact e
 | .nilSlc,v,e=>by simp only[Rp]at e ⊢;exact e
 | .nilMap,v,e=>by simp only[Rp]at e ⊢;exact e
 | .nilFn,v,e=>by simp only[Rp]at e ⊢;exact e
 | .nilIfc,v,e=>by simp only[Rp]at e ⊢;exact e
 | .ptr k i,v,e=>by simp only[Rp]at e ⊢;exact e
 | .rel k r i sz,v,e=>by simp only[Rp]at e ⊢;exact e
 | .elt row i,v,e=>by
  simp only[Rp]at e ⊢
  obtain⟨o,j,all,e1,e2,e3,e4⟩:=e
  exact⟨o,j,all,e1,c8d h e2,A3.le h row _ e3,e4⟩
 | .lst rows sz,v,e=>by
  simp only[Rp]at e ⊢
  rcases e with e|⟨o,j,cap,ex,z,e1,e2,e3,e4,e5⟩
  ·exact .inl e
  refine .inr ⟨o,j,cap,ex,z,e1,e2,e3,e4, ?_⟩
  rcases e5 with e5|⟨all,e5,e6,e7⟩
  ·exact .inl e5
  ·exact .inr ⟨all,c8d h e5,a2u.le h rows _ e6,e7⟩
 | .ext rows more sz,v,e=>by
  simp only[Rp]at e ⊢
  obtain⟨o,j,cap,ex,z,all,e1,e2,e3,e4,e5,e6,e7,e8,e9⟩:=e
  exact⟨o,j,cap,ex,z,all,e1,e2,e3,e4,e5,e6.imp (c8d h) id,a2u.le h rows _ e7,a2u.le h more _ e8,e9⟩
 | .raw k i len cap ex sz,v,e=>by simp only[Rp]at e ⊢;exact e
 | .fn f a b,v,e=>by
  simp only[Rp]at e ⊢
  obtain⟨a',b',e1,e2,e3⟩:=e
  exact⟨a',b',e1,A3.le h a _ e2,A3.le h b _ e3⟩
 | .ifc t d,v,e=>by
  simp only[Rp]at e ⊢
  obtain⟨v',e1,e2⟩:=e
  exact⟨v',e1,Rp.le h d _ e2⟩
 | .agg cs,v,e=>by
  simp only[Rp]at e ⊢
  obtain⟨vs,e1,e2,e3⟩:=e
  exact⟨vs,e1,A3.le h cs _ e2,e3⟩
 | .tup ds,v,e=>by
  simp only[Rp]at e ⊢
  obtain⟨vs,e1,e2⟩:=e
  exact⟨vs,e1,A3.le h ds _ e2⟩
theorem A3.le{E:m6}{R R':Fz}(h:R.le R'):∀(ds:List D) (vs:List AV),A3 E R ds vs→A3 E R' ds vs
 | [],l,e=>by simp only[A3]at e ⊢;exact e
 |d::ds,l,e=>by
  simp only[A3]at e ⊢
  obtain⟨v,vs,e1,e2,e3⟩:=e
  exact⟨v,vs,e1,Rp.le h d _ e2,A3.le h ds _ e3⟩
theorem a2u.le{E:m6}{R R':Fz}(h:R.le R'):∀(rows:List (List D)) (vs:List AV),a2u E R rows vs→a2u E R' rows vs
 | [],l,e=>by simp only[a2u]at e ⊢;exact e
 |row::rows,l,e=>by
  simp only[a2u]at e ⊢
  obtain⟨vs,ws,e1,e2,e3⟩:=e
  exact⟨vs,ws,e1,A3.le h row _ e2,a2u.le h rows _ e3⟩
end
section
variable{E:m6}{R:Fz}
theorem A3.length:∀ {ds:List D} {vs:List AV},A3 E R ds vs→vs.length=ds.length
 | [],l,e=>by simp only[A3]at e;rw[e];rfl
 |d::ds,l,e=>by
  simp only[A3]at e
  obtain⟨v,vs,rfl,e2,e3⟩:=e
  rw[List.length_cons,List.length_cons,A3.length e3]
theorem G4:A3 E R [] []:=by simp only[A3]
theorem A2{d:D}{v:AV}{ds:List D}{vs:List AV}(h:Rp E R d v)(hs:A3 E R ds vs):A3 E R (d::ds) (v::vs):=by simp only[A3];exact⟨v,vs,rfl,h,hs⟩
theorem a5h:∀ {ds:List D} {vs:List AV},A3 E R ds vs→∀ {i:Nat} {d:D},ds[i]? =some d→∃v,vs[i]? =some v∧Rp E R d v
 | [],l,e,i,d,h=>by cases h
 |x::ds,l,e,i,d,h=>by
  simp only[A3]at e
  obtain⟨v,vs,rfl,e2,e3⟩:=e
  cases i with
  |zero=>cases h;exact⟨v,rfl,e2⟩
  |succ i=>exact a5h e3 (i:=i) h
theorem a6j:∀ {ds:List D} {vs:List AV},vs.length=ds.length→(∀(i:Nat) (d:D) (v:AV),ds[i]? =some d→vs[i]? =some v→Rp E R d v)→A3 E R ds vs
 | [],[],_,_=>G4
 | [],_::_,h,_=>by cases h
 |_::_,[],h,_=>by cases h
 |d::ds,v::vs,hl,h=>A2 (h 0 d v rfl rfl) (a6j (by simpa using hl) fun i d v h1 h2=>h (i+1) d v h1 h2)
theorem A3.set{ds:List D}{vs:List AV}(h:A3 E R ds vs)(i:Nat){d:D}{v:AV}(hd:Rp E R d v):A3 E R (ds.set i d) (vs.set i v):=by
 refine a6j (by rw[List.length_set,List.length_set,h.length]) fun j d' v' h1 h2=> ?_
 rw[List.getElem?_set]at h1 h2
 have hl:=h.length
 by_cases e:i=j
 ·rw[if_pos e]at h1 h2
  split at h1
  ·split at h2
   ·cases h1;cases h2;exact hd
   ·cases h2
  ·cases h1
 ·rw[if_neg e]at h1 h2
  obtain⟨w,g1,g2⟩:=a5h h h1
  rw[h2]at g1;cases g1;exact g2
theorem A3.append{ds ds':List D}{vs vs':List AV}(h:A3 E R ds vs)(h':A3 E R ds' vs'):A3 E R (ds++ds') (vs++vs'):=by
 induction ds generalizing vs with
 |nil=>simp only[A3]at h;subst h;exact h'
 |cons d ds ih=>
  simp only[A3]at h
  obtain⟨v,vs,rfl,e2,e3⟩:=h
  exact A2 e2 (ih e3)
theorem A3.drop{ds:List D}{vs:List AV}(h:A3 E R ds vs)(n:Nat):A3 E R (ds.drop n) (vs.drop n):=
 a6j (by rw[List.length_drop,List.length_drop,h.length]) fun i d v h1 h2=>by
  rw[List.getElem?_drop]at h1 h2
  obtain⟨w,g1,g2⟩:=a5h h h1
  rw[h2]at g1;cases g1;exact g2
theorem A3.take{ds:List D}{vs:List AV}(h:A3 E R ds vs)(n:Nat):A3 E R (ds.take n) (vs.take n):=
 a6j (by rw[List.length_take,List.length_take,h.length]) fun i d v h1 h2=>by
  rw[List.getElem?_take]at h1 h2
  split at h1
  ·rename_i hi
   rw[if_pos hi]at h2
   obtain⟨w,g1,g2⟩:=a5h h h1
   rw[h2]at g1;cases g1;exact g2
  ·cases h1
theorem a3E:∀ {as bs:List D} {vs:List AV},A3 E R (as++bs) vs→∃v w,vs=v++w∧A3 E R as v∧A3 E R bs w
 | [],bs,vs,h=>⟨[],vs,rfl,G4,h⟩
 |a::as,bs,vs,h=>by
  simp only[List.cons_append,A3]at h
  obtain⟨v,vs,rfl,e2,e3⟩:=h
  obtain⟨v',w,rfl,h1,h2⟩:=a3E e3
  exact⟨v::v',w,rfl,A2 e2 h1,h2⟩
theorem P4:∀ {rows:List (List D)} {vs:List AV},a2u E R rows vs↔A3 E R rows.flatten vs
 | [],vs=>by simp only[a2u,List.flatten_nil,A3]
 |row::rows,vs=>by
  simp only[a2u,List.flatten_cons]
  constructor
  ·rintro⟨v,w,rfl,h1,h2⟩
   exact h1.append (P4.1 h2)
  ·intro h
   obtain⟨v,w,rfl,h1,h2⟩:=a3E h
   exact⟨v,w,rfl,h1,P4.2 h2⟩
theorem a2G:Rp E R b8 A0:=by simp only[b8,Rp];exact⟨[],rfl,G4⟩
theorem b5c{ds:List D}{vs:List AV}(h:A3 E R ds vs)(t:Nat):Rp E R (ds.getD t b8) (vs.getD t A0):=by
 rw[List.getD_eq_getElem?_getD,List.getD_eq_getElem?_getD]
 cases e:ds[t]? with
 |none=>
  have:vs[t]? =none:=List.getElem?_eq_none (by rw[h.length];exact List.getElem?_eq_none_iff.1 e)
  rw[this];exact a2G
 |some d=>
  obtain⟨v,g1,g2⟩:=a5h h e
  rw[g1];exact g2
end
theorem C5{α:Type}{rows:List (List α)}{sz:Nat}(h:∀row∈rows,row.length=sz):rows.flatten.length=rows.length*sz:=by
 induction rows with
 |nil=>simp
 |cons r rs ih=>
  rw[List.flatten_cons,List.length_append,h r List.mem_cons_self,ih fun x hx=>h x (List.mem_cons_of_mem _ hx),List.length_cons,Nat.succ_mul,Nat.add_comm]
theorem a5k{α:Type}{rows:List (List α)}{sz:Nat}(h:∀row∈rows,row.length=sz)(n:Nat):rows.flatten.drop (n*sz)=(rows.drop n).flatten:=by
 induction rows generalizing n with
 |nil=>simp
 |cons r rs ih=>
  cases n with
  |zero=>simp
  |succ n=>
   have hr:=h r List.mem_cons_self
   rw[List.flatten_cons,List.drop_succ_cons, ←ih (fun x hx=>h x (List.mem_cons_of_mem _ hx)) n,List.drop_append,List.drop_of_length_le (by rw[hr,Nat.succ_mul];omega),List.nil_append,hr,Nat.succ_mul,Nat.add_sub_cancel]
theorem a3J{α:Type}{rows:List (List α)}{sz:Nat}(h:∀row∈rows,row.length=sz)(n:Nat):rows.flatten.take (n*sz)=(rows.take n).flatten:=by
 induction rows generalizing n with
 |nil=>simp
 |cons r rs ih=>
  cases n with
  |zero=>simp
  |succ n=>
   have hr:=h r List.mem_cons_self
   rw[List.flatten_cons,List.take_succ_cons,List.flatten_cons, ←ih (fun x hx=>h x (List.mem_cons_of_mem _ hx)) n,List.take_append,List.take_of_length_le (by rw[hr,Nat.succ_mul];omega),hr,Nat.succ_mul,Nat.add_sub_cancel]
theorem b2k{α:Type}{rows:List (List α)}{sz:Nat}(h:∀row∈rows,row.length=sz){r:Nat}{row:List α}(hr:rows[r]? =some row):(rows.flatten.drop (r*sz)).take sz=row:=by
 rw[a5k h]
 have hlt:=(List.getElem?_eq_some_iff.1 hr).1
 have e:rows.drop r=row::rows.drop (r+1):=by
  rw[List.drop_eq_getElem_cons hlt]
  congr 1
  exact(List.getElem?_eq_some_iff.1 hr).2
 rw[e,List.flatten_cons,List.take_append,List.take_of_length_le (by rw[h row (List.mem_of_getElem? hr)];omega),h row (List.mem_of_getElem? hr),Nat.sub_self,List.take_zero,List.append_nil]
structure L7 where
 sz:Nat
 rows:List (List D)
 acs:List AV
abbrev b7:=Nat→Option L7
def b7.set(S:b7)(k:Nat)(o:L7):b7:=fun j=>if j=k then some o else S j
def b7.erase(S:b7)(k:Nat):b7:=fun j=>if j=k then none else S j
def b7.none:b7:=fun _=>Option.none
def b7.le(S S':b7):Prop:=∀k o,S k=some o→S' k=some o
theorem b7.set_same(S:b7)(k:Nat)(o:L7):(S.set k o) k=some o:=if_pos rfl
theorem b7.set_ne(S:b7)(k:Nat)(o:L7){j:Nat}(h:j≠k):(S.set k o) j=S j:=if_neg h
theorem b7.erase_same(S:b7)(k:Nat):(S.erase k) k=Option.none:=if_pos rfl
theorem b7.erase_ne(S:b7)(k:Nat){j:Nat}(h:j≠k):(S.erase k) j=S j:=if_neg h
theorem b7.le_refl(S:b7):S.le S:=fun _ _ h=>h
theorem b7.le_trans{S S1 S2:b7}(h:S.le S1)(h':S1.le S2):S.le S2:=fun k o e=>h' _ _ (h _ _ e)
theorem b7.le_set{S S':b7}(h:S.le S'){k:Nat}{o:L7}(hk:S k=Option.none):S.le (S'.set k o):=fun j x e=>by
 rw[b7.set_ne]
 ·exact h _ _ e
 ·rintro rfl;rw[hk]at e;cases e
theorem b7.le_erase{S S':b7}(h:S.le S'){k:Nat}(hk:S k=Option.none):S.le (S'.erase k):=fun j x e=>by
 rw[b7.erase_ne]
 ·exact h _ _ e
 ·rintro rfl;rw[hk]at e;cases e
theorem b7.erase_le(S:b7)(k:Nat):(S.erase k).le S:=fun j x e=>by
 unfold b7.erase at e
 split at e
 ·cases e
 ·exact e
theorem b7.set_set(S:b7)(k:Nat)(a b:L7):(S.set k a).set k b=S.set k b:=by
 funext j;unfold b7.set;split<;>rfl
theorem b7.set_comm(S:b7){k l:Nat}(h:k≠l)(a b:L7):(S.set k a).set l b=(S.set l b).set k a:=by
 funext j;unfold b7.set
 by_cases h1:j=l
 ·subst h1;rw[if_pos rfl,if_neg (Ne.symm h),if_pos rfl]
 ·rw[if_neg h1,if_neg h1]
theorem b7.erase_set(S:b7)(k:Nat)(a:L7)(h:S k=Option.none):(S.set k a).erase k=S:=by
 funext j;unfold b7.erase b7.set
 by_cases h1:j=k
 ·subst h1;rw[if_pos rfl,h]
 ·rw[if_neg h1,if_neg h1]
structure D5 (E:m6) (R:Fz) (S:b7) (H:AHeap):Prop where
 frozen:∀k cs,R k=some cs→∃pre,H.get k=some (.cells cs true pre)
 own:∀k o,S k=some o→R k=none∧(∃pre,H.get k=some (.cells o.acs true pre))∧o.acs.all w8=true∧(∀row∈o.rows,row.length=o.sz)∧A3 E R o.rows.flatten o.acs
section
variable{E:m6}{R:Fz}{S:b7}{H:AHeap}
theorem D5.less(h:D5 E R S H){S':b7}(hs:S'.le S):D5 E R S' H:=⟨h.frozen,fun k o e=>h.own k o (hs _ _ e)⟩
theorem D5.fresh(h:D5 E R S H)(F:L8 H):R H.next=none∧S H.next=none:=by
 have g:=F.above H.next (Nat.le_refl _)
 constructor
 ·cases e:R H.next with
  |none=>rfl
  |some cs=>obtain⟨_,h1⟩:=h.frozen _ _ e;rw[g]at h1;cases h1
 ·cases e:S H.next with
  |none=>rfl
  |some o=>obtain⟨_,⟨_,h1⟩,_⟩:=h.own _ _ e;rw[g]at h1;cases h1
theorem D5.stays(h:D5 E R S H){H':AHeap}(hs:d3M H H'):D5 E R S H':=
 ⟨fun k cs e=>(h.frozen k cs e).imp fun pre g=>hs _ _ _ g,fun k o e=>by
  obtain⟨h1,⟨pre,h2⟩,h3⟩:=h.own k o e
  exact⟨h1,⟨pre,hs _ _ _ h2⟩,h3⟩⟩
theorem D5.but(h:D5 E R S H){H':AHeap}{b:Nat}(hs:But b H H')(hb:R b=none):D5 E R (S.erase b) H':=
 ⟨fun k cs e=>(h.frozen k cs e).imp fun pre g=>hs _ _ _ (fun e'=>by subst e';rw[hb]at e;cases e) g,fun k o e=>by
  unfold b7.erase at e
  split at e
  ·cases e
  ·rename_i hk
   obtain⟨h1,⟨pre,h2⟩,h3⟩:=h.own k o e
   exact⟨h1,⟨pre,hs _ _ _ hk h2⟩,h3⟩⟩
theorem D5.put(h:D5 E R S H){k:Nat}{o:L7}(hr:R k=none){pre:List Nat}(hg:H.get k=some (.cells o.acs true pre))(hsc:o.acs.all w8=true)(hl:∀row∈o.rows,row.length=o.sz)(hp:A3 E R o.rows.flatten o.acs):D5 E R (S.set k o) H:=
 ⟨h.frozen,fun j x e=>by
  unfold b7.set at e
  split at e
  ·rename_i hj;subst hj;cases e;exact⟨hr,⟨pre,hg⟩,hsc,hl,hp⟩
  ·exact h.own j x e⟩
theorem D5.freeze(h:D5 E R S H){k:Nat}{o:L7}(hk:S k=some o):D5 E (fun j=>if j=k then some o.acs else R j) (S.erase k) H∧R.le fun j=>if j=k then some o.acs else R j:=by
 obtain⟨h1,⟨pre,h2⟩,h3,h4,h5⟩:=h.own k o hk
 have hle:R.le fun j=>if j=k then some o.acs else R j:=fun j cs e=>by
  show(if j=k then some o.acs else R j)=some cs
  rw[if_neg]
  ·exact e
  ·rintro rfl;rw[h1]at e;cases e
 refine⟨⟨fun j cs e=> ?_,fun j x e=> ?_⟩,hle⟩
 ·replace e:(if j=k then some o.acs else R j)=some cs:=e
  split at e
  ·rename_i hj;subst hj;cases e;exact⟨pre,h2⟩
  ·exact h.frozen j cs e
 ·unfold b7.erase at e
  split at e
  ·cases e
  ·rename_i hj
   obtain⟨g1,g2,g3,g4,g5⟩:=h.own j x e
   exact⟨by show(if j=k then some o.acs else R j)=none;rw[if_neg hj];exact g1,g2,g3,g4,A3.le hle _ _ g5⟩
theorem D5.start(H:AHeap):D5 E (fun _=>Option.none) b7.none H:=⟨fun k cs e=>(by cases e),fun k o e=>(by cases e)⟩
end
end
section
def a0P:AV→D
 | .bool b=> .bool b
 | .int k n=> .int k n
 | .str s=> .str s
 | .nilPtr=> .nilPtr
 | .nilSlc=> .nilSlc
 | .nilMap=> .nilMap
 | .nilFn=> .nilFn
 | .nilIfc=> .nilIfc
 |_=> .any
def d0B:AV→D
 | .agg cs=>if cs.all w8 then .agg (cs.map a0P) else .any
 | .tup []=> .tup []
 |v=>a0P v
def r7:D→Option (List D)
 | .any| .tup _=>none
 | .agg cs=>some cs
 |d=>some [d]
def o8:List D→Nat→List D→List D
 |cs,_,[]=>cs
 |cs,i,v::vs=>o8 (cs.set i v) (i+1) vs
def B0(T:List D):Operand→D
 | .tmp t=>T.getD t b8
 | .const v=>d0B (c7b v)
 | .global _=> .any
 | .func f=> .fn (.func f) [] []
def c2Q(S:b7):D→Option (List D×Nat)
 | .ptr k i=>match S k with
  |some o=>match o.rows with
   | [cs]=>some (cs,i)
   |_=>none
  |none=>none
 | .rel k r i sz=>match S k with
  |some o=>if o.sz=sz then match o.rows[r]? with
   |some row=>some (row,i)
   |none=>none
   else none
  |none=>none
 | .elt row i=>some (row,i)
 |_=>none
def j0(S:b7)(n:Nat)(a:D):Option D:=match c2Q S a with
 |some (row,i)=>if 0<n∧i+n≤row.length then some (.agg ((row.drop i).take n)) else none
 |none=>none
def c9(S:b7)(a:D):Option D:=match c2Q S a with
 |some (row,i)=>row[i]?
 |none=>none
def b6h:D→Option Nat
 | .ptr k _| .rel k _ _ _| .raw k _ _ _ _ _=>some k
 |_=>none
def z2(c a b:D):Option D:=match c with
 | .bool t=>some (if t then a else b)
 |_=>none
def U4:D→Option D
 | .nilPtr| .nilIfc| .nilFn| .any| .fn (.method _) _ _=>none
 |y=>some y
def o5(x:D)(ix:Nat):Option D:=match x with
 | .tup vs=>vs[ix]?
 |_=>none
def d8(op:BinOp)(a b:D):Option D:=match a,b with
 | .int k x, .int k' y=>match op with
  | .shl=>if y<0 then none else some (.int k (k.wrap (x*2^(min y.toNat k.bits))))
  | .shr=>if y<0 then none else some (.int k (x.fdiv (2^(min y.toNat k.bits))))
  |_=>if k=k' then(P9 op k x y).map a0P else none
 |_,_=>none
def c2p(op:BinOp)(a b:D):Option D:=match a,b with
 | .str x, .str y=>(a6Z op x y).map a0P
 |_,_=>none
def a9j(op:BinOp)(r:Option Bool):Option D:=match op with
 | .eql=>r.map .bool
 | .neq=>r.map fun b=> .bool !b
 |_=>none
def d2k(a b:D):Option Bool:=match a,b with
 | .bool x, .bool y=>some (x==y)
 |_,_=>none
def c6d(a b:D):Option Bool:=match a,b with
 | .nilSlc, .nilSlc=>some true
 | .nilSlc, .lst (_::_) _| .nilSlc, .ext _ _ _| .nilSlc, .raw _ _ _ _ _ _| .lst (_::_) _, .nilSlc| .ext _ _ _, .nilSlc| .raw _ _ _ _ _ _, .nilSlc=>some false
 |_,_=>none
def d4X(a b:D):Option Bool:=match a,b with
 | .nilPtr, .nilPtr=>some true
 | .nilPtr, .ptr _ _| .nilPtr, .rel _ _ _ _| .nilPtr, .elt _ _| .ptr _ _, .nilPtr| .rel _ _ _ _, .nilPtr| .elt _ _, .nilPtr=>some false
 |_,_=>none
def d5d(a b:D):Option Bool:=match a,b with
 | .nilFn, .nilFn=>some true
 | .nilFn, .fn _ _ _| .fn _ _ _, .nilFn=>some false
 |_,_=>none
def d1x(c:Bool)(a b:D):Option Bool:=match a,b with
 | .nilIfc, .nilIfc=>if c then some true else none
 | .nilIfc, .ifc _ _| .ifc _ _, .nilIfc=>some false
 |_,_=>none
mutual
def d1a:D→Option AV
 | .bool b=>some (.bool b)
 | .int k n=>some (.int k n)
 | .str s=>some (.str s)
 | .nilPtr=>some .nilPtr
 | .nilSlc=>some .nilSlc
 | .nilMap=>some .nilMap
 | .nilFn=>some .nilFn
 | .nilIfc=>some .nilIfc
 | .ptr k i=>some (.ptr (.new k) i)
 | .agg cs=>match c2N cs with
  |some l=>some (.agg l)
  |none=>none
 |_=>none
def c2N:List D→Option (List AV)
 | []=>some []
 |d::ds=>match d1a d,c2N ds with
  |some v,some vs=>some (v::vs)
  |_,_=>none
end
def d5F(P:Program)(t:TypeId)(a b:D):Option Bool:=match a,b with
 | .agg x, .agg y=>match c2N x,c2N y with
  |some x,some y=>if P.eqGuardType P.depth t then none else eqA P Op.maxDepth t (.agg x) (.agg y)
  |_,_=>none
 |_,_=>none
def d4a(P:Program)(op:BinOp)(t:TypeId)(x y:Operand)(a b:D):Option D:=match P.underlying t with
 |some (.int _)=>d8 op a b
 |some .string=>c2p op a b
 |some .bool=>a9j op (d2k a b)
 |some (.slice _)=>a9j op (c6d a b)
 |some (.pointer _)=>a9j op (d4X a b)
 |some (.func ..)=>a9j op (d5d a b)
 |some (.interface _)=>a9j op (d1x (Region.isConst x||Region.isConst y) a b)
 |some (.struct _)=>a9j op (d5F P t a b)
 |_=>none
def unD(op:UnOp)(x:D):Option D:=match op,x with
 | .neg, .int k n=>some (.int k (k.wrap (0 - n)))
 | .xor, .int k n=>some (.int k (k.wrap (BitVec.ofInt k.bits (if k.signed then -1 else k.max) ^^^ BitVec.ofInt k.bits n).toNat))
 | .not, .bool b=>some (.bool !b)
 |_,_=>none
def J5(S:b7)(sz:Nat):D→Option (List (List D))
 | .nilSlc=>some []
 | .lst rows z=>if z=sz then some rows else none
 | .ext rows _ z=>if z=sz then some rows else none
 | .raw k i len _ _ z=>match S k with
  |some o=>if z=sz∧o.sz=sz∧i+len≤o.rows.length then some ((o.rows.drop i).take len) else none
  |none=>none
 |_=>none
def c0R:List D→Option UInt8
 | [.int .u8 n]=>some (UInt8.ofNat n.toNat)
 |_=>none
def I6(k:IntKind):D→Option D
 | .int _ n=>some (.int k (k.wrap n))
 |_=>none
def c4g:D→Option D
 | .str s=>some (.str s)
 |_=>none
def b3I(S:b7)(x:D):Option D:=match J5 S 1 x with
 |some rows=>(rows.mapM c0R).map .str
 |none=>none
def d1i(P:Program)(S:b7)(src dst:TypeId)(x:D):Option D:=match P.underlying src,P.underlying dst with
 |some (.int _),some (.int k)=>I6 k x
 |some .string,some .string=>c4g x
 |some (.slice e),some .string=>match P.underlying e with
  |some (.int .u8)=>b3I S x
  |_=>none
 |_,_=>none
def E3(x:D)(y:Nat):Option Nat:=match x with
 | .int _ i=>if 0≤i∧i≤y then some i.toNat else none
 |_=>none
def c4E(cap:Nat):Option D→Option Nat
 |some v=>E3 v cap
 |none=>some cap
def b1n(len m:Nat):Option D→Option D→Option Nat
 |some v,_=>E3 v m
 |none,none=>some len
 |none,some _=>none
def b8t(h:Nat):Option D→Option Nat
 |some v=>E3 v h
 |none=>some 0
def N5(len cap:Nat)(low high max:Option D):Option (Nat×Nat×Nat):=
 (c4E cap max).bind fun m=>(b1n len m high max).bind fun h=>(b8t h low).bind fun l=>some (l,h,m)
def b9H(x:D)(lo hi:Option D):Option D:=match x with
 | .str s=>(N5 s.length s.length lo hi none).map fun r=> .str ((s.drop r.1).take (r.2.1 - r.1))
 |_=>none
def b8C(rows more:List (List D))(sz:Nat):D:=match more with
 | []=> .lst rows sz
 |m=> .ext rows m sz
def Q1(sz:Nat)(x:D)(lo hi mx:Option D):Option D:=match x with
 | .nilSlc=>(N5 0 0 lo hi mx).map fun _=> .nilSlc
 | .lst rows z=>if z=sz then(N5 rows.length rows.length lo hi mx).map fun r=>b8C ((rows.drop r.1).take (r.2.1 - r.1)) ((rows.drop r.2.1).take (r.2.2 - r.2.1)) sz else none
 | .ext rows more z=>if z=sz then(N5 rows.length (rows++more).length lo hi mx).map fun r=>b8C (((rows++more).drop r.1).take (r.2.1 - r.1)) (((rows++more).drop r.2.1).take (r.2.2 - r.2.1)) sz else none
 | .raw k i len cap ex z=>if z=sz then(N5 len cap lo hi mx).map fun r=> .raw k (i+r.1) (r.2.1 - r.1) (r.2.2 - r.1) (ex||mx.isSome) sz else none
 |_=>none
def c7J(P:Program)(t:TypeId)(x:D)(lo hi mx:Option D):Option D:=match P.underlying t with
 |some .string=>match mx with
  |none=>b9H x lo hi
  |some _=>none
 |some (.slice e)=>match D7 P e with
  |some sz=>Q1 sz x lo hi mx
  |none=>none
 |_=>none
def m8(off:Nat):D→Option D
 | .ptr k i=>some (.ptr k (i+off))
 | .rel k r i sz=>some (.rel k r (i+off) sz)
 | .elt row i=>some (.elt row (i+off))
 |_=>none
def c1k(P:Program)(s:TypeId)(x:D)(field:Nat):Option D:=match a4X P s field with
 |some f=>match D7 P f.type with
  |some (_+1)=>m8 f.offset x
  |_=>none
 |none=>none
def c4J(off n:Nat):D→Option D
 | .agg cs=>some (.agg ((cs.drop off).take n))
 |_=>none
def c4L(off:Nat):D→Option D
 | .agg cs=>cs[off]?
 |_=>none
def c6z(P:Program)(t:TypeId)(off:Nat)(x:D):Option D:=match a8F P t with
 |some true=>match D7 P t with
  |some n=>c4J off n x
  |none=>none
 |some false=>c4L off x
 |none=>none
def c7Q(P:Program)(s:TypeId)(x:D)(field:Nat):Option D:=match a4X P s field with
 |some f=>c6z P f.type f.offset x
 |none=>none
def A7(sz:Nat)(x ix:D):Option D:=match ix with
 | .int _ n=>match x with
  | .lst rows z=>if z=sz∧0≤n then match rows[n.toNat]? with
   |some row=>some (.elt row 0)
   |none=>none
   else none
  | .ext rows _ z=>if z=sz∧0≤n then match rows[n.toNat]? with
   |some row=>some (.elt row 0)
   |none=>none
   else none
  | .raw k i len _ _ z=>if z=sz∧0≤n∧n<len then some (.rel k (i+n.toNat) 0 sz) else none
  |_=>none
 |_=>none
def d0W(len sz:Nat)(x ix:D):Option D:=match ix with
 | .int _ n=>if 0≤n∧n<len then m8 (n.toNat*sz) x else none
 |_=>none
def c0Q(P:Program)(t:TypeId)(x ix:D):Option D:=match P.underlying t with
 |some (.slice e)=>match D7 P e with
  |some sz=>A7 sz x ix
  |none=>none
 |some (.array len e)=>match D7 P e with
  |some sz=>d0W len sz x ix
  |none=>none
 |_=>none
def c5i(x ix:D):Option D:=match ix,x with
 | .int _ n, .str s=>if 0≤n then match s[n.toNat]? with
  |some b=>some (.int .u8 b.toNat)
  |none=>none
  else none
 |_,_=>none
def d0T(len sz:Nat)(ag:Bool)(x ix:D):Option D:=match ix with
 | .int _ n=>if 0≤n∧n<len then(match ag with
  |true=>c4J (n.toNat*sz) sz x
  |false=>c4L (n.toNat*sz) x) else none
 |_=>none
def c7s(P:Program)(t:TypeId)(x ix:D):Option D:=match P.underlying t with
 |some .string=>c5i x ix
 |some (.array len e)=>match D7 P e,a8F P e with
  |some sz,some ag=>d0T len sz ag x ix
  |_,_=>none
 |_=>none
def a3M:D→Option D
 | .str s=>some (.int .i64 s.length)
 |_=>none
def r6:D→Option D
 | .nilSlc=>some (.int .i64 0)
 | .lst rows _=>some (.int .i64 rows.length)
 | .ext rows _ _=>some (.int .i64 rows.length)
 | .raw _ _ len _ _ _=>some (.int .i64 len)
 |_=>none
def d3P(P:Program)(t:TypeId)(x:D):Option D:=match P.underlying t with
 |some .string=>a3M x
 |some (.slice _)=>r6 x
 |some (.array n _)=>some (.int .i64 n)
 |_=>none
def c6f:D→Option D
 | .nilSlc=>some (.int .i64 0)
 | .raw _ _ _ cap true _=>some (.int .i64 cap)
 |_=>none
def d4c(P:Program)(t:TypeId)(x:D):Option D:=match P.underlying t with
 |some (.slice _)=>c6f x
 |some (.array n _)=>some (.int .i64 n)
 |_=>none
def mmD(isMax:Bool)(x y:D):Option D:=match x,y with
 | .int k a, .int _ b=>some (.int k (if isMax then(if b>a then b else a) else(if b<a then b else a)))
 |_,_=>none
def b4Q(isMax:Bool):List D→Option D
 | []=>none
 |x::rest=>rest.foldlM (mmD isMax) x
def c7S(P:Program)(t:TypeId)(x:D):Option D:=match P.underlying t with
 |some (.interface _)=>none
 |some _=>some (.ifc t x)
 |none=>none
def asD(t:TypeId)(z:D)(ok:Bool)(x:D):Option D:=match x with
 | .nilIfc=>if ok then some (.tup [z, .bool false]) else none
 | .ifc t' v=>if t'=t then some (if ok then .tup [v, .bool true]else v) else if ok then some (.tup [z, .bool false]) else none
 |_=>none
def c5e(P:Program)(x:D)(asserted:TypeId)(ok:Bool):Option D:=match P.underlying asserted with
 |some (.interface _)=>none
 |some _=>match P5 P asserted with
  |some z=>asD asserted (d0B z) ok x
  |none=>none
 |none=>none
def w6:List D→List (Nat×Nat×D)→Option (List D)
 |cs,[]=>some cs
 |cs,(off,size,v)::rest=>match r7 v with
  |some ds=>if ds.length=size∧off+size≤cs.length then w6 (o8 cs off ds) rest else none
  |none=>none
def b2L(place:Nat→Option (Nat×Nat)):List (Nat×D)→Option (List (Nat×Nat×D))
 | []=>some []
 |(i,v)::rest=>match place i with
  |some (off,size)=>match b2L place rest with
   |some l=>some ((off,size,v)::l)
   |none=>none
  |none=>none
def E6(r:Option (List D)):Option D:=match r with
 |some cs=>some (.agg cs)
 |none=>none
def c7v(P:Program)(t:TypeId)(parts:List (Nat×D)):Option D:=match P5 P t with
 |some (.agg z)=>if z.all w8 then match P.underlying t with
  |some (.struct fields)=>match fields.toList.mapM fun f=>(D7 P f.type).map fun s=>(f.offset,s) with
   |some places=>match b2L (places[·]?) parts with
    |some l=>E6 (w6 (z.map a0P) l)
    |none=>none
   |none=>none
  |some (.array _ e)=>match D7 P e with
   |some size=>match b2L (fun i=>some (i*size,size)) parts with
    |some l=>E6 (w6 (z.map a0P) l)
    |none=>none
   |none=>none
  |_=>none
  else none
 |_=>none
def c9p(P:Program)(S:b7)(t:TypeId)(a:D):Option D:=match a8F P t with
 |some true=>match D7 P t with
  |some n=>j0 S n a
  |none=>none
 |some false=>c9 S a
 |none=>none
def d4p(P:Program)(T:List D)(S:b7)(o:Oper):Option D:=
 match o.op with
 | .move x| .assign x=>some (B0 T x)
 | .pick c a b=>z2 (B0 T c) (B0 T a) (B0 T b)
 | .build t parts=>c7v P t (parts.toList.map fun p=>(p.1,B0 T p.2))
 | .load t a=>c9p P S t (B0 T a)
 | .nilCheck x=>U4 (B0 T x)
 | .binOp op t x y _=>d4a P op t x y (B0 T x) (B0 T y)
 | .unOp op _ x=>unD op (B0 T x)
 | .convert src dst x=>d1i P S src dst (B0 T x)
 | .makeInterface t x=>c7S P t (B0 T x)
 | .makeFunc fn first captured=>some (.fn fn (first.toList.map (B0 T)) (captured.toList.map (B0 T)))
 | .slice t x lo hi mx=>c7J P t (B0 T x) (lo.map (B0 T)) (hi.map (B0 T)) (mx.map (B0 T))
 | .fieldAddr s x f=>c1k P s (B0 T x) f
 | .field s x f=>c7Q P s (B0 T x) f
 | .indexAddr t x ix=>c0Q P t (B0 T x) (B0 T ix)
 | .index t x ix=>c7s P t (B0 T x) (B0 T ix)
 | .typeAssert x _ asserted ok=>c5e P (B0 T x) asserted ok
 | .extract t ix=>o5 (B0 T t) ix
 | .call c=>match c.callee with
  | .builtin b=>match b,c.args.toList.map (B0 T),c.argTypes.toList with
   | .len,[x],[t]=>d3P P t x
   | .cap,[x],[t]=>d4c P t x
   | .min,l,_=>b4Q false l
   | .max,l,_=>b4Q true l
   |_,_,_=>none
  |_=>none
 |_=>none
def b7n(T:List D)(o:Oper):Option Nat:=match o.op with
 | .load _ a=>b6h (B0 T a)
 | .convert _ _ x=>b6h (B0 T x)
 |_=>none
structure Agr (R:Fz) (S:b7) (k:Option Nat) (H:AHeap):Prop where
 fz:∀j cs,R j=some cs→∃w p,H.get j=some (.cells cs w p)
 st:∀j o,k=some j→S j=some o→∃w p,H.get j=some (.cells o.acs w p)
theorem D5.agr{E:m6}{R:Fz}{S:b7}{H:AHeap}(h:D5 E R S H)(k:Option Nat):Agr R S k H:=
 ⟨fun j cs e=>let ⟨pre,g⟩:=h.frozen j cs e;⟨_,pre,g⟩,fun j o _ e=>let ⟨_,⟨pre,g⟩,_⟩:=h.own j o e;⟨_,pre,g⟩⟩
end
end Go.Am
end
