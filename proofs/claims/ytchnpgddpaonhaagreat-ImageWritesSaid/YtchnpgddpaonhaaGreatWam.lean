/- A part of the proof of ImageWrites. -/
import Derived.Test.YtchnpgddpaonhaaGreatWal
import Derived.Test.YtchnpgddpaonhaaGreatWak
set_option linter.unusedVariables false
set_option linter.unusedSimpArgs false
set_option maxRecDepth 100000
section
namespace Go.Am
section
section
variable(P:Program)(E:j6)(w0:World)(cut:List Nat)
end
section
variable{P:Program}{E:j6}{w0:World}{cut:List Nat}
theorem d9h{c:Code}{T:List AV}{H:AHeap}{Q:o6→List AV→AHeap→Prop}(h:Rb E w0 H T→H9 P E w0 c T H Q):H9 P E w0 c T H Q:=by
 intro w ρ a K R hf hT
 exact h (Rb.put R hf hT) w ρ a K R hf hT
theorem a4w.toW{c:Code}{T:List AV}{H:AHeap}{Q:o6→List AV→AHeap→Prop}(h:a4w P E w0 c T H Q):H9 P E w0 c T H Q:=d9h fun hr=>by
 obtain⟨ex,T',H',h1,h2⟩:=h hr
 refine h1.mono fun e T1 H1 he=> ?_
 obtain⟨rfl,rfl,rfl⟩:=he
 exact h2
end
end
section
inductive D where
 |any
 |bool (b:Bool)
 |int (k:IntKind) (n:Int)
 |str (s:List UInt8)
 |nilPtr
 |nilSlc
 |nilMap
 |nilFn
 |nilIfc
 |ptr (k i:Nat)
 |rel (k r i sz:Nat)
 |elt (row:List D) (i:Nat)
 |lst (rows:List (List D)) (sz:Nat)
 |ext (rows more:List (List D)) (sz:Nat)
 |raw (k i len cap:Nat) (ex:Bool) (sz:Nat)
 |fn (f:Fn) (a b:List D)
 |ifc (t:TypeId) (v:D)
 |agg (cs:List D)
 |tup (vs:List D)
 deriving Inhabited
def d9:D:= .tup []
abbrev Fz:=Nat→Option (List AV)
def rdE(E:j6)(R:Fz):Id→Option (List AV)
 | .old b=>E b
 | .new k=>R k
def d9v:Id→Nat→Nat→Prop
 | .old _,_,_=>True
 | .new _,z,sz=>z=sz
mutual
def Rp(E:j6)(R:Fz):D→AV→Prop
 | .any,_=>True
 | .bool b,v=>v= .bool b
 | .int k n,v=>v= .int k n
 | .str s,v=>v= .str s
 | .nilPtr,v=>v= .nilPtr
 | .nilSlc,v=>v= .nilSlc
 | .nilMap,v=>v= .nilMap
 | .nilFn,v=>v= .nilFn
 | .nilIfc,v=>v= .nilIfc
 | .ptr k i,v=>v= .ptr (.new k) i
 | .rel k r i sz,v=>v= .ptr (.new k) (r*sz+i)
 | .elt row i,v=>∃o j all,v= .ptr o (j+i)∧rdE E R o=some all∧C8 E R row ((all.drop j).take row.length)∧((all.drop j).take row.length).all w7=true
 | .lst rows sz,v=>(rows=[]∧v= .nilSlc)∨∃o j cap ex z,v= .slc o j rows.length cap ex z∧d9v o z sz∧rows.length≤cap∧(∀row∈rows,row.length=sz)∧
   (rows=[]∨∃all,rdE E R o=some all∧a3G E R rows ((all.drop j).take (rows.length*sz))∧((all.drop j).take (rows.length*sz)).all w7=true)
 | .ext rows more sz,v=>∃o j cap ex z all,v= .slc o j rows.length cap ex z∧d9v o z sz∧rows.length+more.length≤cap∧(∀row∈rows,row.length=sz)∧(∀row∈more,row.length=sz)∧(rdE E R o=some all∨(rows=[]∧more=[]))∧
   a3G E R rows ((all.drop j).take (rows.length*sz))∧a3G E R more ((all.drop (j+rows.length*sz)).take (more.length*sz))∧((all.drop j).take ((rows.length+more.length)*sz)).all w7=true
 | .raw k i len cap ex sz,v=>v= .slc (.new k) (i*sz) len cap ex sz
 | .fn f a b,v=>∃a' b',v= .fn f a' b'∧C8 E R a a'∧C8 E R b b'
 | .ifc t d,v=>∃v',v= .ifc t v'∧Rp E R d v'
 | .agg cs,v=>∃vs,v= .agg vs∧C8 E R cs vs∧vs.all w7=true
 | .tup ds,v=>∃vs,v= .tup vs∧C8 E R ds vs
def C8(E:j6)(R:Fz):List D→List AV→Prop
 | [],l=>l=[]
 |d::ds,l=>∃v vs,l=v::vs∧Rp E R d v∧C8 E R ds vs
def a3G(E:j6)(R:Fz):List (List D)→List AV→Prop
 | [],l=>l=[]
 |row::rows,l=>∃vs ws,l=vs++ws∧C8 E R row vs∧a3G E R rows ws
end
def Fz.le(R R':Fz):Prop:=∀k cs,R k=some cs→R' k=some cs
theorem Fz.le_refl(R:Fz):R.le R:=fun _ _ h=>h
theorem Fz.le_trans{R R1 R2:Fz}(h:R.le R1)(h':R1.le R2):R.le R2:=fun k cs e=>h' _ _ (h _ _ e)
theorem d5K{E:j6}{R R':Fz}(h:R.le R'){o:Id}{all:List AV}(e:rdE E R o=some all):rdE E R' o=some all:=by
 cases o with
 |old b=>exact e
 |new k=>exact h _ _ e
mutual
theorem Rp.le{E:j6}{R R':Fz}(h:R.le R'):∀(d:D) (v:AV),Rp E R d v→Rp E R' d v
 | .any,_,_=>by simp only[Rp]
 | .bool b,v,e=>by simp only[Rp]at e ⊢;exact e
 | .int k n,v,e=>by simp only[Rp]at e ⊢;exact e
 | .str s,v,e=>by simp only[Rp]at e ⊢;exact e
 | .nilPtr,v,e=>by simp only[Rp]at e ⊢;exact e
 | .nilSlc,v,e=>by simp only[Rp]at e ⊢;exact e
 | .nilMap,v,e=>by simp only[Rp]at e ⊢;exact e
 | .nilFn,v,e=>by simp only[Rp]at e ⊢;exact e
 | .nilIfc,v,e=>by simp only[Rp]at e ⊢;exact e
 | .ptr k i,v,e=>by simp only[Rp]at e ⊢;exact e
 | .rel k r i sz,v,e=>by simp only[Rp]at e ⊢;exact e
 | .elt row i,v,e=>by
  simp only[Rp]at e ⊢
  obtain⟨o,j,all,e1,e2,e3,e4⟩:=e
  exact⟨o,j,all,e1,d5K h e2,C8.le h row _ e3,e4⟩
 | .lst rows sz,v,e=>by
  simp only[Rp]at e ⊢
  rcases e with e|⟨o,j,cap,ex,z,e1,e2,e3,e4,e5⟩
  ·exact .inl e
  refine .inr ⟨o,j,cap,ex,z,e1,e2,e3,e4, ?_⟩
  rcases e5 with e5|⟨all,e5,e6,e7⟩
  ·exact .inl e5
  ·exact .inr ⟨all,d5K h e5,a3G.le h rows _ e6,e7⟩
 | .ext rows more sz,v,e=>by
  simp only[Rp]at e ⊢
  obtain⟨o,j,cap,ex,z,all,e1,e2,e3,e4,e5,e6,e7,e8,e9⟩:=e
  exact⟨o,j,cap,ex,z,all,e1,e2,e3,e4,e5,e6.imp (d5K h) id,a3G.le h rows _ e7,a3G.le h more _ e8,e9⟩
 | .raw k i len cap ex sz,v,e=>by simp only[Rp]at e ⊢;exact e
 | .fn f a b,v,e=>by
  simp only[Rp]at e ⊢
  obtain⟨a',b',e1,e2,e3⟩:=e
  exact⟨a',b',e1,C8.le h a _ e2,C8.le h b _ e3⟩
 | .ifc t d,v,e=>by
  simp only[Rp]at e ⊢
  obtain⟨v',e1,e2⟩:=e
  exact⟨v',e1,Rp.le h d _ e2⟩
 | .agg cs,v,e=>by
  simp only[Rp]at e ⊢
  obtain⟨vs,e1,e2,e3⟩:=e
  exact⟨vs,e1,C8.le h cs _ e2,e3⟩
 | .tup ds,v,e=>by
  simp only[Rp]at e ⊢
  obtain⟨vs,e1,e2⟩:=e
  exact⟨vs,e1,C8.le h ds _ e2⟩
theorem C8.le{E:j6}{R R':Fz}(h:R.le R'):∀(ds:List D) (vs:List AV),C8 E R ds vs→C8 E R' ds vs
 | [],l,e=>by simp only[C8]at e ⊢;exact e
 |d::ds,l,e=>by
  simp only[C8]at e ⊢
  obtain⟨v,vs,e1,e2,e3⟩:=e
  exact⟨v,vs,e1,Rp.le h d _ e2,C8.le h ds _ e3⟩
theorem a3G.le{E:j6}{R R':Fz}(h:R.le R'):∀(rows:List (List D)) (vs:List AV),a3G E R rows vs→a3G E R' rows vs
 | [],l,e=>by simp only[a3G]at e ⊢;exact e
 |row::rows,l,e=>by
  simp only[a3G]at e ⊢
  obtain⟨vs,ws,e1,e2,e3⟩:=e
  exact⟨vs,ws,e1,C8.le h row _ e2,a3G.le h rows _ e3⟩
end
section
variable{E:j6}{R:Fz}
theorem C8.length:∀ {ds:List D} {vs:List AV},C8 E R ds vs→vs.length=ds.length
 | [],l,e=>by simp only[C8]at e;rw[e];rfl
 |d::ds,l,e=>by
  simp only[C8]at e
  obtain⟨v,vs,rfl,e2,e3⟩:=e
  rw[List.length_cons,List.length_cons,C8.length e3]
theorem K4:C8 E R [] []:=by simp only[C8]
theorem D4{d:D}{v:AV}{ds:List D}{vs:List AV}(h:Rp E R d v)(hs:C8 E R ds vs):C8 E R (d::ds) (v::vs):=by simp only[C8];exact⟨v,vs,rfl,h,hs⟩
theorem a7u:∀ {ds:List D} {vs:List AV},C8 E R ds vs→∀ {i:Nat} {d:D},ds[i]? =some d→∃v,vs[i]? =some v∧Rp E R d v
 | [],l,e,i,d,h=>by cases h
 |x::ds,l,e,i,d,h=>by
  simp only[C8]at e
  obtain⟨v,vs,rfl,e2,e3⟩:=e
  cases i with
  |zero=>cases h;exact⟨v,rfl,e2⟩
  |succ i=>exact a7u e3 (i:=i) h
theorem a7Y:∀ {ds:List D} {vs:List AV},vs.length=ds.length→(∀(i:Nat) (d:D) (v:AV),ds[i]? =some d→vs[i]? =some v→Rp E R d v)→C8 E R ds vs
 | [],[],_,_=>K4
 | [],_::_,h,_=>by cases h
 |_::_,[],h,_=>by cases h
 |d::ds,v::vs,hl,h=>D4 (h 0 d v rfl rfl) (a7Y (by simpa using hl) fun i d v h1 h2=>h (i+1) d v h1 h2)
theorem C8.set{ds:List D}{vs:List AV}(h:C8 E R ds vs)(i:Nat){d:D}{v:AV}(hd:Rp E R d v):C8 E R (ds.set i d) (vs.set i v):=by
 refine a7Y (by rw[List.length_set,List.length_set,h.length]) fun j d' v' h1 h2=> ?_
 rw[List.getElem?_set]at h1 h2
 have hl:=h.length
 by_cases e:i=j
 ·rw[if_pos e]at h1 h2
  split at h1
  ·split at h2
   ·cases h1;cases h2;exact hd
   ·cases h2
  ·cases h1
 ·rw[if_neg e]at h1 h2
  obtain⟨w,g1,g2⟩:=a7u h h1
  rw[h2]at g1;cases g1;exact g2
theorem C8.append{ds ds':List D}{vs vs':List AV}(h:C8 E R ds vs)(h':C8 E R ds' vs'):C8 E R (ds++ds') (vs++vs'):=by
 induction ds generalizing vs with
 |nil=>simp only[C8]at h;subst h;exact h'
 |cons d ds ih=>
  simp only[C8]at h
  obtain⟨v,vs,rfl,e2,e3⟩:=h
  exact D4 e2 (ih e3)
theorem C8.drop{ds:List D}{vs:List AV}(h:C8 E R ds vs)(n:Nat):C8 E R (ds.drop n) (vs.drop n):=
 a7Y (by rw[List.length_drop,List.length_drop,h.length]) fun i d v h1 h2=>by
  rw[List.getElem?_drop]at h1 h2
  obtain⟨w,g1,g2⟩:=a7u h h1
  rw[h2]at g1;cases g1;exact g2
theorem C8.take{ds:List D}{vs:List AV}(h:C8 E R ds vs)(n:Nat):C8 E R (ds.take n) (vs.take n):=
 a7Y (by rw[List.length_take,List.length_take,h.length]) fun i d v h1 h2=>by
  rw[List.getElem?_take]at h1 h2
  split at h1
  ·rename_i hi
   rw[if_pos hi]at h2
   obtain⟨w,g1,g2⟩:=a7u h h1
   rw[h2]at g1;cases g1;exact g2
  ·cases h1
theorem b1U:∀ {as bs:List D} {vs:List AV},C8 E R (as++bs) vs→∃v w,vs=v++w∧C8 E R as v∧C8 E R bs w
 | [],bs,vs,h=>⟨[],vs,rfl,K4,h⟩
 |a::as,bs,vs,h=>by
  simp only[List.cons_append,C8]at h
  obtain⟨v,vs,rfl,e2,e3⟩:=h
  obtain⟨v',w,rfl,h1,h2⟩:=b1U e3
  exact⟨v::v',w,rfl,D4 e2 h1,h2⟩
theorem U9:∀ {rows:List (List D)} {vs:List AV},a3G E R rows vs↔C8 E R rows.flatten vs
 | [],vs=>by simp only[a3G,List.flatten_nil,C8]
 |row::rows,vs=>by
  simp only[a3G,List.flatten_cons]
  constructor
  ·rintro⟨v,w,rfl,h1,h2⟩
   exact h1.append (U9.1 h2)
  ·intro h
   obtain⟨v,w,rfl,h1,h2⟩:=b1U h
   exact⟨v,w,rfl,h1,U9.2 h2⟩
theorem a8W:Rp E R d9 A8:=by simp only[d9,Rp];exact⟨[],rfl,K4⟩
theorem c2h{ds:List D}{vs:List AV}(h:C8 E R ds vs)(t:Nat):Rp E R (ds.getD t d9) (vs.getD t A8):=by
 rw[List.getD_eq_getElem?_getD,List.getD_eq_getElem?_getD]
 cases e:ds[t]? with
 |none=>
  have:vs[t]? =none:=List.getElem?_eq_none (by rw[h.length];exact List.getElem?_eq_none_iff.1 e)
  rw[this];exact a8W
 |some d=>
  obtain⟨v,g1,g2⟩:=a7u h e
  rw[g1];exact g2
end
theorem D6{α:Type}{rows:List (List α)}{sz:Nat}(h:∀row∈rows,row.length=sz):rows.flatten.length=rows.length*sz:=by
 induction rows with
 |nil=>simp
 |cons r rs ih=>
  rw[List.flatten_cons,List.length_append,h r List.mem_cons_self,ih fun x hx=>h x (List.mem_cons_of_mem _ hx),List.length_cons,Nat.succ_mul,Nat.add_comm]
theorem a7D{α:Type}{rows:List (List α)}{sz:Nat}(h:∀row∈rows,row.length=sz)(n:Nat):rows.flatten.drop (n*sz)=(rows.drop n).flatten:=by
 induction rows generalizing n with
 |nil=>simp
 |cons r rs ih=>
  cases n with
  |zero=>simp
  |succ n=>
   have hr:=h r List.mem_cons_self
   rw[List.flatten_cons,List.drop_succ_cons, ←ih (fun x hx=>h x (List.mem_cons_of_mem _ hx)) n,List.drop_append,List.drop_of_length_le (by rw[hr,Nat.succ_mul];omega),List.nil_append,hr,Nat.succ_mul,Nat.add_sub_cancel]
theorem a5d{α:Type}{rows:List (List α)}{sz:Nat}(h:∀row∈rows,row.length=sz)(n:Nat):rows.flatten.take (n*sz)=(rows.take n).flatten:=by
 induction rows generalizing n with
 |nil=>simp
 |cons r rs ih=>
  cases n with
  |zero=>simp
  |succ n=>
   have hr:=h r List.mem_cons_self
   rw[List.flatten_cons,List.take_succ_cons,List.flatten_cons, ←ih (fun x hx=>h x (List.mem_cons_of_mem _ hx)) n,List.take_append,List.take_of_length_le (by rw[hr,Nat.succ_mul];omega),hr,Nat.succ_mul,Nat.add_sub_cancel]
theorem b5V{α:Type}{rows:List (List α)}{sz:Nat}(h:∀row∈rows,row.length=sz){r:Nat}{row:List α}(hr:rows[r]? =some row):(rows.flatten.drop (r*sz)).take sz=row:=by
 rw[a7D h]
 have hlt:=(List.getElem?_eq_some_iff.1 hr).1
 have e:rows.drop r=row::rows.drop (r+1):=by
  rw[List.drop_eq_getElem_cons hlt]
  congr 1
  exact(List.getElem?_eq_some_iff.1 hr).2
 rw[e,List.flatten_cons,List.take_append,List.take_of_length_le (by rw[h row (List.mem_of_getElem? hr)];omega),h row (List.mem_of_getElem? hr),Nat.sub_self,List.take_zero,List.append_nil]
structure K8 where
 sz:Nat
 rows:List (List D)
 acs:List AV
abbrev b9:=Nat→Option K8
def b9.set(S:b9)(k:Nat)(o:K8):b9:=fun j=>if j=k then some o else S j
def b9.erase(S:b9)(k:Nat):b9:=fun j=>if j=k then none else S j
def b9.none:b9:=fun _=>Option.none
def b9.le(S S':b9):Prop:=∀k o,S k=some o→S' k=some o
theorem b9.set_same(S:b9)(k:Nat)(o:K8):(S.set k o) k=some o:=if_pos rfl
theorem b9.set_ne(S:b9)(k:Nat)(o:K8){j:Nat}(h:j≠k):(S.set k o) j=S j:=if_neg h
theorem b9.erase_same(S:b9)(k:Nat):(S.erase k) k=Option.none:=if_pos rfl
theorem b9.erase_ne(S:b9)(k:Nat){j:Nat}(h:j≠k):(S.erase k) j=S j:=if_neg h
theorem b9.le_refl(S:b9):S.le S:=fun _ _ h=>h
theorem b9.le_trans{S S1 S2:b9}(h:S.le S1)(h':S1.le S2):S.le S2:=fun k o e=>h' _ _ (h _ _ e)
theorem b9.le_set{S S':b9}(h:S.le S'){k:Nat}{o:K8}(hk:S k=Option.none):S.le (S'.set k o):=fun j x e=>by
 rw[b9.set_ne]
 ·exact h _ _ e
 ·rintro rfl;rw[hk]at e;cases e
theorem b9.le_erase{S S':b9}(h:S.le S'){k:Nat}(hk:S k=Option.none):S.le (S'.erase k):=fun j x e=>by
 rw[b9.erase_ne]
 ·exact h _ _ e
 ·rintro rfl;rw[hk]at e;cases e
theorem b9.erase_le(S:b9)(k:Nat):(S.erase k).le S:=fun j x e=>by
 unfold b9.erase at e
 split at e
 ·cases e
 ·exact e
theorem b9.set_set(S:b9)(k:Nat)(a b:K8):(S.set k a).set k b=S.set k b:=by
 funext j;unfold b9.set;split<;>rfl
theorem b9.set_comm(S:b9){k l:Nat}(h:k≠l)(a b:K8):(S.set k a).set l b=(S.set l b).set k a:=by
 funext j;unfold b9.set
 by_cases h1:j=l
 ·subst h1;rw[if_pos rfl,if_neg (Ne.symm h),if_pos rfl]
 ·rw[if_neg h1,if_neg h1]
theorem b9.erase_set(S:b9)(k:Nat)(a:K8)(h:S k=Option.none):(S.set k a).erase k=S:=by
 funext j;unfold b9.erase b9.set
 by_cases h1:j=k
 ·subst h1;rw[if_pos rfl,h]
 ·rw[if_neg h1,if_neg h1]
structure G4 (E:j6) (R:Fz) (S:b9) (H:AHeap):Prop where
 frozen:∀k cs,R k=some cs→∃pre,H.get k=some (.cells cs true pre)
 own:∀k o,S k=some o→R k=none∧(∃pre,H.get k=some (.cells o.acs true pre))∧o.acs.all w7=true∧(∀row∈o.rows,row.length=o.sz)∧C8 E R o.rows.flatten o.acs
section
variable{E:j6}{R:Fz}{S:b9}{H:AHeap}
theorem G4.less(h:G4 E R S H){S':b9}(hs:S'.le S):G4 E R S' H:=⟨h.frozen,fun k o e=>h.own k o (hs _ _ e)⟩
theorem G4.fresh(h:G4 E R S H)(F:P8 H):R H.next=none∧S H.next=none:=by
 have g:=F.above H.next (Nat.le_refl _)
 constructor
 ·cases e:R H.next with
  |none=>rfl
  |some cs=>obtain⟨_,h1⟩:=h.frozen _ _ e;rw[g]at h1;cases h1
 ·cases e:S H.next with
  |none=>rfl
  |some o=>obtain⟨_,⟨_,h1⟩,_⟩:=h.own _ _ e;rw[g]at h1;cases h1
theorem G4.stays(h:G4 E R S H){H':AHeap}(hs:e0v H H'):G4 E R S H':=
 ⟨fun k cs e=>(h.frozen k cs e).imp fun pre g=>hs _ _ _ g,fun k o e=>by
  obtain⟨h1,⟨pre,h2⟩,h3⟩:=h.own k o e
  exact⟨h1,⟨pre,hs _ _ _ h2⟩,h3⟩⟩
theorem G4.but(h:G4 E R S H){H':AHeap}{b:Nat}(hs:But b H H')(hb:R b=none):G4 E R (S.erase b) H':=
 ⟨fun k cs e=>(h.frozen k cs e).imp fun pre g=>hs _ _ _ (fun e'=>by subst e';rw[hb]at e;cases e) g,fun k o e=>by
  unfold b9.erase at e
  split at e
  ·cases e
  ·rename_i hk
   obtain⟨h1,⟨pre,h2⟩,h3⟩:=h.own k o e
   exact⟨h1,⟨pre,hs _ _ _ hk h2⟩,h3⟩⟩
theorem G4.put(h:G4 E R S H){k:Nat}{o:K8}(hr:R k=none){pre:List Nat}(hg:H.get k=some (.cells o.acs true pre))(hsc:o.acs.all w7=true)(hl:∀row∈o.rows,row.length=o.sz)(hp:C8 E R o.rows.flatten o.acs):G4 E R (S.set k o) H:=
 ⟨h.frozen,fun j x e=>by
  unfold b9.set at e
  split at e
  ·rename_i hj;subst hj;cases e;exact⟨hr,⟨pre,hg⟩,hsc,hl,hp⟩
  ·exact h.own j x e⟩
theorem G4.freeze(h:G4 E R S H){k:Nat}{o:K8}(hk:S k=some o):G4 E (fun j=>if j=k then some o.acs else R j) (S.erase k) H∧R.le fun j=>if j=k then some o.acs else R j:=by
 obtain⟨h1,⟨pre,h2⟩,h3,h4,h5⟩:=h.own k o hk
 have hle:R.le fun j=>if j=k then some o.acs else R j:=fun j cs e=>by
  show(if j=k then some o.acs else R j)=some cs
  rw[if_neg]
  ·exact e
  ·rintro rfl;rw[h1]at e;cases e
 refine⟨⟨fun j cs e=> ?_,fun j x e=> ?_⟩,hle⟩
 ·replace e:(if j=k then some o.acs else R j)=some cs:=e
  split at e
  ·rename_i hj;subst hj;cases e;exact⟨pre,h2⟩
  ·exact h.frozen j cs e
 ·unfold b9.erase at e
  split at e
  ·cases e
  ·rename_i hj
   obtain⟨g1,g2,g3,g4,g5⟩:=h.own j x e
   exact⟨by show(if j=k then some o.acs else R j)=none;rw[if_neg hj];exact g1,g2,g3,g4,C8.le hle _ _ g5⟩
theorem G4.start(H:AHeap):G4 E (fun _=>Option.none) b9.none H:=⟨fun k cs e=>(by cases e),fun k o e=>(by cases e)⟩
end
end
section
def a0J:AV→D
 | .bool b=> .bool b
 | .int k n=> .int k n
 | .str s=> .str s
 | .nilPtr=> .nilPtr
 | .nilSlc=> .nilSlc
 | .nilMap=> .nilMap
 | .nilFn=> .nilFn
 | .nilIfc=> .nilIfc
 |_=> .any
def d8f:AV→D
 | .agg cs=>if cs.all w7 then .agg (cs.map a0J) else .any
 | .tup []=> .tup []
 |v=>a0J v
def q6:D→Option (List D)
 | .any| .tup _=>none
 | .agg cs=>some cs
 |d=>some [d]
def o0:List D→Nat→List D→List D
 |cs,_,[]=>cs
 |cs,i,v::vs=>o0 (cs.set i v) (i+1) vs
def C7(T:List D):Operand→D
 | .tmp t=>T.getD t d9
 | .const v=>d8f (d3M v)
 | .global _=> .any
 | .func f=> .fn (.func f) [] []
def c4K(S:b9):D→Option (List D×Nat)
 | .ptr k i=>match S k with
  |some o=>match o.rows with
   | [cs]=>some (cs,i)
   |_=>none
  |none=>none
 | .rel k r i sz=>match S k with
  |some o=>if o.sz=sz then match o.rows[r]? with
   |some row=>some (row,i)
   |none=>none
   else none
  |none=>none
 | .elt row i=>some (row,i)
 |_=>none
def j2(S:b9)(n:Nat)(a:D):Option D:=match c4K S a with
 |some (row,i)=>if 0<n∧i+n≤row.length then some (.agg ((row.drop i).take n)) else none
 |none=>none
def b8(S:b9)(a:D):Option D:=match c4K S a with
 |some (row,i)=>row[i]?
 |none=>none
def c2D:D→Option Nat
 | .ptr k _| .rel k _ _ _| .raw k _ _ _ _ _=>some k
 |_=>none
def o7(c a b:D):Option D:=match c with
 | .bool t=>some (if t then a else b)
 |_=>none
def a1v:D→Option D
 | .nilPtr| .nilIfc| .nilFn| .any| .fn (.method _) _ _=>none
 |y=>some y
def o4(x:D)(ix:Nat):Option D:=match x with
 | .tup vs=>vs[ix]?
 |_=>none
def i6(op:BinOp)(a b:D):Option D:=match a,b with
 | .int k x, .int k' y=>match op with
  | .shl=>if y<0 then none else some (.int k (k.wrap (x*2^(min y.toNat k.bits))))
  | .shr=>if y<0 then none else some (.int k (x.fdiv (2^(min y.toNat k.bits))))
  |_=>if k=k' then(R3 op k x y).map a0J else none
 |_,_=>none
def a3I(op:BinOp)(a b:D):Option D:=match a,b with
 | .str x, .str y=>(b0D op x y).map a0J
 |_,_=>none
def c2O(op:BinOp)(r:Option Bool):Option D:=match op with
 | .eql=>r.map .bool
 | .neq=>r.map fun b=> .bool !b
 |_=>none
def e0Y(a b:D):Option Bool:=match a,b with
 | .bool x, .bool y=>some (x==y)
 |_,_=>none
def d8X(a b:D):Option Bool:=match a,b with
 | .nilSlc, .nilSlc=>some true
 | .nilSlc, .lst (_::_) _| .nilSlc, .ext _ _ _| .nilSlc, .raw _ _ _ _ _ _| .lst (_::_) _, .nilSlc| .ext _ _ _, .nilSlc| .raw _ _ _ _ _ _, .nilSlc=>some false
 |_,_=>none
def e2s(a b:D):Option Bool:=match a,b with
 | .nilPtr, .nilPtr=>some true
 | .nilPtr, .ptr _ _| .nilPtr, .rel _ _ _ _| .nilPtr, .elt _ _| .ptr _ _, .nilPtr| .rel _ _ _ _, .nilPtr| .elt _ _, .nilPtr=>some false
 |_,_=>none
def e2x(a b:D):Option Bool:=match a,b with
 | .nilFn, .nilFn=>some true
 | .nilFn, .fn _ _ _| .fn _ _ _, .nilFn=>some false
 |_,_=>none
def e2m(c:Bool)(a b:D):Option Bool:=match a,b with
 | .nilIfc, .nilIfc=>if c then some true else none
 | .nilIfc, .ifc _ _| .ifc _ _, .nilIfc=>some false
 |_,_=>none
mutual
def d8u:D→Option AV
 | .bool b=>some (.bool b)
 | .int k n=>some (.int k n)
 | .str s=>some (.str s)
 | .nilPtr=>some .nilPtr
 | .nilSlc=>some .nilSlc
 | .nilMap=>some .nilMap
 | .nilFn=>some .nilFn
 | .nilIfc=>some .nilIfc
 | .ptr k i=>some (.ptr (.new k) i)
 | .agg cs=>match d1u cs with
  |some l=>some (.agg l)
  |none=>none
 |_=>none
def d1u:List D→Option (List AV)
 | []=>some []
 |d::ds=>match d8u d,d1u ds with
  |some v,some vs=>some (v::vs)
  |_,_=>none
end
def d8w(P:Program)(t:TypeId)(a b:D):Option Bool:=match a,b with
 | .agg x, .agg y=>match d1u x,d1u y with
  |some x,some y=>if P.eqGuardType P.depth t then none else eqA P Op.maxDepth t (.agg x) (.agg y)
  |_,_=>none
 |_,_=>none
def e1t(P:Program)(op:BinOp)(t:TypeId)(x y:Operand)(a b:D):Option D:=match P.underlying t with
 |some (.int _)=>i6 op a b
 |some .string=>a3I op a b
 |some .bool=>c2O op (e0Y a b)
 |some (.slice _)=>c2O op (d8X a b)
 |some (.pointer _)=>c2O op (e2s a b)
 |some (.func ..)=>c2O op (e2x a b)
 |some (.interface _)=>c2O op (e2m (Region.isConst x||Region.isConst y) a b)
 |some (.struct _)=>c2O op (d8w P t a b)
 |_=>none
def unD(op:UnOp)(x:D):Option D:=match op,x with
 | .neg, .int k n=>some (.int k (k.wrap (0 - n)))
 | .xor, .int k n=>some (.int k (k.wrap (BitVec.ofInt k.bits (if k.signed then -1 else k.max) ^^^ BitVec.ofInt k.bits n).toNat))
 | .not, .bool b=>some (.bool !b)
 |_,_=>none
def L2(S:b9)(sz:Nat):D→Option (List (List D))
 | .nilSlc=>some []
 | .lst rows z=>if z=sz then some rows else none
 | .ext rows _ z=>if z=sz then some rows else none
 | .raw k i len _ _ z=>match S k with
  |some o=>if z=sz∧o.sz=sz∧i+len≤o.rows.length then some ((o.rows.drop i).take len) else none
  |none=>none
 |_=>none
def c7G:List D→Option UInt8
 | [.int .u8 n]=>some (UInt8.ofNat n.toNat)
 |_=>none
def E7(k:IntKind):D→Option D
 | .int _ n=>some (.int k (k.wrap n))
 |_=>none
def d1U:D→Option D
 | .str s=>some (.str s)
 |_=>none
def P6(S:b9)(x:D):Option D:=match L2 S 1 x with
 |some rows=>(rows.mapM c7G).map .str
 |none=>none
def d8x(P:Program)(S:b9)(src dst:TypeId)(x:D):Option D:=match P.underlying src,P.underlying dst with
 |some (.int _),some (.int k)=>E7 k x
 |some .string,some .string=>d1U x
 |some (.slice e),some .string=>match P.underlying e with
  |some (.int .u8)=>P6 S x
  |_=>none
 |_,_=>none
def I1(x:D)(y:Nat):Option Nat:=match x with
 | .int _ i=>if 0≤i∧i≤y then some i.toNat else none
 |_=>none
def d1T(cap:Nat):Option D→Option Nat
 |some v=>I1 v cap
 |none=>some cap
def b5N(len m:Nat):Option D→Option D→Option Nat
 |some v,_=>I1 v m
 |none,none=>some len
 |none,some _=>none
def c6d(h:Nat):Option D→Option Nat
 |some v=>I1 v h
 |none=>some 0
def Q8(len cap:Nat)(low high max:Option D):Option (Nat×Nat×Nat):=
 (d1T cap max).bind fun m=>(b5N len m high max).bind fun h=>(c6d h low).bind fun l=>some (l,h,m)
def c8o(x:D)(lo hi:Option D):Option D:=match x with
 | .str s=>(Q8 s.length s.length lo hi none).map fun r=> .str ((s.drop r.1).take (r.2.1 - r.1))
 |_=>none
def c9F(rows more:List (List D))(sz:Nat):D:=match more with
 | []=> .lst rows sz
 |m=> .ext rows m sz
def J1(sz:Nat)(x:D)(lo hi mx:Option D):Option D:=match x with
 | .nilSlc=>(Q8 0 0 lo hi mx).map fun _=> .nilSlc
 | .lst rows z=>if z=sz then(Q8 rows.length rows.length lo hi mx).map fun r=>c9F ((rows.drop r.1).take (r.2.1 - r.1)) ((rows.drop r.2.1).take (r.2.2 - r.2.1)) sz else none
 | .ext rows more z=>if z=sz then(Q8 rows.length (rows++more).length lo hi mx).map fun r=>c9F (((rows++more).drop r.1).take (r.2.1 - r.1)) (((rows++more).drop r.2.1).take (r.2.2 - r.2.1)) sz else none
 | .raw k i len cap ex z=>if z=sz then(Q8 len cap lo hi mx).map fun r=> .raw k (i+r.1) (r.2.1 - r.1) (r.2.2 - r.1) (ex||mx.isSome) sz else none
 |_=>none
def d5n(P:Program)(t:TypeId)(x:D)(lo hi mx:Option D):Option D:=match P.underlying t with
 |some .string=>match mx with
  |none=>c8o x lo hi
  |some _=>none
 |some (.slice e)=>match E2 P e with
  |some sz=>J1 sz x lo hi mx
  |none=>none
 |_=>none
def i5(off:Nat):D→Option D
 | .ptr k i=>some (.ptr k (i+off))
 | .rel k r i sz=>some (.rel k r (i+off) sz)
 | .elt row i=>some (.elt row (i+off))
 |_=>none
def c7y(P:Program)(s:TypeId)(x:D)(field:Nat):Option D:=match a7w P s field with
 |some f=>match E2 P f.type with
  |some (_+1)=>i5 f.offset x
  |_=>none
 |none=>none
def d2A(off n:Nat):D→Option D
 | .agg cs=>some (.agg ((cs.drop off).take n))
 |_=>none
def d2l(off:Nat):D→Option D
 | .agg cs=>cs[off]?
 |_=>none
def d3A(P:Program)(t:TypeId)(off:Nat)(x:D):Option D:=match b3t P t with
 |some true=>match E2 P t with
  |some n=>d2A off n x
  |none=>none
 |some false=>d2l off x
 |none=>none
def d6e(P:Program)(s:TypeId)(x:D)(field:Nat):Option D:=match a7w P s field with
 |some f=>d3A P f.type f.offset x
 |none=>none
def p6(sz:Nat)(x ix:D):Option D:=match ix with
 | .int _ n=>match x with
  | .lst rows z=>if z=sz∧0≤n then match rows[n.toNat]? with
   |some row=>some (.elt row 0)
   |none=>none
   else none
  | .ext rows _ z=>if z=sz∧0≤n then match rows[n.toNat]? with
   |some row=>some (.elt row 0)
   |none=>none
   else none
  | .raw k i len _ _ z=>if z=sz∧0≤n∧n<len then some (.rel k (i+n.toNat) 0 sz) else none
  |_=>none
 |_=>none
def d9t(len sz:Nat)(x ix:D):Option D:=match ix with
 | .int _ n=>if 0≤n∧n<len then i5 (n.toNat*sz) x else none
 |_=>none
def c7V(P:Program)(t:TypeId)(x ix:D):Option D:=match P.underlying t with
 |some (.slice e)=>match E2 P e with
  |some sz=>p6 sz x ix
  |none=>none
 |some (.array len e)=>match E2 P e with
  |some sz=>d9t len sz x ix
  |none=>none
 |_=>none
def d2q(x ix:D):Option D:=match ix,x with
 | .int _ n, .str s=>if 0≤n then match s[n.toNat]? with
  |some b=>some (.int .u8 b.toNat)
  |none=>none
  else none
 |_,_=>none
def d9G(len sz:Nat)(ag:Bool)(x ix:D):Option D:=match ix with
 | .int _ n=>if 0≤n∧n<len then(match ag with
  |true=>d2A (n.toNat*sz) sz x
  |false=>d2l (n.toNat*sz) x) else none
 |_=>none
def d5r(P:Program)(t:TypeId)(x ix:D):Option D:=match P.underlying t with
 |some .string=>d2q x ix
 |some (.array len e)=>match E2 P e,b3t P e with
  |some sz,some ag=>d9G len sz ag x ix
  |_,_=>none
 |_=>none
def J3:D→Option D
 | .str s=>some (.int .i64 s.length)
 |_=>none
def l9:D→Option D
 | .nilSlc=>some (.int .i64 0)
 | .lst rows _=>some (.int .i64 rows.length)
 | .ext rows _ _=>some (.int .i64 rows.length)
 | .raw _ _ len _ _ _=>some (.int .i64 len)
 |_=>none
def e1p(P:Program)(t:TypeId)(x:D):Option D:=match P.underlying t with
 |some .string=>J3 x
 |some (.slice _)=>l9 x
 |some (.array n _)=>some (.int .i64 n)
 |_=>none
def d4j:D→Option D
 | .nilSlc=>some (.int .i64 0)
 | .raw _ _ _ cap true _=>some (.int .i64 cap)
 |_=>none
def e1B(P:Program)(t:TypeId)(x:D):Option D:=match P.underlying t with
 |some (.slice _)=>d4j x
 |some (.array n _)=>some (.int .i64 n)
 |_=>none
def mmD(isMax:Bool)(x y:D):Option D:=match x,y with
 | .int k a, .int _ b=>some (.int k (if isMax then(if b>a then b else a) else(if b<a then b else a)))
 |_,_=>none
def c1u(isMax:Bool):List D→Option D
 | []=>none
 |x::rest=>rest.foldlM (mmD isMax) x
def d5E(P:Program)(t:TypeId)(x:D):Option D:=match P.underlying t with
 |some (.interface _)=>none
 |some _=>some (.ifc t x)
 |none=>none
def asD(t:TypeId)(z:D)(ok:Bool)(x:D):Option D:=match x with
 | .nilIfc=>if ok then some (.tup [z, .bool false]) else none
 | .ifc t' v=>if t'=t then some (if ok then .tup [v, .bool true]else v) else if ok then some (.tup [z, .bool false]) else none
 |_=>none
def d3h(P:Program)(x:D)(asserted:TypeId)(ok:Bool):Option D:=match P.underlying asserted with
 |some (.interface _)=>none
 |some _=>match U3 P asserted with
  |some z=>asD asserted (d8f z) ok x
  |none=>none
 |none=>none
def s5:List D→List (Nat×Nat×D)→Option (List D)
 |cs,[]=>some cs
 |cs,(off,size,v)::rest=>match q6 v with
  |some ds=>if ds.length=size∧off+size≤cs.length then s5 (o0 cs off ds) rest else none
  |none=>none
def b7p(place:Nat→Option (Nat×Nat)):List (Nat×D)→Option (List (Nat×Nat×D))
 | []=>some []
 |(i,v)::rest=>match place i with
  |some (off,size)=>match b7p place rest with
   |some l=>some ((off,size,v)::l)
   |none=>none
  |none=>none
def B8(r:Option (List D)):Option D:=match r with
 |some cs=>some (.agg cs)
 |none=>none
def d5Q(P:Program)(t:TypeId)(parts:List (Nat×D)):Option D:=match U3 P t with
 |some (.agg z)=>if z.all w7 then match P.underlying t with
  |some (.struct fields)=>match fields.toList.mapM fun f=>(E2 P f.type).map fun s=>(f.offset,s) with
   |some places=>match b7p (places[·]?) parts with
    |some l=>B8 (s5 (z.map a0J) l)
    |none=>none
   |none=>none
  |some (.array _ e)=>match E2 P e with
   |some size=>match b7p (fun i=>some (i*size,size)) parts with
    |some l=>B8 (s5 (z.map a0J) l)
    |none=>none
   |none=>none
  |_=>none
  else none
 |_=>none
def d7h(P:Program)(S:b9)(t:TypeId)(a:D):Option D:=match b3t P t with
 |some true=>match E2 P t with
  |some n=>j2 S n a
  |none=>none
 |some false=>b8 S a
 |none=>none
def e0W(P:Program)(T:List D)(S:b9)(o:Oper):Option D:=
 match o.op with
 | .move x| .assign x=>some (C7 T x)
 | .pick c a b=>o7 (C7 T c) (C7 T a) (C7 T b)
 | .build t parts=>d5Q P t (parts.toList.map fun p=>(p.1,C7 T p.2))
 | .load t a=>d7h P S t (C7 T a)
 | .nilCheck x=>a1v (C7 T x)
 | .binOp op t x y _=>e1t P op t x y (C7 T x) (C7 T y)
 | .unOp op _ x=>unD op (C7 T x)
 | .convert src dst x=>d8x P S src dst (C7 T x)
 | .makeInterface t x=>d5E P t (C7 T x)
 | .makeFunc fn first captured=>some (.fn fn (first.toList.map (C7 T)) (captured.toList.map (C7 T)))
 | .slice t x lo hi mx=>d5n P t (C7 T x) (lo.map (C7 T)) (hi.map (C7 T)) (mx.map (C7 T))
 | .fieldAddr s x f=>c7y P s (C7 T x) f
 | .field s x f=>d6e P s (C7 T x) f
 | .indexAddr t x ix=>c7V P t (C7 T x) (C7 T ix)
 | .index t x ix=>d5r P t (C7 T x) (C7 T ix)
 | .typeAssert x _ asserted ok=>d3h P (C7 T x) asserted ok
 | .extract t ix=>o4 (C7 T t) ix
 | .call c=>match c.callee with
  | .builtin b=>match b,c.args.toList.map (C7 T),c.argTypes.toList with
   | .len,[x],[t]=>e1p P t x
   | .cap,[x],[t]=>e1B P t x
   | .min,l,_=>c1u false l
   | .max,l,_=>c1u true l
   |_,_,_=>none
  |_=>none
 |_=>none
def c3B(T:List D)(o:Oper):Option Nat:=match o.op with
 | .load _ a=>c2D (C7 T a)
 | .convert _ _ x=>c2D (C7 T x)
 |_=>none
structure Agr (R:Fz) (S:b9) (k:Option Nat) (H:AHeap):Prop where
 fz:∀j cs,R j=some cs→∃w p,H.get j=some (.cells cs w p)
 st:∀j o,k=some j→S j=some o→∃w p,H.get j=some (.cells o.acs w p)
theorem G4.agr{E:j6}{R:Fz}{S:b9}{H:AHeap}(h:G4 E R S H)(k:Option Nat):Agr R S k H:=
 ⟨fun j cs e=>let ⟨pre,g⟩:=h.frozen j cs e;⟨_,pre,g⟩,fun j o _ e=>let ⟨_,⟨pre,g⟩,_⟩:=h.own j o e;⟨_,pre,g⟩⟩
end
section
section
variable{P:Program}{E:j6}{R:Fz}{S:b9}{H0:AHeap}
theorem c0y{v:AV}:Rp E R (a0J v) v:=by
 cases v<;>simp only[a0J,Rp]
theorem c4g:∀l:List AV,C8 E R (l.map a0J) l
 | []=>K4
 |v::l=>D4 c0y (c4g l)
theorem d2R{v:AV}:Rp E R (d8f v) v:=by
 unfold d8f
 split
 ·rename_i cs
  split
  ·rename_i h
   simp only[Rp]
   exact⟨cs,rfl,c4g cs,h⟩
  ·simp only[Rp]
 ·exact a8W
 ·exact c0y
theorem A1{T:List D}{avs:List AV}(h:C8 E R T avs)(x:Operand):Rp E R (C7 T x) (p8 avs x):=by
 cases x with
 |tmp t=>exact c2h h t
 |const v=>exact d2R
 |global g=>simp only[C7,Rp]
 |func f=>
  simp only[C7,p8,Rp]
  exact⟨[],[],rfl,K4,K4⟩
theorem a9m{T:List D}{avs:List AV}(h:C8 E R T avs):∀l:List Operand,C8 E R (l.map (C7 T)) (l.map (p8 avs))
 | []=>K4
 |x::l=>D4 (A1 h x) (a9m h l)
theorem b5M{d:D}{v:AV}(h:Rp E R d v){ds:List D}(hc:q6 d=some ds):C8 E R ds v.cells∧v.cells.all w7=true:=by
 cases d<;>simp only[q6,Option.some.injEq]at hc<;>try (cases hc;done)
 case agg cs=>
  subst hc
  simp only[Rp]at h
  obtain⟨vs,rfl,h1,h2⟩:=h
  exact⟨h1,h2⟩
 all_goals
  subst hc
  have hR:=h
  simp only[Rp]at h
  first
   |(subst h;exact⟨D4 hR K4,rfl⟩)
   |(rcases h with ⟨_,rfl⟩|⟨o,j,cap,ex,z,rfl,_⟩<;>exact⟨D4 hR K4,rfl⟩)
   |(obtain⟨o,j,cap,ex,z,all,rfl,_⟩:=h;exact⟨D4 hR K4,rfl⟩)
   |(obtain⟨o,j,all,rfl,_⟩:=h;exact⟨D4 hR K4,rfl⟩)
   |(obtain⟨a',b',rfl,_⟩:=h;exact⟨D4 hR K4,rfl⟩)
   |(obtain⟨v',rfl,_⟩:=h;exact⟨D4 hR K4,rfl⟩)
theorem c4d{o:Id}{all:List AV}(h:rdE E R o=some all){k:Option Nat}{H:AHeap}(hA:Agr R S k H):cellsOf E H o=some all:=by
 cases o with
 |old b=>exact h
 |new j=>
  obtain⟨w,p,g⟩:=hA.fz j all h
  simp only[cellsOf,g]
theorem W4{l:List AV}(h:l.all w7=true)(n:Nat):(l.drop n).all w7=true:=
 List.all_eq_true.2 fun x hx=>List.all_eq_true.1 h x (List.mem_of_mem_drop hx)
theorem V4{l:List AV}(h:l.all w7=true)(n:Nat):(l.take n).all w7=true:=
 List.all_eq_true.2 fun x hx=>List.all_eq_true.1 h x (List.mem_of_mem_take hx)
theorem d4b(hC:G4 E R S H0){a:D}{v:AV}(h:Rp E R a v){row:List D}{i:Nat}(hr:c4K S a=some (row,i)):
  ∃o j all,v= .ptr o (j+i)∧C8 E R row ((all.drop j).take row.length)∧((all.drop j).take row.length).all w7=true∧∀H,Agr R S (c2D a) H→cellsOf E H o=some all:=by
 cases a<;>simp only[c4K]at hr<;>try (cases hr;done)
 case ptr k j=>
  simp only[Rp]at h
  subst h
  cases hk:S k with
  |none=>rw[hk]at hr;cases hr
  |some o=>
   simp only[hk]at hr
   obtain⟨h1,⟨pre,h2⟩,h3,h4,h5⟩:=hC.own k o hk
   split at hr
   ·rename_i cs hcs
    cases hr
    rw[hcs,List.flatten_singleton]at h5
    have e:o.acs.take row.length=o.acs:=List.take_of_length_le (by rw[h5.length];exact Nat.le_refl _)
    refine⟨.new k,0,o.acs,by rw[Nat.zero_add], ?_, ?_,fun H hA=> ?_⟩
    ·rw[List.drop_zero,e];exact h5
    ·rw[List.drop_zero,e];exact h3
    ·obtain⟨w,p,g⟩:=hA.st k o rfl hk
     simp only[cellsOf,g]
   ·cases hr
 case rel k r j sz=>
  simp only[Rp]at h
  subst h
  cases hk:S k with
  |none=>rw[hk]at hr;cases hr
  |some o=>
   simp only[hk]at hr
   obtain⟨h1,⟨pre,h2⟩,h3,h4,h5⟩:=hC.own k o hk
   split at hr
   ·rename_i hsz
    split at hr
    ·rename_i row' hrow
     cases hr
     have hl:row.length=sz:=by rw[h4 row (List.mem_of_getElem? hrow),hsz]
     refine⟨.new k,r*sz,o.acs,rfl, ?_,V4 (W4 h3 _) _,fun H hA=> ?_⟩
     ·have:=(h5.drop (r*sz)).take row.length
      rw[←hsz]at this hl ⊢
      rw[hl,b5V h4 hrow]at this
      rw[hl]
      exact this
     ·obtain⟨w,p,g⟩:=hA.st k o rfl hk
      simp only[cellsOf,g]
    ·cases hr
   ·cases hr
 case elt row' j=>
  cases hr
  simp only[Rp]at h
  obtain⟨o,j',all,rfl,e2,e3,e4⟩:=h
  exact⟨o,j',all,rfl,e3,e4,fun H hA=>c4d e2 hA⟩
theorem b1J{α:Type}{all:List α}{j L i n:Nat}(h:i+n≤L):(all.drop (j+i)).take n=(((all.drop j).take L).drop i).take n:=by
 rw[List.drop_take,List.take_take,List.drop_drop,Nat.min_eq_left (by omega)]
theorem d6G(hC:G4 E R S H0){t:TypeId}{a:D}{v:AV}(h:Rp E R a v){d:D}(hd:d7h P S t a=some d):
  ∃x,Rp E R d x∧∀H,Agr R S (c2D a) H→d6r P E H t v=some x:=by
 unfold d7h at hd
 cases hg:b3t P t with
 |none=>rw[hg]at hd;cases hd
 |some b=>
  rw[hg]at hd
  cases b with
  |true=>
   cases hs:E2 P t with
   |none=>rw[hs]at hd;cases hd
   |some n=>
    simp only[hs,j2]at hd
    split at hd
    ·rename_i row i hrow
     split at hd
     ·rename_i hn
      cases hd
      obtain⟨o,j,all,rfl,h1,h2,h3⟩:=d4b hC h hrow
      have hl:=h1.length
      rw[List.length_take,List.length_drop]at hl
      refine⟨.agg ((all.drop (j+i)).take n), ?_,fun H hA=> ?_⟩
      ·rw[b1J hn.2]
       simp only[Rp]
       exact⟨_,rfl,(h1.drop i).take n,V4 (W4 h2 i) n⟩
      ·show L7 P E H t o (j+i)=_
       simp only[L7,hg,hs,Option.pure_def,Option.bind_eq_bind,Option.bind_some,if_true,G9,h3 H hA]
       rw[if_pos (by omega)]
       rfl
     ·cases hd
    ·cases hd
  |false=>
   simp only[b8]at hd
   split at hd
   ·rename_i row i hrow
    obtain⟨o,j,all,rfl,h1,h2,h3⟩:=d4b hC h hrow
    obtain⟨x,e1,e2⟩:=a7u h1 hd
    refine⟨x,e2,fun H hA=> ?_⟩
    show L7 P E H t o (j+i)=_
    simp only[L7,hg,Option.pure_def,Option.bind_eq_bind,Option.bind_some,Bool.false_eq_true,if_false,a8Y,h3 H hA]
    rw[List.getElem?_take]at e1
    split at e1
    ·rw[List.getElem?_drop]at e1;exact e1
    ·cases e1
   ·cases hd
theorem e0k{c a b:D}{vc va vb:AV}(hc:Rp E R c vc)(ha:Rp E R a va)(hb:Rp E R b vb){d:D}(h:o7 c a b=some d):∃x,Rp E R d x∧d6Q vc va vb=some x:=by
 cases c<;>simp only[o7]at h<;>try (cases h;done)
 case bool t=>
  cases h
  simp only[Rp]at hc
  subst hc
  refine⟨_, ?_,rfl⟩
  cases t
  ·exact hb
  ·exact ha
theorem e1j{c:D}{v:AV}(hc:Rp E R c v){d:D}(h:a1v c=some d):Rp E R d v∧d8c v=some v:=by
 cases c<;>simp only[a1v]at h<;>try (cases h;done)
 case fn f a b=>
  have hR:=hc
  simp only[Rp]at hc
  obtain⟨a',b',rfl,_⟩:=hc
  cases f<;>simp at h<;>(subst h;exact⟨hR,rfl⟩)
 all_goals
  cases h
  have hR:=hc
  simp only[Rp]at hc
  first
   |(subst hc;exact⟨hR,rfl⟩)
   |(rcases hc with ⟨_,rfl⟩|⟨o,j,cap,ex,z,rfl,_⟩<;>exact⟨hR,rfl⟩)
   |(obtain⟨o,j,cap,ex,z,all,rfl,_⟩:=hc;exact⟨hR,rfl⟩)
   |(obtain⟨o,j,all,rfl,_⟩:=hc;exact⟨hR,rfl⟩)
   |(obtain⟨v',rfl,_⟩:=hc;exact⟨hR,rfl⟩)
theorem d5b{c:D}{v:AV}(hc:Rp E R c v){ix:Nat}{d:D}(h:o4 c ix=some d):∃x,Rp E R d x∧b6E v ix=some x:=by
 cases c<;>simp only[o4]at h<;>try (cases h;done)
 case tup vs=>
  simp only[Rp]at hc
  obtain⟨ws,rfl,h1⟩:=hc
  obtain⟨x,e1,e2⟩:=a7u h1 h
  exact⟨x,e2,e1⟩
theorem d8g{op:BinOp}{x y:List UInt8}{d:D}(h:(b0D op x y).map a0J=some d):∃v,Rp E R d v∧b0D op x y=some v:=by
 cases hs:b0D op x y with
 |none=>rw[hs]at h;cases h
 |some v=>rw[hs]at h;cases h;exact⟨v,c0y,rfl⟩
theorem b7B{op:BinOp}{r:Option Bool}{d:D}(h:c2O op r=some d):∃b,r=some b∧((op= .eql∧d= .bool b)∨(op= .neq∧d= .bool !b)):=by
 cases op<;>simp only[c2O]at h<;>try (cases h;done)
 all_goals
  cases r with
  |none=>cases h
  |some b=>cases h;exact⟨b,rfl,by simp⟩
theorem b0u{op:BinOp}{t:TypeId}{x y:Operand}{a b:AV}{r:Bool}{d:D}(hd:(op= .eql∧d= .bool r)∨(op= .neq∧d= .bool !r))(hg:a2o P op t x y a b=true)
  (hi:∀k n k' m,¬(a= .int k n∧b= .int k' m)) (hs:∀s u,¬(a= .str s∧b= .str u)) (he:eqA P Op.maxDepth t a b=some r):∃v,Rp E R d v∧d5f P op t x y a b=some v:=by
 have hb:∀op,(op=BinOp.eql∨op= .neq)→b9K P op t a b=match op with
   | .eql=>(eqA P Op.maxDepth t a b).map .bool
   | .neq=>(eqA P Op.maxDepth t a b).map fun r=> .bool !r
   |_=>none:=by
  intro op ho
  unfold b9K
  split
  ·exact(hi _ _ _ _ ⟨rfl,rfl⟩).elim
  ·exact(hs _ _ ⟨rfl,rfl⟩).elim
  ·rfl
 unfold d5f
 rw[if_pos hg]
 rcases hd with ⟨rfl,rfl⟩|⟨rfl,rfl⟩
 ·refine⟨.bool r,by simp only[Rp], ?_⟩
  rw[hb _ (.inl rfl),he];rfl
 ·refine⟨.bool !r,by simp only[Rp], ?_⟩
  rw[hb _ (.inr rfl),he];rfl
mutual
theorem d2N:∀ {d:D} {v x:AV},Rp E R d v→d8u d=some x→v=x
 | .any,v,x,_,e=>by cases e
 | .bool b,v,x,h,e=>by simp only[Rp]at h;cases e;exact h
 | .int k n,v,x,h,e=>by simp only[Rp]at h;cases e;exact h
 | .str s,v,x,h,e=>by simp only[Rp]at h;cases e;exact h
 | .nilPtr,v,x,h,e=>by simp only[Rp]at h;cases e;exact h
 | .nilSlc,v,x,h,e=>by simp only[Rp]at h;cases e;exact h
 | .nilMap,v,x,h,e=>by simp only[Rp]at h;cases e;exact h
 | .nilFn,v,x,h,e=>by simp only[Rp]at h;cases e;exact h
 | .nilIfc,v,x,h,e=>by simp only[Rp]at h;cases e;exact h
 | .ptr k i,v,x,h,e=>by simp only[Rp]at h;cases e;exact h
 | .rel ..,v,x,h,e=>by cases e
 | .elt ..,v,x,h,e=>by cases e
 | .lst ..,v,x,h,e=>by cases e
 | .ext ..,v,x,h,e=>by cases e
 | .raw ..,v,x,h,e=>by cases e
 | .fn ..,v,x,h,e=>by cases e
 | .ifc ..,v,x,h,e=>by cases e
 | .tup ..,v,x,h,e=>by cases e
 | .agg cs,v,x,h,e=>by
  simp only[Rp]at h
  obtain⟨vs,rfl,h1,h2⟩:=h
  simp only[d8u]at e
  split at e
  ·rename_i l hl
   cases e
   rw[d3x h1 hl]
  ·cases e
theorem d3x:∀ {ds:List D} {vs xs:List AV},C8 E R ds vs→d1u ds=some xs→vs=xs
 | [],vs,xs,h,e=>by simp only[C8]at h;cases e;exact h
 |d::ds,vs,xs,h,e=>by
  simp only[C8]at h
  obtain⟨v,ws,rfl,h1,h2⟩:=h
  simp only[d1u]at e
  split at e
  ·rename_i a b ha hb
   cases e
   rw[d2N h1 ha,d3x h2 hb]
  ·cases e
end
theorem e1u{op:BinOp}{t:TypeId}{x y:Operand}{a b:D}{va vb:AV}(ha:Rp E R a va)(hb:Rp E R b vb){d:D}(h:e1t P op t x y a b=some d):∃v,Rp E R d v∧d5f P op t x y va vb=some v:=by
 unfold e1t at h
 split at h
 ·
  cases a<;>simp only[i6]at h<;>try (cases h;done)
  rename_i k n
  cases b<;>simp only at h<;>try (cases h;done)
  rename_i k' m
  simp only[Rp]at ha hb
  subst ha hb
  have hg:a2o P op t x y (.int k n) (.int k' m)=true:=by cases op<;>rfl
  unfold d5f
  rw[if_pos hg]
  simp only[b9K]
  cases op
  case shl=>
   simp only at h ⊢
   split at h
   ·cases h
   ·rename_i h0;cases h;rw[if_neg h0];exact⟨_,by simp only[Rp],rfl⟩
  case shr=>
   simp only at h ⊢
   split at h
   ·cases h
   ·rename_i h0;cases h;rw[if_neg h0];exact⟨_,by simp only[Rp],rfl⟩
  all_goals
   simp only at h ⊢
   split at h
   ·rename_i hk
    rw[if_pos hk]
    cases hr:R3 _ k n m with
    |none=>rw[hr]at h;cases h
    |some v=>rw[hr]at h;cases h;exact⟨v,c0y,rfl⟩
   ·cases h
 ·
  cases a<;>simp only[a3I]at h<;>try (cases h;done)
  rename_i s
  cases b<;>simp only at h<;>try (cases h;done)
  rename_i u
  simp only[Rp]at ha hb
  subst ha hb
  have hg:a2o P op t x y (.str s) (.str u)=true:=by cases op<;>rfl
  unfold d5f
  rw[if_pos hg]
  exact d8g h
 ·
  rename_i hu
  obtain⟨r,hr,hd⟩:=b7B h
  cases a<;>simp only[e0Y]at hr<;>try (cases hr;done)
  cases b<;>simp only at hr<;>try (cases hr;done)
  simp only[Rp]at ha hb
  subst ha hb
  cases hr
  exact b0u hd (by rcases hd with ⟨rfl,_⟩|⟨rfl,_⟩<;>rfl) (by simp) (by simp) (by simp only[Op.maxDepth,eqA,hu])
 ·
  rename_i e hu
  obtain⟨r,hr,hd⟩:=b7B h
  unfold d8X at hr
  split at hr<;>try (cases hr;done)
  all_goals
   cases hr
   simp only[Rp]at ha hb
   try (rcases ha with ⟨e0,_⟩|⟨o,j,cap,ex,z,rfl,_⟩; ·cases e0)
   try (rcases hb with ⟨e0,_⟩|⟨o,j,cap,ex,z,rfl,_⟩; ·cases e0)
   try (obtain⟨o,j,cap,ex,z,all,rfl,_⟩:=ha)
   try (obtain⟨o,j,cap,ex,z,all,rfl,_⟩:=hb)
   try subst ha
   try subst hb
   exact b0u hd (by rcases hd with ⟨rfl,_⟩|⟨rfl,_⟩<;>rfl) (by simp) (by simp) (by simp only[Op.maxDepth,eqA,hu])
 ·
  rename_i e hu
  obtain⟨r,hr,hd⟩:=b7B h
  cases a<;>simp only[e2s]at hr<;>try (cases hr;done)
  all_goals
   cases b<;>simp only at hr<;>try (cases hr;done)
   all_goals
    cases hr
    simp only[Rp]at ha hb
    try (obtain⟨o,j,all,rfl,_⟩:=ha)
    try (obtain⟨o,j,all,rfl,_⟩:=hb)
    try subst ha
    try subst hb
    exact b0u hd (by rcases hd with ⟨rfl,_⟩|⟨rfl,_⟩<;>rfl) (by simp) (by simp) (by simp only[Op.maxDepth,eqA,hu])
 ·
  rename_i hu
  obtain⟨r,hr,hd⟩:=b7B h
  cases a<;>simp only[e2x]at hr<;>try (cases hr;done)
  all_goals
   cases b<;>simp only at hr<;>try (cases hr;done)
   all_goals
    cases hr
    simp only[Rp]at ha hb
    try (obtain⟨a',b',rfl,_⟩:=ha)
    try (obtain⟨a',b',rfl,_⟩:=hb)
    try subst ha
    try subst hb
    exact b0u hd (by rcases hd with ⟨rfl,_⟩|⟨rfl,_⟩<;>rfl) (by simp) (by simp) (by simp only[Op.maxDepth,eqA,hu])
 ·
  rename_i e hu
  obtain⟨r,hr,hd⟩:=b7B h
  cases a<;>simp only[e2m]at hr<;>try (cases hr;done)
  ·cases b<;>simp only at hr<;>try (cases hr;done)
   ·split at hr
    ·rename_i hc
     cases hr
     simp only[Rp]at ha hb
     subst ha hb
     exact b0u hd (by rcases hd with ⟨rfl,_⟩|⟨rfl,_⟩<;>exact hc) (by simp) (by simp) (by simp only[Op.maxDepth,eqA,hu])
    ·cases hr
   ·cases hr
    simp only[Rp]at ha hb
    obtain⟨v',rfl,_⟩:=hb
    subst ha
    exact b0u hd (by rcases hd with ⟨rfl,_⟩|⟨rfl,_⟩<;>rfl) (by simp) (by simp) (by simp only[Op.maxDepth,eqA,hu])
  ·cases b<;>simp only at hr<;>try (cases hr;done)
   cases hr
   simp only[Rp]at ha hb
   obtain⟨v',rfl,_⟩:=ha
   subst hb
   exact b0u hd (by rcases hd with ⟨rfl,_⟩|⟨rfl,_⟩<;>rfl) (by simp) (by simp) (by simp only[Op.maxDepth,eqA,hu])
 ·
  rename_i e hu
  obtain⟨r,hr,hd⟩:=b7B h
  cases a<;>simp only[d8w]at hr<;>try (cases hr;done)
  cases b<;>simp only at hr<;>try (cases hr;done)
  rename_i xs ys
  split at hr
  ·rename_i xa ya hx hy
   split at hr
   ·cases hr
   ·rename_i hg
    have e1:=d2N ha (x:= .agg xa) (by simp only[d8u,hx])
    have e2:=d2N hb (x:= .agg ya) (by simp only[d8u,hy])
    subst e1 e2
    have hg':P.eqGuardType P.depth t=false:=by simpa using hg
    exact b0u hd (by rcases hd with ⟨rfl,_⟩|⟨rfl,_⟩<;>simp only[a2o,hg',Bool.not_false]) (by simp) (by simp) hr
  ·cases hr
 ·cases h
theorem e1Z{op:UnOp}{a:D}{v:AV}(ha:Rp E R a v){d:D}(h:unD op a=some d):∃x,Rp E R d x∧unA op v=some x:=by
 cases op<;>cases a<;>simp only[unD]at h<;>try (cases h;done)
 all_goals
  cases h
  simp only[Rp]at ha
  subst ha
  exact⟨_,by simp only[Rp],rfl⟩
end
end
end Go.Am
end
