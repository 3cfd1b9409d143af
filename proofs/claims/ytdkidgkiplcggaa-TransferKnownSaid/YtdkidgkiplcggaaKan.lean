/-
  TransferKnownSaid: part Kan of its proof.
-/
import Derived.Test.YtdkidgkiplcggaaKam
set_option linter.unusedVariables false
set_option linter.unusedSimpArgs false
set_option maxRecDepth 100000
section
namespace Go.Am
section
variable{P:Program}{E:i9}{R:Fz}{S:b8}{H0:AHeap}
theorem b4L{v:AV}:Rp E R (a0W v) v:=by
 cases v<;>simp only[a0W,Rp]
theorem b7i:∀l:List AV,A0 E R (l.map a0W) l
 | []=>D0
 |v::l=>u6 b4L (b7i l)
theorem b2k{v:AV}:Rp E R (c6d v) v:=by
 unfold c6d
 split
 ·rename_i cs
  split
  ·rename_i h
   simp only[Rp]
   exact⟨cs,rfl,b7i cs,h⟩
  ·simp only[Rp]
 ·exact a0T
 ·exact b4L
theorem q7{T:List D}{avs:List AV}(h:A0 E R T avs)(x:Operand):Rp E R (t8 T x) (l8 avs x):=by
 cases x with
 |tmp t=>exact b5U h t
 |const v=>exact b2k
 |global g=>simp only[t8,Rp]
 |func f=>
  simp only[t8,l8,Rp]
  exact⟨[],[],rfl,D0,D0⟩
theorem a6d{T:List D}{avs:List AV}(h:A0 E R T avs):∀l:List Operand,A0 E R (l.map (t8 T)) (l.map (l8 avs))
 | []=>D0
 |x::l=>u6 (q7 h x) (a6d h l)
theorem b0z{d:D}{v:AV}(h:Rp E R d v){ds:List D}(hc:o4 d=some ds):A0 E R ds v.cells∧v.cells.all r6=true:=by
 cases d<;>simp only[o4,Option.some.injEq]at hc<;>try (cases hc;done)
 case agg cs=>
  subst hc
  simp only[Rp]at h
  obtain⟨vs,rfl,h1,h2⟩:=h
  exact⟨h1,h2⟩
 all_goals
  subst hc
  have hR:=h
  simp only[Rp]at h
  first
   |(subst h;exact⟨u6 hR D0,rfl⟩)
   |(rcases h with ⟨_,rfl⟩|⟨o,j,cap,ex,z,rfl,_⟩<;>exact⟨u6 hR D0,rfl⟩)
   |(obtain⟨o,j,cap,ex,z,all,rfl,_⟩:=h;exact⟨u6 hR D0,rfl⟩)
   |(obtain⟨o,j,all,rfl,_⟩:=h;exact⟨u6 hR D0,rfl⟩)
   |(obtain⟨a',b',rfl,_⟩:=h;exact⟨u6 hR D0,rfl⟩)
   |(obtain⟨v',rfl,_⟩:=h;exact⟨u6 hR D0,rfl⟩)
   |(obtain⟨_,rfl⟩:=(h:_∧_);exact⟨u6 hR D0,rfl⟩)
   |(obtain⟨_,j,cap,ex,all,rfl,_⟩:=(h:_∧_);exact⟨u6 hR D0,rfl⟩)
theorem b6G{o:Id}{all:List AV}(h:rdE E R o=some all){k:Option Nat}{H:AHeap}(hA:Agr R S k H):cellsOf E H o=some all:=by
 cases o with
 |old b=>exact h
 |new j=>
  obtain⟨w,p,g⟩:=hA.fz j all h
  simp only[cellsOf,g]
theorem a0X{l:List AV}(h:l.all r6=true)(n:Nat):(l.drop n).all r6=true:=
 List.all_eq_true.2 fun x hx=>List.all_eq_true.1 h x (List.mem_of_mem_drop hx)
theorem L0{l:List AV}(h:l.all r6=true)(n:Nat):(l.take n).all r6=true:=
 List.all_eq_true.2 fun x hx=>List.all_eq_true.1 h x (List.mem_of_mem_take hx)
theorem c6o(hC:A1 E R S H0){a:D}{v:AV}(h:Rp E R a v){row:List D}{i:Nat}(hr:b8o S a=some (row,i)):
  ∃o j all,v= .ptr o (j+i)∧A0 E R row ((all.drop j).take row.length)∧((all.drop j).take row.length).all r6=true∧∀H,Agr R S (b6b a) H→cellsOf E H o=some all:=by
 cases a<;>simp only[b8o]at hr<;>try (cases hr;done)
 case ptr k j=>
  simp only[Rp]at h
  subst h
  cases hk:S k with
  |none=>rw[hk]at hr;cases hr
  |some o=>
   simp only[hk]at hr
   split at hr
   ·rename_i cs hcs
    obtain⟨h1,⟨pre,h2⟩,h3,h4,h5⟩:=hC.cells hk (.inr ⟨_,hcs⟩)
    cases hr
    rw[hcs,List.flatten_singleton]at h5
    have e:o.acs.take row.length=o.acs:=List.take_of_length_le (by rw[h5.length];exact Nat.le_refl _)
    refine⟨.new k,0,o.acs,by rw[Nat.zero_add], ?_, ?_,fun H hA=> ?_⟩
    ·rw[List.drop_zero,e];exact h5
    ·rw[List.drop_zero,e];exact h3
    ·obtain⟨w,p,g⟩:=hA.st k o rfl hk (.inr ⟨_,hcs⟩)
     simp only[cellsOf,g]
   ·cases hr
 case rel k r j sz=>
  simp only[Rp]at h
  obtain⟨hmz,rfl⟩:=h
  cases hk:S k with
  |none=>rw[hk]at hr;cases hr
  |some o=>
   simp only[hk]at hr
   split at hr
   ·rename_i hsz
    obtain⟨h1,⟨pre,h2⟩,h3,h4,h5⟩:=hC.cells hk (.inl (by rw[hsz];exact hmz))
    split at hr
    ·rename_i row' hrow
     cases hr
     have hl:row.length=sz:=by rw[h4 row (List.mem_of_getElem? hrow),hsz]
     refine⟨.new k,r*sz,o.acs,rfl, ?_,L0 (a0X h3 _) _,fun H hA=> ?_⟩
     ·have:=(h5.drop (r*sz)).take row.length
      rw[←hsz]at this hl ⊢
      rw[hl,b0W h4 hrow]at this
      rw[hl]
      exact this
     ·obtain⟨w,p,g⟩:=hA.st k o rfl hk (.inl (by rw[hsz];exact hmz))
      simp only[cellsOf,g]
    ·cases hr
   ·cases hr
 case elt row' j=>
  cases hr
  simp only[Rp]at h
  obtain⟨o,j',all,rfl,e2,e3,e4⟩:=h
  exact⟨o,j',all,rfl,e3,e4,fun H hA=>b6G e2 hA⟩
theorem a8A{α:Type}{all:List α}{j L i n:Nat}(h:i+n≤L):(all.drop (j+i)).take n=(((all.drop j).take L).drop i).take n:=by
 rw[List.drop_take,List.take_take,List.drop_drop,Nat.min_eq_left (by omega)]
theorem c9f(hC:A1 E R S H0){t:TypeId}{a:D}{v:AV}(h:Rp E R a v){d:D}(hd:c9g P S t a=some d):
  ∃x,Rp E R d x∧∀H,Agr R S (b6b a) H→c9z P E H t v=some x:=by
 unfold c9g at hd
 cases hg:a9u P t with
 |none=>rw[hg]at hd;cases hd
 |some b=>
  rw[hg]at hd
  cases b with
  |true=>
   cases hs:C5 P t with
   |none=>rw[hs]at hd;cases hd
   |some n=>
    simp only[hs,i4]at hd
    split at hd
    ·rename_i row i hrow
     split at hd
     ·rename_i hn
      cases hd
      obtain⟨o,j,all,rfl,h1,h2,h3⟩:=c6o hC h hrow
      have hl:=h1.length
      rw[List.length_take,List.length_drop]at hl
      refine⟨.agg ((all.drop (j+i)).take n), ?_,fun H hA=> ?_⟩
      ·rw[a8A hn.2]
       simp only[Rp]
       exact⟨_,rfl,(h1.drop i).take n,L0 (a0X h2 i) n⟩
      ·show L6 P E H t o (j+i)=_
       simp only[L6,hg,hs,Option.pure_def,Option.bind_eq_bind,Option.bind_some,if_true,D7,h3 H hA]
       rw[if_pos (by omega)]
       rfl
     ·cases hd
    ·cases hd
  |false=>
   simp only[d0]at hd
   split at hd
   ·rename_i row i hrow
    obtain⟨o,j,all,rfl,h1,h2,h3⟩:=c6o hC h hrow
    obtain⟨x,e1,e2⟩:=a5g h1 hd
    refine⟨x,e2,fun H hA=> ?_⟩
    show L6 P E H t o (j+i)=_
    simp only[L6,hg,Option.pure_def,Option.bind_eq_bind,Option.bind_some,Bool.false_eq_true,if_false,a6p,h3 H hA]
    rw[List.getElem?_take]at e1
    split at e1
    ·rw[List.getElem?_drop]at e1;exact e1
    ·cases e1
   ·cases hd
theorem d2R{c a b:D}{vc va vb:AV}(hc:Rp E R c vc)(ha:Rp E R a va)(hb:Rp E R b vb){d:D}(h:o0 c a b=some d):∃x,Rp E R d x∧c9u vc va vb=some x:=by
 cases c<;>simp only[o0]at h<;>try (cases h;done)
 case bool t=>
  cases h
  simp only[Rp]at hc
  subst hc
  refine⟨_, ?_,rfl⟩
  cases t
  ·exact hb
  ·exact ha
theorem d4J{c:D}{v:AV}(hc:Rp E R c v){d:D}(h:a0H c=some d):Rp E R d v∧d0b v=some v:=by
 cases c<;>simp only[a0H]at h<;>try (cases h;done)
 case fn f a b=>
  have hR:=hc
  simp only[Rp]at hc
  obtain⟨a',b',rfl,_⟩:=hc
  cases f<;>simp at h<;>(subst h;exact⟨hR,rfl⟩)
 all_goals
  cases h
  have hR:=hc
  simp only[Rp]at hc
  first
   |(subst hc;exact⟨hR,rfl⟩)
   |(rcases hc with ⟨_,rfl⟩|⟨o,j,cap,ex,z,rfl,_⟩<;>exact⟨hR,rfl⟩)
   |(obtain⟨o,j,cap,ex,z,all,rfl,_⟩:=hc;exact⟨hR,rfl⟩)
   |(obtain⟨o,j,all,rfl,_⟩:=hc;exact⟨hR,rfl⟩)
   |(obtain⟨v',rfl,_⟩:=hc;exact⟨hR,rfl⟩)
   |(obtain⟨_,rfl⟩:=(hc:_∧_);exact⟨hR,rfl⟩)
   |(obtain⟨_,j,cap,ex,all,rfl,_⟩:=(hc:_∧_);exact⟨hR,rfl⟩)
theorem c8g{c:D}{v:AV}(hc:Rp E R c v){ix:Nat}{d:D}(h:j2 c ix=some d):∃x,Rp E R d x∧b1w v ix=some x:=by
 cases c<;>simp only[j2]at h<;>try (cases h;done)
 case tup vs=>
  simp only[Rp]at hc
  obtain⟨ws,rfl,h1⟩:=hc
  obtain⟨x,e1,e2⟩:=a5g h1 h
  exact⟨x,e2,e1⟩
theorem d0v{op:BinOp}{x y:List UInt8}{d:D}(h:(a7f op x y).map a0W=some d):∃v,Rp E R d v∧a7f op x y=some v:=by
 cases hs:a7f op x y with
 |none=>rw[hs]at h;cases h
 |some v=>rw[hs]at h;cases h;exact⟨v,b4L,rfl⟩
theorem b2p{op:BinOp}{r:Option Bool}{d:D}(h:b8S op r=some d):∃b,r=some b∧((op= .eql∧d= .bool b)∨(op= .neq∧d= .bool !b)):=by
 cases op<;>simp only[b8S]at h<;>try (cases h;done)
 all_goals
  cases r with
  |none=>cases h
  |some b=>cases h;exact⟨b,rfl,by simp⟩
theorem a7n{op:BinOp}{t:TypeId}{x y:Operand}{a b:AV}{r:Bool}{d:D}(hd:(op= .eql∧d= .bool r)∨(op= .neq∧d= .bool !r))(hg:a1J P op t x y a b=true)
  (hi:∀k n k' m,¬(a= .int k n∧b= .int k' m)) (hs:∀s u,¬(a= .str s∧b= .str u)) (he:eqA P Op.maxDepth t a b=some r):∃v,Rp E R d v∧c8e P op t x y a b=some v:=by
 have hb:∀op,(op=BinOp.eql∨op= .neq)→b4q P op t a b=match op with
   | .eql=>(eqA P Op.maxDepth t a b).map .bool
   | .neq=>(eqA P Op.maxDepth t a b).map fun r=> .bool !r
   |_=>none:=by
  intro op ho
  unfold b4q
  split
  ·exact(hi _ _ _ _ ⟨rfl,rfl⟩).elim
  ·exact(hs _ _ ⟨rfl,rfl⟩).elim
  ·rfl
 unfold c8e
 rw[if_pos hg]
 rcases hd with ⟨rfl,rfl⟩|⟨rfl,rfl⟩
 ·refine⟨.bool r,by simp only[Rp], ?_⟩
  rw[hb _ (.inl rfl),he];rfl
 ·refine⟨.bool !r,by simp only[Rp], ?_⟩
  rw[hb _ (.inr rfl),he];rfl
mutual
theorem c5u:∀ {d:D} {v x:AV},Rp E R d v→d2D d=some x→v=x
 | .any,v,x,_,e=>by cases e
 | .bool b,v,x,h,e=>by simp only[Rp]at h;cases e;exact h
 | .int k n,v,x,h,e=>by simp only[Rp]at h;cases e;exact h
 | .str s,v,x,h,e=>by simp only[Rp]at h;cases e;exact h
 | .nilPtr,v,x,h,e=>by simp only[Rp]at h;cases e;exact h
 | .nilSlc,v,x,h,e=>by simp only[Rp]at h;cases e;exact h
 | .nilMap,v,x,h,e=>by simp only[Rp]at h;cases e;exact h
 | .nilFn,v,x,h,e=>by simp only[Rp]at h;cases e;exact h
 | .nilIfc,v,x,h,e=>by simp only[Rp]at h;cases e;exact h
 | .mp k,v,x,h,e=>by cases e
 | .ptr k i,v,x,h,e=>by simp only[Rp]at h;cases e;exact h
 | .rel ..,v,x,h,e=>by cases e
 | .elt ..,v,x,h,e=>by cases e
 | .lst ..,v,x,h,e=>by cases e
 | .ext ..,v,x,h,e=>by cases e
 | .raw ..,v,x,h,e=>by cases e
 | .tip ..,v,x,h,e=>by cases e
 | .fn ..,v,x,h,e=>by cases e
 | .ifc ..,v,x,h,e=>by cases e
 | .tup ..,v,x,h,e=>by cases e
 | .agg cs,v,x,h,e=>by
  simp only[Rp]at h
  obtain⟨vs,rfl,h1,h2⟩:=h
  simp only[d2D]at e
  split at e
  ·rename_i l hl
   cases e
   rw[c5X h1 hl]
  ·cases e
theorem c5X:∀ {ds:List D} {vs xs:List AV},A0 E R ds vs→c3v ds=some xs→vs=xs
 | [],vs,xs,h,e=>by simp only[A0]at h;cases e;exact h
 |d::ds,vs,xs,h,e=>by
  simp only[A0]at h
  obtain⟨v,ws,rfl,h1,h2⟩:=h
  simp only[c3v]at e
  split at e
  ·rename_i a b ha hb
   cases e
   rw[c5u h1 ha,c5X h2 hb]
  ·cases e
end
theorem d4o{op:BinOp}{t:TypeId}{x y:Operand}{a b:D}{va vb:AV}(ha:Rp E R a va)(hb:Rp E R b vb){d:D}(h:d4i P op t x y a b=some d):∃v,Rp E R d v∧c8e P op t x y va vb=some v:=by
 unfold d4i at h
 split at h
 ·
  cases a<;>simp only[f9]at h<;>try (cases h;done)
  rename_i k n
  cases b<;>simp only at h<;>try (cases h;done)
  rename_i k' m
  simp only[Rp]at ha hb
  subst ha hb
  have hg:a1J P op t x y (.int k n) (.int k' m)=true:=by cases op<;>rfl
  unfold c8e
  rw[if_pos hg]
  simp only[b4q]
  cases op
  case shl=>
   simp only at h ⊢
   split at h
   ·cases h
   ·rename_i h0;cases h;rw[if_neg h0];exact⟨_,by simp only[Rp],rfl⟩
  case shr=>
   simp only at h ⊢
   split at h
   ·cases h
   ·rename_i h0;cases h;rw[if_neg h0];exact⟨_,by simp only[Rp],rfl⟩
  all_goals
   simp only at h ⊢
   split at h
   ·rename_i hk
    rw[if_pos hk]
    cases hr:Q7 _ k n m with
    |none=>rw[hr]at h;cases h
    |some v=>rw[hr]at h;cases h;exact⟨v,b4L,rfl⟩
   ·cases h
 ·
  cases a<;>simp only[c6O]at h<;>try (cases h;done)
  rename_i s
  cases b<;>simp only at h<;>try (cases h;done)
  rename_i u
  simp only[Rp]at ha hb
  subst ha hb
  have hg:a1J P op t x y (.str s) (.str u)=true:=by cases op<;>rfl
  unfold c8e
  rw[if_pos hg]
  exact d0v h
 ·
  rename_i hu
  obtain⟨r,hr,hd⟩:=b2p h
  cases a<;>simp only[d4M]at hr<;>try (cases hr;done)
  cases b<;>simp only at hr<;>try (cases hr;done)
  simp only[Rp]at ha hb
  subst ha hb
  cases hr
  exact a7n hd (by rcases hd with ⟨rfl,_⟩|⟨rfl,_⟩<;>rfl) (by simp) (by simp) (by simp only[Op.maxDepth,eqA,hu])
 ·
  rename_i e hu
  obtain⟨r,hr,hd⟩:=b2p h
  unfold c7a at hr
  split at hr<;>try (cases hr;done)
  all_goals
   cases hr
   simp only[Rp]at ha hb
   try (rcases ha with ⟨e0,_⟩|⟨o,j,cap,ex,z,rfl,_⟩; ·cases e0)
   try (rcases hb with ⟨e0,_⟩|⟨o,j,cap,ex,z,rfl,_⟩; ·cases e0)
   try (obtain⟨o,j,cap,ex,z,all,rfl,_⟩:=ha)
   try (obtain⟨o,j,cap,ex,z,all,rfl,_⟩:=hb)
   try (obtain⟨_,rfl⟩:=(ha:_∧_))
   try (obtain⟨_,rfl⟩:=(hb:_∧_))
   try subst ha
   try subst hb
   exact a7n hd (by rcases hd with ⟨rfl,_⟩|⟨rfl,_⟩<;>rfl) (by simp) (by simp) (by simp only[Op.maxDepth,eqA,hu])
 ·
  rename_i e hu
  obtain⟨r,hr,hd⟩:=b2p h
  cases a<;>simp only[d5V]at hr<;>try (cases hr;done)
  all_goals
   cases b<;>simp only at hr<;>try (cases hr;done)
   all_goals
    cases hr
    simp only[Rp]at ha hb
    try (obtain⟨o,j,all,rfl,_⟩:=ha)
    try (obtain⟨o,j,all,rfl,_⟩:=hb)
    try (obtain⟨_,rfl⟩:=(ha:_∧_))
    try (obtain⟨_,rfl⟩:=(hb:_∧_))
    try subst ha
    try subst hb
    exact a7n hd (by rcases hd with ⟨rfl,_⟩|⟨rfl,_⟩<;>rfl) (by simp) (by simp) (by simp only[Op.maxDepth,eqA,hu])
 ·
  rename_i hu
  obtain⟨r,hr,hd⟩:=b2p h
  cases a<;>simp only[d5A]at hr<;>try (cases hr;done)
  all_goals
   cases b<;>simp only at hr<;>try (cases hr;done)
   all_goals
    cases hr
    simp only[Rp]at ha hb
    try (obtain⟨a',b',rfl,_⟩:=ha)
    try (obtain⟨a',b',rfl,_⟩:=hb)
    try subst ha
    try subst hb
    exact a7n hd (by rcases hd with ⟨rfl,_⟩|⟨rfl,_⟩<;>rfl) (by simp) (by simp) (by simp only[Op.maxDepth,eqA,hu])
 ·
  rename_i e hu
  obtain⟨r,hr,hd⟩:=b2p h
  cases a<;>simp only[d5M]at hr<;>try (cases hr;done)
  ·cases b<;>simp only at hr<;>try (cases hr;done)
   ·split at hr
    ·rename_i hc
     cases hr
     simp only[Rp]at ha hb
     subst ha hb
     exact a7n hd (by rcases hd with ⟨rfl,_⟩|⟨rfl,_⟩<;>exact hc) (by simp) (by simp) (by simp only[Op.maxDepth,eqA,hu])
    ·cases hr
   ·cases hr
    simp only[Rp]at ha hb
    obtain⟨v',rfl,_⟩:=hb
    subst ha
    exact a7n hd (by rcases hd with ⟨rfl,_⟩|⟨rfl,_⟩<;>rfl) (by simp) (by simp) (by simp only[Op.maxDepth,eqA,hu])
  ·cases b<;>simp only at hr<;>try (cases hr;done)
   cases hr
   simp only[Rp]at ha hb
   obtain⟨v',rfl,_⟩:=ha
   subst hb
   exact a7n hd (by rcases hd with ⟨rfl,_⟩|⟨rfl,_⟩<;>rfl) (by simp) (by simp) (by simp only[Op.maxDepth,eqA,hu])
 ·
  rename_i e hu
  obtain⟨r,hr,hd⟩:=b2p h
  cases a<;>simp only[d6a]at hr<;>try (cases hr;done)
  cases b<;>simp only at hr<;>try (cases hr;done)
  rename_i xs ys
  split at hr
  ·rename_i xa ya hx hy
   split at hr
   ·cases hr
   ·rename_i hg
    have e1:=c5u ha (x:= .agg xa) (by simp only[d2D,hx])
    have e2:=c5u hb (x:= .agg ya) (by simp only[d2D,hy])
    subst e1 e2
    have hg':P.eqGuardType P.depth t=false:=by simpa using hg
    exact a7n hd (by rcases hd with ⟨rfl,_⟩|⟨rfl,_⟩<;>simp only[a1J,hg',Bool.not_false]) (by simp) (by simp) hr
  ·cases hr
 ·cases h
theorem d5C{op:UnOp}{a:D}{v:AV}(ha:Rp E R a v){d:D}(h:unD op a=some d):∃x,Rp E R d x∧unA op v=some x:=by
 cases op<;>cases a<;>simp only[unD]at h<;>try (cases h;done)
 all_goals
  cases h
  simp only[Rp]at ha
  subst ha
  exact⟨_,by simp only[Rp],rfl⟩
end
end Go.Am
end
