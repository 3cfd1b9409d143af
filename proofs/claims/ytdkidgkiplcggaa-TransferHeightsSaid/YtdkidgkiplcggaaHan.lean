/-
  TransferHeightsSaid: part Han of its proof.
-/
import Derived.Test.YtdkidgkiplcggaaHam
set_option linter.unusedVariables false
set_option linter.unusedSimpArgs false
set_option maxRecDepth 100000
section
namespace Go.Am
section
variable{P:Program}{E:j3}{R:Fz}{S:b8}{H0:AHeap}
theorem b4H{v:AV}:Rp E R (a1b v) v:=by
 cases v<;>simp only[a1b,Rp]
theorem b6R:∀l:List AV,z7 E R (l.map a1b) l
 | []=>C7
 |v::l=>s7 b4H (b6R l)
theorem b2l{v:AV}:Rp E R (c6E v) v:=by
 unfold c6E
 split
 ·rename_i cs
  split
  ·rename_i h
   simp only[Rp]
   exact⟨cs,rfl,b6R cs,h⟩
  ·simp only[Rp]
 ·exact a0P
 ·exact b4H
theorem r0{T:List D}{avs:List AV}(h:z7 E R T avs)(x:Operand):Rp E R (u5 T x) (m7 avs x):=by
 cases x with
 |tmp t=>exact b6o h t
 |const v=>exact b2l
 |global g=>simp only[u5,Rp]
 |func f=>
  simp only[u5,m7,Rp]
  exact⟨[],[],rfl,C7,C7⟩
theorem a5O{T:List D}{avs:List AV}(h:z7 E R T avs):∀l:List Operand,z7 E R (l.map (u5 T)) (l.map (m7 avs))
 | []=>C7
 |x::l=>s7 (r0 h x) (a5O h l)
theorem b0R{d:D}{v:AV}(h:Rp E R d v){ds:List D}(hc:o5 d=some ds):z7 E R ds v.cells∧v.cells.all r8=true:=by
 cases d<;>simp only[o5,Option.some.injEq]at hc<;>try (cases hc;done)
 case agg cs=>
  subst hc
  simp only[Rp]at h
  obtain⟨vs,rfl,h1,h2⟩:=h
  exact⟨h1,h2⟩
 all_goals
  subst hc
  have hR:=h
  simp only[Rp]at h
  first
   |(subst h;exact⟨s7 hR C7,rfl⟩)
   |(rcases h with ⟨_,rfl⟩|⟨o,j,cap,ex,z,rfl,_⟩<;>exact⟨s7 hR C7,rfl⟩)
   |(obtain⟨o,j,cap,ex,z,all,rfl,_⟩:=h;exact⟨s7 hR C7,rfl⟩)
   |(obtain⟨o,j,all,rfl,_⟩:=h;exact⟨s7 hR C7,rfl⟩)
   |(obtain⟨a',b',rfl,_⟩:=h;exact⟨s7 hR C7,rfl⟩)
   |(obtain⟨v',rfl,_⟩:=h;exact⟨s7 hR C7,rfl⟩)
   |(obtain⟨_,rfl⟩:=(h:_∧_);exact⟨s7 hR C7,rfl⟩)
   |(obtain⟨_,j,cap,ex,all,rfl,_⟩:=(h:_∧_);exact⟨s7 hR C7,rfl⟩)
theorem b7j{o:Id}{all:List AV}(h:rdE E R o=some all){k:Option Nat}{H:AHeap}(hA:Agr R S k H):cellsOf E H o=some all:=by
 cases o with
 |old b=>exact h
 |new j=>
  obtain⟨w,p,g⟩:=hA.fz j all h
  simp only[cellsOf,g]
theorem a0F{l:List AV}(h:l.all r8=true)(n:Nat):(l.drop n).all r8=true:=
 List.all_eq_true.2 fun x hx=>List.all_eq_true.1 h x (List.mem_of_mem_drop hx)
theorem L3{l:List AV}(h:l.all r8=true)(n:Nat):(l.take n).all r8=true:=
 List.all_eq_true.2 fun x hx=>List.all_eq_true.1 h x (List.mem_of_mem_take hx)
theorem c5J(hC:y9 E R S H0){a:D}{v:AV}(h:Rp E R a v){row:List D}{i:Nat}(hr:b8c S a=some (row,i)):
  ∃o j all,v= .ptr o (j+i)∧z7 E R row ((all.drop j).take row.length)∧((all.drop j).take row.length).all r8=true∧∀H,Agr R S (b5y a) H→cellsOf E H o=some all:=by
 cases a<;>simp only[b8c]at hr<;>try (cases hr;done)
 case ptr k j=>
  simp only[Rp]at h
  subst h
  cases hk:S k with
  |none=>rw[hk]at hr;cases hr
  |some o=>
   simp only[hk]at hr
   split at hr
   ·rename_i cs hcs
    obtain⟨h1,⟨pre,h2⟩,h3,h4,h5⟩:=hC.cells hk (.inr ⟨_,hcs⟩)
    cases hr
    rw[hcs,List.flatten_singleton]at h5
    have e:o.acs.take row.length=o.acs:=List.take_of_length_le (by rw[h5.length];exact Nat.le_refl _)
    refine⟨.new k,0,o.acs,by rw[Nat.zero_add], ?_, ?_,fun H hA=> ?_⟩
    ·rw[List.drop_zero,e];exact h5
    ·rw[List.drop_zero,e];exact h3
    ·obtain⟨w,p,g⟩:=hA.st k o rfl hk (.inr ⟨_,hcs⟩)
     simp only[cellsOf,g]
   ·cases hr
 case rel k r j sz=>
  simp only[Rp]at h
  obtain⟨hmz,rfl⟩:=h
  cases hk:S k with
  |none=>rw[hk]at hr;cases hr
  |some o=>
   simp only[hk]at hr
   split at hr
   ·rename_i hsz
    obtain⟨h1,⟨pre,h2⟩,h3,h4,h5⟩:=hC.cells hk (.inl (by rw[hsz];exact hmz))
    split at hr
    ·rename_i row' hrow
     cases hr
     have hl:row.length=sz:=by rw[h4 row (List.mem_of_getElem? hrow),hsz]
     refine⟨.new k,r*sz,o.acs,rfl, ?_,L3 (a0F h3 _) _,fun H hA=> ?_⟩
     ·have:=(h5.drop (r*sz)).take row.length
      rw[←hsz]at this hl ⊢
      rw[hl,b1y h4 hrow]at this
      rw[hl]
      exact this
     ·obtain⟨w,p,g⟩:=hA.st k o rfl hk (.inl (by rw[hsz];exact hmz))
      simp only[cellsOf,g]
    ·cases hr
   ·cases hr
 case elt row' j=>
  cases hr
  simp only[Rp]at h
  obtain⟨o,j',all,rfl,e2,e3,e4⟩:=h
  exact⟨o,j',all,rfl,e3,e4,fun H hA=>b7j e2 hA⟩
theorem a7O{α:Type}{all:List α}{j L i n:Nat}(h:i+n≤L):(all.drop (j+i)).take n=(((all.drop j).take L).drop i).take n:=by
 rw[List.drop_take,List.take_take,List.drop_drop,Nat.min_eq_left (by omega)]
theorem c9y(hC:y9 E R S H0){t:TypeId}{a:D}{v:AV}(h:Rp E R a v){d:D}(hd:c8S P S t a=some d):
  ∃x,Rp E R d x∧∀H,Agr R S (b5y a) H→c9b P E H t v=some x:=by
 unfold c8S at hd
 cases hg:a9k P t with
 |none=>rw[hg]at hd;cases hd
 |some b=>
  rw[hg]at hd
  cases b with
  |true=>
   cases hs:C3 P t with
   |none=>rw[hs]at hd;cases hd
   |some n=>
    simp only[hs,i6]at hd
    split at hd
    ·rename_i row i hrow
     split at hd
     ·rename_i hn
      cases hd
      obtain⟨o,j,all,rfl,h1,h2,h3⟩:=c5J hC h hrow
      have hl:=h1.length
      rw[List.length_take,List.length_drop]at hl
      refine⟨.agg ((all.drop (j+i)).take n), ?_,fun H hA=> ?_⟩
      ·rw[a7O hn.2]
       simp only[Rp]
       exact⟨_,rfl,(h1.drop i).take n,L3 (a0F h2 i) n⟩
      ·show L4 P E H t o (j+i)=_
       simp only[L4,hg,hs,Option.pure_def,Option.bind_eq_bind,Option.bind_some,if_true,D1,h3 H hA]
       rw[if_pos (by omega)]
       rfl
     ·cases hd
    ·cases hd
  |false=>
   simp only[c9]at hd
   split at hd
   ·rename_i row i hrow
    obtain⟨o,j,all,rfl,h1,h2,h3⟩:=c5J hC h hrow
    obtain⟨x,e1,e2⟩:=a5i h1 hd
    refine⟨x,e2,fun H hA=> ?_⟩
    show L4 P E H t o (j+i)=_
    simp only[L4,hg,Option.pure_def,Option.bind_eq_bind,Option.bind_some,Bool.false_eq_true,if_false,a6o,h3 H hA]
    rw[List.getElem?_take]at e1
    split at e1
    ·rw[List.getElem?_drop]at e1;exact e1
    ·cases e1
   ·cases hd
theorem d3h{c a b:D}{vc va vb:AV}(hc:Rp E R c vc)(ha:Rp E R a va)(hb:Rp E R b vb){d:D}(h:q7 c a b=some d):∃x,Rp E R d x∧c8U vc va vb=some x:=by
 cases c<;>simp only[q7]at h<;>try (cases h;done)
 case bool t=>
  cases h
  simp only[Rp]at hc
  subst hc
  refine⟨_, ?_,rfl⟩
  cases t
  ·exact hb
  ·exact ha
theorem d4M{c:D}{v:AV}(hc:Rp E R c v){d:D}(h:a0B c=some d):Rp E R d v∧d0w v=some v:=by
 cases c<;>simp only[a0B]at h<;>try (cases h;done)
 case fn f a b=>
  have hR:=hc
  simp only[Rp]at hc
  obtain⟨a',b',rfl,_⟩:=hc
  cases f<;>simp at h<;>(subst h;exact⟨hR,rfl⟩)
 all_goals
  cases h
  have hR:=hc
  simp only[Rp]at hc
  first
   |(subst hc;exact⟨hR,rfl⟩)
   |(rcases hc with ⟨_,rfl⟩|⟨o,j,cap,ex,z,rfl,_⟩<;>exact⟨hR,rfl⟩)
   |(obtain⟨o,j,cap,ex,z,all,rfl,_⟩:=hc;exact⟨hR,rfl⟩)
   |(obtain⟨o,j,all,rfl,_⟩:=hc;exact⟨hR,rfl⟩)
   |(obtain⟨v',rfl,_⟩:=hc;exact⟨hR,rfl⟩)
   |(obtain⟨_,rfl⟩:=(hc:_∧_);exact⟨hR,rfl⟩)
   |(obtain⟨_,j,cap,ex,all,rfl,_⟩:=(hc:_∧_);exact⟨hR,rfl⟩)
theorem c7B{c:D}{v:AV}(hc:Rp E R c v){ix:Nat}{d:D}(h:l9 c ix=some d):∃x,Rp E R d x∧b5F v ix=some x:=by
 cases c<;>simp only[l9]at h<;>try (cases h;done)
 case tup vs=>
  simp only[Rp]at hc
  obtain⟨ws,rfl,h1⟩:=hc
  obtain⟨x,e1,e2⟩:=a5i h1 h
  exact⟨x,e2,e1⟩
theorem d0y{op:BinOp}{x y:List UInt8}{d:D}(h:(a6R op x y).map a1b=some d):∃v,Rp E R d v∧a6R op x y=some v:=by
 cases hs:a6R op x y with
 |none=>rw[hs]at h;cases h
 |some v=>rw[hs]at h;cases h;exact⟨v,b4H,rfl⟩
theorem b2m{op:BinOp}{r:Option Bool}{d:D}(h:b9u op r=some d):∃b,r=some b∧((op= .eql∧d= .bool b)∨(op= .neq∧d= .bool !b)):=by
 cases op<;>simp only[b9u]at h<;>try (cases h;done)
 all_goals
  cases r with
  |none=>cases h
  |some b=>cases h;exact⟨b,rfl,by simp⟩
theorem a7d{op:BinOp}{t:TypeId}{x y:Operand}{a b:AV}{r:Bool}{d:D}(hd:(op= .eql∧d= .bool r)∨(op= .neq∧d= .bool !r))(hg:a1D P op t x y a b=true)
  (hi:∀k n k' m,¬(a= .int k n∧b= .int k' m)) (hs:∀s u,¬(a= .str s∧b= .str u)) (he:eqA P Op.maxDepth t a b=some r):∃v,Rp E R d v∧c8f P op t x y a b=some v:=by
 have hb:∀op,(op=BinOp.eql∨op= .neq)→b3E P op t a b=match op with
   | .eql=>(eqA P Op.maxDepth t a b).map .bool
   | .neq=>(eqA P Op.maxDepth t a b).map fun r=> .bool !r
   |_=>none:=by
  intro op ho
  unfold b3E
  split
  ·exact(hi _ _ _ _ ⟨rfl,rfl⟩).elim
  ·exact(hs _ _ ⟨rfl,rfl⟩).elim
  ·rfl
 unfold c8f
 rw[if_pos hg]
 rcases hd with ⟨rfl,rfl⟩|⟨rfl,rfl⟩
 ·refine⟨.bool r,by simp only[Rp], ?_⟩
  rw[hb _ (.inl rfl),he];rfl
 ·refine⟨.bool !r,by simp only[Rp], ?_⟩
  rw[hb _ (.inr rfl),he];rfl
mutual
theorem c5A:∀ {d:D} {v x:AV},Rp E R d v→d2c d=some x→v=x
 | .any,v,x,_,e=>by cases e
 | .bool b,v,x,h,e=>by simp only[Rp]at h;cases e;exact h
 | .int k n,v,x,h,e=>by simp only[Rp]at h;cases e;exact h
 | .str s,v,x,h,e=>by simp only[Rp]at h;cases e;exact h
 | .nilPtr,v,x,h,e=>by simp only[Rp]at h;cases e;exact h
 | .nilSlc,v,x,h,e=>by simp only[Rp]at h;cases e;exact h
 | .nilMap,v,x,h,e=>by simp only[Rp]at h;cases e;exact h
 | .nilFn,v,x,h,e=>by simp only[Rp]at h;cases e;exact h
 | .nilIfc,v,x,h,e=>by simp only[Rp]at h;cases e;exact h
 | .mp k,v,x,h,e=>by cases e
 | .ptr k i,v,x,h,e=>by simp only[Rp]at h;cases e;exact h
 | .rel ..,v,x,h,e=>by cases e
 | .elt ..,v,x,h,e=>by cases e
 | .lst ..,v,x,h,e=>by cases e
 | .ext ..,v,x,h,e=>by cases e
 | .raw ..,v,x,h,e=>by cases e
 | .tip ..,v,x,h,e=>by cases e
 | .fn ..,v,x,h,e=>by cases e
 | .ifc ..,v,x,h,e=>by cases e
 | .tup ..,v,x,h,e=>by cases e
 | .agg cs,v,x,h,e=>by
  simp only[Rp]at h
  obtain⟨vs,rfl,h1,h2⟩:=h
  simp only[d2c]at e
  split at e
  ·rename_i l hl
   cases e
   rw[c6K h1 hl]
  ·cases e
theorem c6K:∀ {ds:List D} {vs xs:List AV},z7 E R ds vs→c3r ds=some xs→vs=xs
 | [],vs,xs,h,e=>by simp only[z7]at h;cases e;exact h
 |d::ds,vs,xs,h,e=>by
  simp only[z7]at h
  obtain⟨v,ws,rfl,h1,h2⟩:=h
  simp only[c3r]at e
  split at e
  ·rename_i a b ha hb
   cases e
   rw[c5A h1 ha,c6K h2 hb]
  ·cases e
end
theorem d4l{op:BinOp}{t:TypeId}{x y:Operand}{a b:D}{va vb:AV}(ha:Rp E R a va)(hb:Rp E R b vb){d:D}(h:d4C P op t x y a b=some d):∃v,Rp E R d v∧c8f P op t x y va vb=some v:=by
 unfold d4C at h
 split at h
 ·
  cases a<;>simp only[i5]at h<;>try (cases h;done)
  rename_i k n
  cases b<;>simp only at h<;>try (cases h;done)
  rename_i k' m
  simp only[Rp]at ha hb
  subst ha hb
  have hg:a1D P op t x y (.int k n) (.int k' m)=true:=by cases op<;>rfl
  unfold c8f
  rw[if_pos hg]
  simp only[b3E]
  cases op
  case shl=>
   simp only at h ⊢
   split at h
   ·cases h
   ·rename_i h0;cases h;rw[if_neg h0];exact⟨_,by simp only[Rp],rfl⟩
  case shr=>
   simp only at h ⊢
   split at h
   ·cases h
   ·rename_i h0;cases h;rw[if_neg h0];exact⟨_,by simp only[Rp],rfl⟩
  all_goals
   simp only at h ⊢
   split at h
   ·rename_i hk
    rw[if_pos hk]
    cases hr:Q4 _ k n m with
    |none=>rw[hr]at h;cases h
    |some v=>rw[hr]at h;cases h;exact⟨v,b4H,rfl⟩
   ·cases h
 ·
  cases a<;>simp only[c7w]at h<;>try (cases h;done)
  rename_i s
  cases b<;>simp only at h<;>try (cases h;done)
  rename_i u
  simp only[Rp]at ha hb
  subst ha hb
  have hg:a1D P op t x y (.str s) (.str u)=true:=by cases op<;>rfl
  unfold c8f
  rw[if_pos hg]
  exact d0y h
 ·
  rename_i hu
  obtain⟨r,hr,hd⟩:=b2m h
  cases a<;>simp only[d4P]at hr<;>try (cases hr;done)
  cases b<;>simp only at hr<;>try (cases hr;done)
  simp only[Rp]at ha hb
  subst ha hb
  cases hr
  exact a7d hd (by rcases hd with ⟨rfl,_⟩|⟨rfl,_⟩<;>rfl) (by simp) (by simp) (by simp only[Op.maxDepth,eqA,hu])
 ·
  rename_i e hu
  obtain⟨r,hr,hd⟩:=b2m h
  unfold c7e at hr
  split at hr<;>try (cases hr;done)
  all_goals
   cases hr
   simp only[Rp]at ha hb
   try (rcases ha with ⟨e0,_⟩|⟨o,j,cap,ex,z,rfl,_⟩; ·cases e0)
   try (rcases hb with ⟨e0,_⟩|⟨o,j,cap,ex,z,rfl,_⟩; ·cases e0)
   try (obtain⟨o,j,cap,ex,z,all,rfl,_⟩:=ha)
   try (obtain⟨o,j,cap,ex,z,all,rfl,_⟩:=hb)
   try (obtain⟨_,rfl⟩:=(ha:_∧_))
   try (obtain⟨_,rfl⟩:=(hb:_∧_))
   try subst ha
   try subst hb
   exact a7d hd (by rcases hd with ⟨rfl,_⟩|⟨rfl,_⟩<;>rfl) (by simp) (by simp) (by simp only[Op.maxDepth,eqA,hu])
 ·
  rename_i e hu
  obtain⟨r,hr,hd⟩:=b2m h
  cases a<;>simp only[d6b]at hr<;>try (cases hr;done)
  all_goals
   cases b<;>simp only at hr<;>try (cases hr;done)
   all_goals
    cases hr
    simp only[Rp]at ha hb
    try (obtain⟨o,j,all,rfl,_⟩:=ha)
    try (obtain⟨o,j,all,rfl,_⟩:=hb)
    try (obtain⟨_,rfl⟩:=(ha:_∧_))
    try (obtain⟨_,rfl⟩:=(hb:_∧_))
    try subst ha
    try subst hb
    exact a7d hd (by rcases hd with ⟨rfl,_⟩|⟨rfl,_⟩<;>rfl) (by simp) (by simp) (by simp only[Op.maxDepth,eqA,hu])
 ·
  rename_i hu
  obtain⟨r,hr,hd⟩:=b2m h
  cases a<;>simp only[d5E]at hr<;>try (cases hr;done)
  all_goals
   cases b<;>simp only at hr<;>try (cases hr;done)
   all_goals
    cases hr
    simp only[Rp]at ha hb
    try (obtain⟨a',b',rfl,_⟩:=ha)
    try (obtain⟨a',b',rfl,_⟩:=hb)
    try subst ha
    try subst hb
    exact a7d hd (by rcases hd with ⟨rfl,_⟩|⟨rfl,_⟩<;>rfl) (by simp) (by simp) (by simp only[Op.maxDepth,eqA,hu])
 ·
  rename_i e hu
  obtain⟨r,hr,hd⟩:=b2m h
  cases a<;>simp only[d5K]at hr<;>try (cases hr;done)
  ·cases b<;>simp only at hr<;>try (cases hr;done)
   ·split at hr
    ·rename_i hc
     cases hr
     simp only[Rp]at ha hb
     subst ha hb
     exact a7d hd (by rcases hd with ⟨rfl,_⟩|⟨rfl,_⟩<;>exact hc) (by simp) (by simp) (by simp only[Op.maxDepth,eqA,hu])
    ·cases hr
   ·cases hr
    simp only[Rp]at ha hb
    obtain⟨v',rfl,_⟩:=hb
    subst ha
    exact a7d hd (by rcases hd with ⟨rfl,_⟩|⟨rfl,_⟩<;>rfl) (by simp) (by simp) (by simp only[Op.maxDepth,eqA,hu])
  ·cases b<;>simp only at hr<;>try (cases hr;done)
   cases hr
   simp only[Rp]at ha hb
   obtain⟨v',rfl,_⟩:=ha
   subst hb
   exact a7d hd (by rcases hd with ⟨rfl,_⟩|⟨rfl,_⟩<;>rfl) (by simp) (by simp) (by simp only[Op.maxDepth,eqA,hu])
 ·
  rename_i e hu
  obtain⟨r,hr,hd⟩:=b2m h
  cases a<;>simp only[d5P]at hr<;>try (cases hr;done)
  cases b<;>simp only at hr<;>try (cases hr;done)
  rename_i xs ys
  split at hr
  ·rename_i xa ya hx hy
   split at hr
   ·cases hr
   ·rename_i hg
    have e1:=c5A ha (x:= .agg xa) (by simp only[d2c,hx])
    have e2:=c5A hb (x:= .agg ya) (by simp only[d2c,hy])
    subst e1 e2
    have hg':P.eqGuardType P.depth t=false:=by simpa using hg
    exact a7d hd (by rcases hd with ⟨rfl,_⟩|⟨rfl,_⟩<;>simp only[a1D,hg',Bool.not_false]) (by simp) (by simp) hr
  ·cases hr
 ·cases h
theorem d5S{op:UnOp}{a:D}{v:AV}(ha:Rp E R a v){d:D}(h:unD op a=some d):∃x,Rp E R d x∧unA op v=some x:=by
 cases op<;>cases a<;>simp only[unD]at h<;>try (cases h;done)
 all_goals
  cases h
  simp only[Rp]at ha
  subst ha
  exact⟨_,by simp only[Rp],rfl⟩
end
end Go.Am
end
