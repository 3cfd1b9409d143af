/-
  ImageSpoiltSaid: part Pan of its proof.
-/
import Derived.Test.YtchnpgddpaonhaaPam
set_option linter.unusedVariables false
set_option linter.unusedSimpArgs false
set_option maxRecDepth 100000
section
namespace Go.Am
section
variable{P:Program}{E:m6}{R:Fz}{S:b7}{H0:AHeap}
theorem b5u{v:AV}:Rp E R (a0P v) v:=by
 cases v<;>simp only[a0P,Rp]
theorem b7e:∀l:List AV,A3 E R (l.map a0P) l
 | []=>G4
 |v::l=>A2 b5u (b7e l)
theorem c3y{v:AV}:Rp E R (d0B v) v:=by
 unfold d0B
 split
 ·rename_i cs
  split
  ·rename_i h
   simp only[Rp]
   exact⟨cs,rfl,b7e cs,h⟩
  ·simp only[Rp]
 ·exact a2G
 ·exact b5u
theorem A1{T:List D}{avs:List AV}(h:A3 E R T avs)(x:Operand):Rp E R (B0 T x) (o0 avs x):=by
 cases x with
 |tmp t=>exact b5c h t
 |const v=>exact c3y
 |global g=>simp only[B0,Rp]
 |func f=>
  simp only[B0,o0,Rp]
  exact⟨[],[],rfl,G4,G4⟩
theorem a4m{T:List D}{avs:List AV}(h:A3 E R T avs):∀l:List Operand,A3 E R (l.map (B0 T)) (l.map (o0 avs))
 | []=>G4
 |x::l=>A2 (A1 h x) (a4m h l)
theorem b1T{d:D}{v:AV}(h:Rp E R d v){ds:List D}(hc:r7 d=some ds):A3 E R ds v.cells∧v.cells.all w8=true:=by
 cases d<;>simp only[r7,Option.some.injEq]at hc<;>try (cases hc;done)
 case agg cs=>
  subst hc
  simp only[Rp]at h
  obtain⟨vs,rfl,h1,h2⟩:=h
  exact⟨h1,h2⟩
 all_goals
  subst hc
  have hR:=h
  simp only[Rp]at h
  first
   |(subst h;exact⟨A2 hR G4,rfl⟩)
   |(rcases h with ⟨_,rfl⟩|⟨o,j,cap,ex,z,rfl,_⟩<;>exact⟨A2 hR G4,rfl⟩)
   |(obtain⟨o,j,cap,ex,z,all,rfl,_⟩:=h;exact⟨A2 hR G4,rfl⟩)
   |(obtain⟨o,j,all,rfl,_⟩:=h;exact⟨A2 hR G4,rfl⟩)
   |(obtain⟨a',b',rfl,_⟩:=h;exact⟨A2 hR G4,rfl⟩)
   |(obtain⟨v',rfl,_⟩:=h;exact⟨A2 hR G4,rfl⟩)
theorem b7o{o:Id}{all:List AV}(h:rdE E R o=some all){k:Option Nat}{H:AHeap}(hA:Agr R S k H):cellsOf E H o=some all:=by
 cases o with
 |old b=>exact h
 |new j=>
  obtain⟨w,p,g⟩:=hA.fz j all h
  simp only[cellsOf,g]
theorem a1U{l:List AV}(h:l.all w8=true)(n:Nat):(l.drop n).all w8=true:=
 List.all_eq_true.2 fun x hx=>List.all_eq_true.1 h x (List.mem_of_mem_drop hx)
theorem O9{l:List AV}(h:l.all w8=true)(n:Nat):(l.take n).all w8=true:=
 List.all_eq_true.2 fun x hx=>List.all_eq_true.1 h x (List.mem_of_mem_take hx)
theorem c6a(hC:D5 E R S H0){a:D}{v:AV}(h:Rp E R a v){row:List D}{i:Nat}(hr:c2Q S a=some (row,i)):
  ∃o j all,v= .ptr o (j+i)∧A3 E R row ((all.drop j).take row.length)∧((all.drop j).take row.length).all w8=true∧∀H,Agr R S (b6h a) H→cellsOf E H o=some all:=by
 cases a<;>simp only[c2Q]at hr<;>try (cases hr;done)
 case ptr k j=>
  simp only[Rp]at h
  subst h
  cases hk:S k with
  |none=>rw[hk]at hr;cases hr
  |some o=>
   simp only[hk]at hr
   obtain⟨h1,⟨pre,h2⟩,h3,h4,h5⟩:=hC.own k o hk
   split at hr
   ·rename_i cs hcs
    cases hr
    rw[hcs,List.flatten_singleton]at h5
    have e:o.acs.take row.length=o.acs:=List.take_of_length_le (by rw[h5.length];exact Nat.le_refl _)
    refine⟨.new k,0,o.acs,by rw[Nat.zero_add], ?_, ?_,fun H hA=> ?_⟩
    ·rw[List.drop_zero,e];exact h5
    ·rw[List.drop_zero,e];exact h3
    ·obtain⟨w,p,g⟩:=hA.st k o rfl hk
     simp only[cellsOf,g]
   ·cases hr
 case rel k r j sz=>
  simp only[Rp]at h
  subst h
  cases hk:S k with
  |none=>rw[hk]at hr;cases hr
  |some o=>
   simp only[hk]at hr
   obtain⟨h1,⟨pre,h2⟩,h3,h4,h5⟩:=hC.own k o hk
   split at hr
   ·rename_i hsz
    split at hr
    ·rename_i row' hrow
     cases hr
     have hl:row.length=sz:=by rw[h4 row (List.mem_of_getElem? hrow),hsz]
     refine⟨.new k,r*sz,o.acs,rfl, ?_,O9 (a1U h3 _) _,fun H hA=> ?_⟩
     ·have:=(h5.drop (r*sz)).take row.length
      rw[←hsz]at this hl ⊢
      rw[hl,b2k h4 hrow]at this
      rw[hl]
      exact this
     ·obtain⟨w,p,g⟩:=hA.st k o rfl hk
      simp only[cellsOf,g]
    ·cases hr
   ·cases hr
 case elt row' j=>
  cases hr
  simp only[Rp]at h
  obtain⟨o,j',all,rfl,e2,e3,e4⟩:=h
  exact⟨o,j',all,rfl,e3,e4,fun H hA=>b7o e2 hA⟩
theorem a8p{α:Type}{all:List α}{j L i n:Nat}(h:i+n≤L):(all.drop (j+i)).take n=(((all.drop j).take L).drop i).take n:=by
 rw[List.drop_take,List.take_take,List.drop_drop,Nat.min_eq_left (by omega)]
theorem c8I(hC:D5 E R S H0){t:TypeId}{a:D}{v:AV}(h:Rp E R a v){d:D}(hd:c9p P S t a=some d):
  ∃x,Rp E R d x∧∀H,Agr R S (b6h a) H→c8M P E H t v=some x:=by
 unfold c9p at hd
 cases hg:a8F P t with
 |none=>rw[hg]at hd;cases hd
 |some b=>
  rw[hg]at hd
  cases b with
  |true=>
   cases hs:D7 P t with
   |none=>rw[hs]at hd;cases hd
   |some n=>
    simp only[hs,j0]at hd
    split at hd
    ·rename_i row i hrow
     split at hd
     ·rename_i hn
      cases hd
      obtain⟨o,j,all,rfl,h1,h2,h3⟩:=c6a hC h hrow
      have hl:=h1.length
      rw[List.length_take,List.length_drop]at hl
      refine⟨.agg ((all.drop (j+i)).take n), ?_,fun H hA=> ?_⟩
      ·rw[a8p hn.2]
       simp only[Rp]
       exact⟨_,rfl,(h1.drop i).take n,O9 (a1U h2 i) n⟩
      ·show M4 P E H t o (j+i)=_
       simp only[M4,hg,hs,Option.pure_def,Option.bind_eq_bind,Option.bind_some,if_true,F0,h3 H hA]
       rw[if_pos (by omega)]
       rfl
     ·cases hd
    ·cases hd
  |false=>
   simp only[c9]at hd
   split at hd
   ·rename_i row i hrow
    obtain⟨o,j,all,rfl,h1,h2,h3⟩:=c6a hC h hrow
    obtain⟨x,e1,e2⟩:=a5h h1 hd
    refine⟨x,e2,fun H hA=> ?_⟩
    show M4 P E H t o (j+i)=_
    simp only[M4,hg,Option.pure_def,Option.bind_eq_bind,Option.bind_some,Bool.false_eq_true,if_false,a5Z,h3 H hA]
    rw[List.getElem?_take]at e1
    split at e1
    ·rw[List.getElem?_drop]at e1;exact e1
    ·cases e1
   ·cases hd
theorem d3n{c a b:D}{vc va vb:AV}(hc:Rp E R c vc)(ha:Rp E R a va)(hb:Rp E R b vb){d:D}(h:z2 c a b=some d):∃x,Rp E R d x∧c8N vc va vb=some x:=by
 cases c<;>simp only[z2]at h<;>try (cases h;done)
 case bool t=>
  cases h
  simp only[Rp]at hc
  subst hc
  refine⟨_, ?_,rfl⟩
  cases t
  ·exact hb
  ·exact ha
theorem d4k{c:D}{v:AV}(hc:Rp E R c v){d:D}(h:U4 c=some d):Rp E R d v∧d0v v=some v:=by
 cases c<;>simp only[U4]at h<;>try (cases h;done)
 case fn f a b=>
  have hR:=hc
  simp only[Rp]at hc
  obtain⟨a',b',rfl,_⟩:=hc
  cases f<;>simp at h<;>(subst h;exact⟨hR,rfl⟩)
 all_goals
  cases h
  have hR:=hc
  simp only[Rp]at hc
  first
   |(subst hc;exact⟨hR,rfl⟩)
   |(rcases hc with ⟨_,rfl⟩|⟨o,j,cap,ex,z,rfl,_⟩<;>exact⟨hR,rfl⟩)
   |(obtain⟨o,j,cap,ex,z,all,rfl,_⟩:=hc;exact⟨hR,rfl⟩)
   |(obtain⟨o,j,all,rfl,_⟩:=hc;exact⟨hR,rfl⟩)
   |(obtain⟨v',rfl,_⟩:=hc;exact⟨hR,rfl⟩)
theorem c8s{c:D}{v:AV}(hc:Rp E R c v){ix:Nat}{d:D}(h:o5 c ix=some d):∃x,Rp E R d x∧b6c v ix=some x:=by
 cases c<;>simp only[o5]at h<;>try (cases h;done)
 case tup vs=>
  simp only[Rp]at hc
  obtain⟨ws,rfl,h1⟩:=hc
  obtain⟨x,e1,e2⟩:=a5h h1 h
  exact⟨x,e2,e1⟩
theorem c9S{op:BinOp}{x y:List UInt8}{d:D}(h:(a6Z op x y).map a0P=some d):∃v,Rp E R d v∧a6Z op x y=some v:=by
 cases hs:a6Z op x y with
 |none=>rw[hs]at h;cases h
 |some v=>rw[hs]at h;cases h;exact⟨v,b5u,rfl⟩
theorem b2G{op:BinOp}{r:Option Bool}{d:D}(h:a9j op r=some d):∃b,r=some b∧((op= .eql∧d= .bool b)∨(op= .neq∧d= .bool !b)):=by
 cases op<;>simp only[a9j]at h<;>try (cases h;done)
 all_goals
  cases r with
  |none=>cases h
  |some b=>cases h;exact⟨b,rfl,by simp⟩
theorem a6O{op:BinOp}{t:TypeId}{x y:Operand}{a b:AV}{r:Bool}{d:D}(hd:(op= .eql∧d= .bool r)∨(op= .neq∧d= .bool !r))(hg:a1Q P op t x y a b=true)
  (hi:∀k n k' m,¬(a= .int k n∧b= .int k' m)) (hs:∀s u,¬(a= .str s∧b= .str u)) (he:eqA P Op.maxDepth t a b=some r):∃v,Rp E R d v∧c7H P op t x y a b=some v:=by
 have hb:∀op,(op=BinOp.eql∨op= .neq)→b3M P op t a b=match op with
   | .eql=>(eqA P Op.maxDepth t a b).map .bool
   | .neq=>(eqA P Op.maxDepth t a b).map fun r=> .bool !r
   |_=>none:=by
  intro op ho
  unfold b3M
  split
  ·exact(hi _ _ _ _ ⟨rfl,rfl⟩).elim
  ·exact(hs _ _ ⟨rfl,rfl⟩).elim
  ·rfl
 unfold c7H
 rw[if_pos hg]
 rcases hd with ⟨rfl,rfl⟩|⟨rfl,rfl⟩
 ·refine⟨.bool r,by simp only[Rp], ?_⟩
  rw[hb _ (.inl rfl),he];rfl
 ·refine⟨.bool !r,by simp only[Rp], ?_⟩
  rw[hb _ (.inr rfl),he];rfl
mutual
theorem c3X:∀ {d:D} {v x:AV},Rp E R d v→d1a d=some x→v=x
 | .any,v,x,_,e=>by cases e
 | .bool b,v,x,h,e=>by simp only[Rp]at h;cases e;exact h
 | .int k n,v,x,h,e=>by simp only[Rp]at h;cases e;exact h
 | .str s,v,x,h,e=>by simp only[Rp]at h;cases e;exact h
 | .nilPtr,v,x,h,e=>by simp only[Rp]at h;cases e;exact h
 | .nilSlc,v,x,h,e=>by simp only[Rp]at h;cases e;exact h
 | .nilMap,v,x,h,e=>by simp only[Rp]at h;cases e;exact h
 | .nilFn,v,x,h,e=>by simp only[Rp]at h;cases e;exact h
 | .nilIfc,v,x,h,e=>by simp only[Rp]at h;cases e;exact h
 | .ptr k i,v,x,h,e=>by simp only[Rp]at h;cases e;exact h
 | .rel ..,v,x,h,e=>by cases e
 | .elt ..,v,x,h,e=>by cases e
 | .lst ..,v,x,h,e=>by cases e
 | .ext ..,v,x,h,e=>by cases e
 | .raw ..,v,x,h,e=>by cases e
 | .fn ..,v,x,h,e=>by cases e
 | .ifc ..,v,x,h,e=>by cases e
 | .tup ..,v,x,h,e=>by cases e
 | .agg cs,v,x,h,e=>by
  simp only[Rp]at h
  obtain⟨vs,rfl,h1,h2⟩:=h
  simp only[d1a]at e
  split at e
  ·rename_i l hl
   cases e
   rw[c5y h1 hl]
  ·cases e
theorem c5y:∀ {ds:List D} {vs xs:List AV},A3 E R ds vs→c2N ds=some xs→vs=xs
 | [],vs,xs,h,e=>by simp only[A3]at h;cases e;exact h
 |d::ds,vs,xs,h,e=>by
  simp only[A3]at h
  obtain⟨v,ws,rfl,h1,h2⟩:=h
  simp only[c2N]at e
  split at e
  ·rename_i a b ha hb
   cases e
   rw[c3X h1 ha,c5y h2 hb]
  ·cases e
end
theorem d4x{op:BinOp}{t:TypeId}{x y:Operand}{a b:D}{va vb:AV}(ha:Rp E R a va)(hb:Rp E R b vb){d:D}(h:d4a P op t x y a b=some d):∃v,Rp E R d v∧c7H P op t x y va vb=some v:=by
 unfold d4a at h
 split at h
 ·
  cases a<;>simp only[d8]at h<;>try (cases h;done)
  rename_i k n
  cases b<;>simp only at h<;>try (cases h;done)
  rename_i k' m
  simp only[Rp]at ha hb
  subst ha hb
  have hg:a1Q P op t x y (.int k n) (.int k' m)=true:=by cases op<;>rfl
  unfold c7H
  rw[if_pos hg]
  simp only[b3M]
  cases op
  case shl=>
   simp only at h ⊢
   split at h
   ·cases h
   ·rename_i h0;cases h;rw[if_neg h0];exact⟨_,by simp only[Rp],rfl⟩
  case shr=>
   simp only at h ⊢
   split at h
   ·cases h
   ·rename_i h0;cases h;rw[if_neg h0];exact⟨_,by simp only[Rp],rfl⟩
  all_goals
   simp only at h ⊢
   split at h
   ·rename_i hk
    rw[if_pos hk]
    cases hr:P9 _ k n m with
    |none=>rw[hr]at h;cases h
    |some v=>rw[hr]at h;cases h;exact⟨v,b5u,rfl⟩
   ·cases h
 ·
  cases a<;>simp only[c2p]at h<;>try (cases h;done)
  rename_i s
  cases b<;>simp only at h<;>try (cases h;done)
  rename_i u
  simp only[Rp]at ha hb
  subst ha hb
  have hg:a1Q P op t x y (.str s) (.str u)=true:=by cases op<;>rfl
  unfold c7H
  rw[if_pos hg]
  exact c9S h
 ·
  rename_i hu
  obtain⟨r,hr,hd⟩:=b2G h
  cases a<;>simp only[d2k]at hr<;>try (cases hr;done)
  cases b<;>simp only at hr<;>try (cases hr;done)
  simp only[Rp]at ha hb
  subst ha hb
  cases hr
  exact a6O hd (by rcases hd with ⟨rfl,_⟩|⟨rfl,_⟩<;>rfl) (by simp) (by simp) (by simp only[Op.maxDepth,eqA,hu])
 ·
  rename_i e hu
  obtain⟨r,hr,hd⟩:=b2G h
  unfold c6d at hr
  split at hr<;>try (cases hr;done)
  all_goals
   cases hr
   simp only[Rp]at ha hb
   try (rcases ha with ⟨e0,_⟩|⟨o,j,cap,ex,z,rfl,_⟩; ·cases e0)
   try (rcases hb with ⟨e0,_⟩|⟨o,j,cap,ex,z,rfl,_⟩; ·cases e0)
   try (obtain⟨o,j,cap,ex,z,all,rfl,_⟩:=ha)
   try (obtain⟨o,j,cap,ex,z,all,rfl,_⟩:=hb)
   try subst ha
   try subst hb
   exact a6O hd (by rcases hd with ⟨rfl,_⟩|⟨rfl,_⟩<;>rfl) (by simp) (by simp) (by simp only[Op.maxDepth,eqA,hu])
 ·
  rename_i e hu
  obtain⟨r,hr,hd⟩:=b2G h
  cases a<;>simp only[d4X]at hr<;>try (cases hr;done)
  all_goals
   cases b<;>simp only at hr<;>try (cases hr;done)
   all_goals
    cases hr
    simp only[Rp]at ha hb
    try (obtain⟨o,j,all,rfl,_⟩:=ha)
    try (obtain⟨o,j,all,rfl,_⟩:=hb)
    try subst ha
    try subst hb
    exact a6O hd (by rcases hd with ⟨rfl,_⟩|⟨rfl,_⟩<;>rfl) (by simp) (by simp) (by simp only[Op.maxDepth,eqA,hu])
 ·
  rename_i hu
  obtain⟨r,hr,hd⟩:=b2G h
  cases a<;>simp only[d5d]at hr<;>try (cases hr;done)
  all_goals
   cases b<;>simp only at hr<;>try (cases hr;done)
   all_goals
    cases hr
    simp only[Rp]at ha hb
    try (obtain⟨a',b',rfl,_⟩:=ha)
    try (obtain⟨a',b',rfl,_⟩:=hb)
    try subst ha
    try subst hb
    exact a6O hd (by rcases hd with ⟨rfl,_⟩|⟨rfl,_⟩<;>rfl) (by simp) (by simp) (by simp only[Op.maxDepth,eqA,hu])
 ·
  rename_i e hu
  obtain⟨r,hr,hd⟩:=b2G h
  cases a<;>simp only[d1x]at hr<;>try (cases hr;done)
  ·cases b<;>simp only at hr<;>try (cases hr;done)
   ·split at hr
    ·rename_i hc
     cases hr
     simp only[Rp]at ha hb
     subst ha hb
     exact a6O hd (by rcases hd with ⟨rfl,_⟩|⟨rfl,_⟩<;>exact hc) (by simp) (by simp) (by simp only[Op.maxDepth,eqA,hu])
    ·cases hr
   ·cases hr
    simp only[Rp]at ha hb
    obtain⟨v',rfl,_⟩:=hb
    subst ha
    exact a6O hd (by rcases hd with ⟨rfl,_⟩|⟨rfl,_⟩<;>rfl) (by simp) (by simp) (by simp only[Op.maxDepth,eqA,hu])
  ·cases b<;>simp only at hr<;>try (cases hr;done)
   cases hr
   simp only[Rp]at ha hb
   obtain⟨v',rfl,_⟩:=ha
   subst hb
   exact a6O hd (by rcases hd with ⟨rfl,_⟩|⟨rfl,_⟩<;>rfl) (by simp) (by simp) (by simp only[Op.maxDepth,eqA,hu])
 ·
  rename_i e hu
  obtain⟨r,hr,hd⟩:=b2G h
  cases a<;>simp only[d5F]at hr<;>try (cases hr;done)
  cases b<;>simp only at hr<;>try (cases hr;done)
  rename_i xs ys
  split at hr
  ·rename_i xa ya hx hy
   split at hr
   ·cases hr
   ·rename_i hg
    have e1:=c3X ha (x:= .agg xa) (by simp only[d1a,hx])
    have e2:=c3X hb (x:= .agg ya) (by simp only[d1a,hy])
    subst e1 e2
    have hg':P.eqGuardType P.depth t=false:=by simpa using hg
    exact a6O hd (by rcases hd with ⟨rfl,_⟩|⟨rfl,_⟩<;>simp only[a1Q,hg',Bool.not_false]) (by simp) (by simp) hr
  ·cases hr
 ·cases h
theorem d4Z{op:UnOp}{a:D}{v:AV}(ha:Rp E R a v){d:D}(h:unD op a=some d):∃x,Rp E R d x∧unA op v=some x:=by
 cases op<;>cases a<;>simp only[unD]at h<;>try (cases h;done)
 all_goals
  cases h
  simp only[Rp]at ha
  subst ha
  exact⟨_,by simp only[Rp],rfl⟩
end
end Go.Am
end
