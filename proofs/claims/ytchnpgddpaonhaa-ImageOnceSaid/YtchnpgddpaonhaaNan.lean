/-
  ImageOnceSaid: part Nan of its proof.
-/
import Derived.Test.YtchnpgddpaonhaaNam
set_option linter.unusedVariables false
set_option linter.unusedSimpArgs false
set_option maxRecDepth 100000
section
namespace Go.Am
section
variable{P:Program}{E:l9}{R:Fz}{S:b7}{H0:AHeap}
theorem b4u{v:AV}:Rp E R (a0N v) v:=by
 cases v<;>simp only[a0N,Rp]
theorem b5W:∀l:List AV,A2 E R (l.map a0N) l
 | []=>F5
 |v::l=>A7 b4u (b5W l)
theorem c3l{v:AV}:Rp E R (c8M v) v:=by
 unfold c8M
 split
 ·rename_i cs
  split
  ·rename_i h
   simp only[Rp]
   exact⟨cs,rfl,b5W cs,h⟩
  ·simp only[Rp]
 ·exact a2L
 ·exact b4u
theorem z7{T:List D}{avs:List AV}(h:A2 E R T avs)(x:Operand):Rp E R (A5 T x) (m8 avs x):=by
 cases x with
 |tmp t=>exact b4y h t
 |const v=>exact c3l
 |global g=>simp only[A5,Rp]
 |func f=>
  simp only[A5,m8,Rp]
  exact⟨[],[],rfl,F5,F5⟩
theorem a3G{T:List D}{avs:List AV}(h:A2 E R T avs):∀l:List Operand,A2 E R (l.map (A5 T)) (l.map (m8 avs))
 | []=>F5
 |x::l=>A7 (z7 h x) (a3G h l)
theorem b1B{d:D}{v:AV}(h:Rp E R d v){ds:List D}(hc:r4 d=some ds):A2 E R ds v.cells∧v.cells.all u9=true:=by
 cases d<;>simp only[r4,Option.some.injEq]at hc<;>try (cases hc;done)
 case agg cs=>
  subst hc
  simp only[Rp]at h
  obtain⟨vs,rfl,h1,h2⟩:=h
  exact⟨h1,h2⟩
 all_goals
  subst hc
  have hR:=h
  simp only[Rp]at h
  first
   |(subst h;exact⟨A7 hR F5,rfl⟩)
   |(rcases h with ⟨_,rfl⟩|⟨o,j,cap,ex,z,rfl,_⟩<;>exact⟨A7 hR F5,rfl⟩)
   |(obtain⟨o,j,cap,ex,z,all,rfl,_⟩:=h;exact⟨A7 hR F5,rfl⟩)
   |(obtain⟨o,j,all,rfl,_⟩:=h;exact⟨A7 hR F5,rfl⟩)
   |(obtain⟨a',b',rfl,_⟩:=h;exact⟨A7 hR F5,rfl⟩)
   |(obtain⟨v',rfl,_⟩:=h;exact⟨A7 hR F5,rfl⟩)
theorem b6F{o:Id}{all:List AV}(h:rdE E R o=some all){k:Option Nat}{H:AHeap}(hA:Agr R S k H):cellsOf E H o=some all:=by
 cases o with
 |old b=>exact h
 |new j=>
  obtain⟨w,p,g⟩:=hA.fz j all h
  simp only[cellsOf,g]
theorem a1z{l:List AV}(h:l.all u9=true)(n:Nat):(l.drop n).all u9=true:=
 List.all_eq_true.2 fun x hx=>List.all_eq_true.1 h x (List.mem_of_mem_drop hx)
theorem N9{l:List AV}(h:l.all u9=true)(n:Nat):(l.take n).all u9=true:=
 List.all_eq_true.2 fun x hx=>List.all_eq_true.1 h x (List.mem_of_mem_take hx)
theorem c5z(hC:C8 E R S H0){a:D}{v:AV}(h:Rp E R a v){row:List D}{i:Nat}(hr:c1D S a=some (row,i)):
  ∃o j all,v= .ptr o (j+i)∧A2 E R row ((all.drop j).take row.length)∧((all.drop j).take row.length).all u9=true∧∀H,Agr R S (b4G a) H→cellsOf E H o=some all:=by
 cases a<;>simp only[c1D]at hr<;>try (cases hr;done)
 case ptr k j=>
  simp only[Rp]at h
  subst h
  cases hk:S k with
  |none=>rw[hk]at hr;cases hr
  |some o=>
   simp only[hk]at hr
   obtain⟨h1,⟨pre,h2⟩,h3,h4,h5⟩:=hC.own k o hk
   split at hr
   ·rename_i cs hcs
    cases hr
    rw[hcs,List.flatten_singleton]at h5
    have e:o.acs.take row.length=o.acs:=List.take_of_length_le (by rw[h5.length];exact Nat.le_refl _)
    refine⟨.new k,0,o.acs,by rw[Nat.zero_add], ?_, ?_,fun H hA=> ?_⟩
    ·rw[List.drop_zero,e];exact h5
    ·rw[List.drop_zero,e];exact h3
    ·obtain⟨w,p,g⟩:=hA.st k o rfl hk
     simp only[cellsOf,g]
   ·cases hr
 case rel k r j sz=>
  simp only[Rp]at h
  subst h
  cases hk:S k with
  |none=>rw[hk]at hr;cases hr
  |some o=>
   simp only[hk]at hr
   obtain⟨h1,⟨pre,h2⟩,h3,h4,h5⟩:=hC.own k o hk
   split at hr
   ·rename_i hsz
    split at hr
    ·rename_i row' hrow
     cases hr
     have hl:row.length=sz:=by rw[h4 row (List.mem_of_getElem? hrow),hsz]
     refine⟨.new k,r*sz,o.acs,rfl, ?_,N9 (a1z h3 _) _,fun H hA=> ?_⟩
     ·have:=(h5.drop (r*sz)).take row.length
      rw[←hsz]at this hl ⊢
      rw[hl,b0l h4 hrow]at this
      rw[hl]
      exact this
     ·obtain⟨w,p,g⟩:=hA.st k o rfl hk
      simp only[cellsOf,g]
    ·cases hr
   ·cases hr
 case elt row' j=>
  cases hr
  simp only[Rp]at h
  obtain⟨o,j',all,rfl,e2,e3,e4⟩:=h
  exact⟨o,j',all,rfl,e3,e4,fun H hA=>b6F e2 hA⟩
theorem a7P{α:Type}{all:List α}{j L i n:Nat}(h:i+n≤L):(all.drop (j+i)).take n=(((all.drop j).take L).drop i).take n:=by
 rw[List.drop_take,List.take_take,List.drop_drop,Nat.min_eq_left (by omega)]
theorem c7C(hC:C8 E R S H0){t:TypeId}{a:D}{v:AV}(h:Rp E R a v){d:D}(hd:c7x P S t a=some d):
  ∃x,Rp E R d x∧∀H,Agr R S (b4G a) H→c7R P E H t v=some x:=by
 unfold c7x at hd
 cases hg:a8e P t with
 |none=>rw[hg]at hd;cases hd
 |some b=>
  rw[hg]at hd
  cases b with
  |true=>
   cases hs:C9 P t with
   |none=>rw[hs]at hd;cases hd
   |some n=>
    simp only[hs,i9]at hd
    split at hd
    ·rename_i row i hrow
     split at hd
     ·rename_i hn
      cases hd
      obtain⟨o,j,all,rfl,h1,h2,h3⟩:=c5z hC h hrow
      have hl:=h1.length
      rw[List.length_take,List.length_drop]at hl
      refine⟨.agg ((all.drop (j+i)).take n), ?_,fun H hA=> ?_⟩
      ·rw[a7P hn.2]
       simp only[Rp]
       exact⟨_,rfl,(h1.drop i).take n,N9 (a1z h2 i) n⟩
      ·show L6 P E H t o (j+i)=_
       simp only[L6,hg,hs,Option.pure_def,Option.bind_eq_bind,Option.bind_some,if_true,E4,h3 H hA]
       rw[if_pos (by omega)]
       rfl
     ·cases hd
    ·cases hd
  |false=>
   simp only[c9]at hd
   split at hd
   ·rename_i row i hrow
    obtain⟨o,j,all,rfl,h1,h2,h3⟩:=c5z hC h hrow
    obtain⟨x,e1,e2⟩:=a4D h1 hd
    refine⟨x,e2,fun H hA=> ?_⟩
    show L6 P E H t o (j+i)=_
    simp only[L6,hg,Option.pure_def,Option.bind_eq_bind,Option.bind_some,Bool.false_eq_true,if_false,a5S,h3 H hA]
    rw[List.getElem?_take]at e1
    split at e1
    ·rw[List.getElem?_drop]at e1;exact e1
    ·cases e1
   ·cases hd
theorem d0H{c a b:D}{vc va vb:AV}(hc:Rp E R c vc)(ha:Rp E R a va)(hb:Rp E R b vb){d:D}(h:w8 c a b=some d):∃x,Rp E R d x∧c7p vc va vb=some x:=by
 cases c<;>simp only[w8]at h<;>try (cases h;done)
 case bool t=>
  cases h
  simp only[Rp]at hc
  subst hc
  refine⟨_, ?_,rfl⟩
  cases t
  ·exact hb
  ·exact ha
theorem d2w{c:D}{v:AV}(hc:Rp E R c v){d:D}(h:R6 c=some d):Rp E R d v∧c8f v=some v:=by
 cases c<;>simp only[R6]at h<;>try (cases h;done)
 case fn f a b=>
  have hR:=hc
  simp only[Rp]at hc
  obtain⟨a',b',rfl,_⟩:=hc
  cases f<;>simp at h<;>(subst h;exact⟨hR,rfl⟩)
 all_goals
  cases h
  have hR:=hc
  simp only[Rp]at hc
  first
   |(subst hc;exact⟨hR,rfl⟩)
   |(rcases hc with ⟨_,rfl⟩|⟨o,j,cap,ex,z,rfl,_⟩<;>exact⟨hR,rfl⟩)
   |(obtain⟨o,j,cap,ex,z,all,rfl,_⟩:=hc;exact⟨hR,rfl⟩)
   |(obtain⟨o,j,all,rfl,_⟩:=hc;exact⟨hR,rfl⟩)
   |(obtain⟨v',rfl,_⟩:=hc;exact⟨hR,rfl⟩)
theorem c6X{c:D}{v:AV}(hc:Rp E R c v){ix:Nat}{d:D}(h:o6 c ix=some d):∃x,Rp E R d x∧b5e v ix=some x:=by
 cases c<;>simp only[o6]at h<;>try (cases h;done)
 case tup vs=>
  simp only[Rp]at hc
  obtain⟨ws,rfl,h1⟩:=hc
  obtain⟨x,e1,e2⟩:=a4D h1 h
  exact⟨x,e2,e1⟩
theorem c8y{op:BinOp}{x y:List UInt8}{d:D}(h:(a6E op x y).map a0N=some d):∃v,Rp E R d v∧a6E op x y=some v:=by
 cases hs:a6E op x y with
 |none=>rw[hs]at h;cases h
 |some v=>rw[hs]at h;cases h;exact⟨v,b4u,rfl⟩
theorem b1W{op:BinOp}{r:Option Bool}{d:D}(h:b1n op r=some d):∃b,r=some b∧((op= .eql∧d= .bool b)∨(op= .neq∧d= .bool !b)):=by
 cases op<;>simp only[b1n]at h<;>try (cases h;done)
 all_goals
  cases r with
  |none=>cases h
  |some b=>cases h;exact⟨b,rfl,by simp⟩
theorem a6G{op:BinOp}{t:TypeId}{x y:Operand}{a b:AV}{r:Bool}{d:D}(hd:(op= .eql∧d= .bool r)∨(op= .neq∧d= .bool !r))(hg:a1C P op t x y a b=true)
  (hi:∀k n k' m,¬(a= .int k n∧b= .int k' m)) (hs:∀s u,¬(a= .str s∧b= .str u)) (he:eqA P Op.maxDepth t a b=some r):∃v,Rp E R d v∧c6V P op t x y a b=some v:=by
 have hb:∀op,(op=BinOp.eql∨op= .neq)→b3e P op t a b=match op with
   | .eql=>(eqA P Op.maxDepth t a b).map .bool
   | .neq=>(eqA P Op.maxDepth t a b).map fun r=> .bool !r
   |_=>none:=by
  intro op ho
  unfold b3e
  split
  ·exact(hi _ _ _ _ ⟨rfl,rfl⟩).elim
  ·exact(hs _ _ ⟨rfl,rfl⟩).elim
  ·rfl
 unfold c6V
 rw[if_pos hg]
 rcases hd with ⟨rfl,rfl⟩|⟨rfl,rfl⟩
 ·refine⟨.bool r,by simp only[Rp], ?_⟩
  rw[hb _ (.inl rfl),he];rfl
 ·refine⟨.bool !r,by simp only[Rp], ?_⟩
  rw[hb _ (.inr rfl),he];rfl
mutual
theorem c2u:∀ {d:D} {v x:AV},Rp E R d v→c9S d=some x→v=x
 | .any,v,x,_,e=>by cases e
 | .bool b,v,x,h,e=>by simp only[Rp]at h;cases e;exact h
 | .int k n,v,x,h,e=>by simp only[Rp]at h;cases e;exact h
 | .str s,v,x,h,e=>by simp only[Rp]at h;cases e;exact h
 | .nilPtr,v,x,h,e=>by simp only[Rp]at h;cases e;exact h
 | .nilSlc,v,x,h,e=>by simp only[Rp]at h;cases e;exact h
 | .nilMap,v,x,h,e=>by simp only[Rp]at h;cases e;exact h
 | .nilFn,v,x,h,e=>by simp only[Rp]at h;cases e;exact h
 | .nilIfc,v,x,h,e=>by simp only[Rp]at h;cases e;exact h
 | .ptr k i,v,x,h,e=>by simp only[Rp]at h;cases e;exact h
 | .rel ..,v,x,h,e=>by cases e
 | .elt ..,v,x,h,e=>by cases e
 | .lst ..,v,x,h,e=>by cases e
 | .ext ..,v,x,h,e=>by cases e
 | .raw ..,v,x,h,e=>by cases e
 | .fn ..,v,x,h,e=>by cases e
 | .ifc ..,v,x,h,e=>by cases e
 | .tup ..,v,x,h,e=>by cases e
 | .agg cs,v,x,h,e=>by
  simp only[Rp]at h
  obtain⟨vs,rfl,h1,h2⟩:=h
  simp only[c9S]at e
  split at e
  ·rename_i l hl
   cases e
   rw[c4T h1 hl]
  ·cases e
theorem c4T:∀ {ds:List D} {vs xs:List AV},A2 E R ds vs→c1M ds=some xs→vs=xs
 | [],vs,xs,h,e=>by simp only[A2]at h;cases e;exact h
 |d::ds,vs,xs,h,e=>by
  simp only[A2]at h
  obtain⟨v,ws,rfl,h1,h2⟩:=h
  simp only[c1M]at e
  split at e
  ·rename_i a b ha hb
   cases e
   rw[c2u h1 ha,c4T h2 hb]
  ·cases e
end
theorem d2h{op:BinOp}{t:TypeId}{x y:Operand}{a b:D}{va vb:AV}(ha:Rp E R a va)(hb:Rp E R b vb){d:D}(h:d1U P op t x y a b=some d):∃v,Rp E R d v∧c6V P op t x y va vb=some v:=by
 unfold d1U at h
 split at h
 ·
  cases a<;>simp only[d9]at h<;>try (cases h;done)
  rename_i k n
  cases b<;>simp only at h<;>try (cases h;done)
  rename_i k' m
  simp only[Rp]at ha hb
  subst ha hb
  have hg:a1C P op t x y (.int k n) (.int k' m)=true:=by cases op<;>rfl
  unfold c6V
  rw[if_pos hg]
  simp only[b3e]
  cases op
  case shl=>
   simp only at h ⊢
   split at h
   ·cases h
   ·rename_i h0;cases h;rw[if_neg h0];exact⟨_,by simp only[Rp],rfl⟩
  case shr=>
   simp only at h ⊢
   split at h
   ·cases h
   ·rename_i h0;cases h;rw[if_neg h0];exact⟨_,by simp only[Rp],rfl⟩
  all_goals
   simp only at h ⊢
   split at h
   ·rename_i hk
    rw[if_pos hk]
    cases hr:P4 _ k n m with
    |none=>rw[hr]at h;cases h
    |some v=>rw[hr]at h;cases h;exact⟨v,b4u,rfl⟩
   ·cases h
 ·
  cases a<;>simp only[b7Y]at h<;>try (cases h;done)
  rename_i s
  cases b<;>simp only at h<;>try (cases h;done)
  rename_i u
  simp only[Rp]at ha hb
  subst ha hb
  have hg:a1C P op t x y (.str s) (.str u)=true:=by cases op<;>rfl
  unfold c6V
  rw[if_pos hg]
  exact c8y h
 ·
  rename_i hu
  obtain⟨r,hr,hd⟩:=b1W h
  cases a<;>simp only[d1W]at hr<;>try (cases hr;done)
  cases b<;>simp only at hr<;>try (cases hr;done)
  simp only[Rp]at ha hb
  subst ha hb
  cases hr
  exact a6G hd (by rcases hd with ⟨rfl,_⟩|⟨rfl,_⟩<;>rfl) (by simp) (by simp) (by simp only[Op.maxDepth,eqA,hu])
 ·
  rename_i e hu
  obtain⟨r,hr,hd⟩:=b1W h
  unfold c4u at hr
  split at hr<;>try (cases hr;done)
  all_goals
   cases hr
   simp only[Rp]at ha hb
   try (rcases ha with ⟨e0,_⟩|⟨o,j,cap,ex,z,rfl,_⟩; ·cases e0)
   try (rcases hb with ⟨e0,_⟩|⟨o,j,cap,ex,z,rfl,_⟩; ·cases e0)
   try (obtain⟨o,j,cap,ex,z,all,rfl,_⟩:=ha)
   try (obtain⟨o,j,cap,ex,z,all,rfl,_⟩:=hb)
   try subst ha
   try subst hb
   exact a6G hd (by rcases hd with ⟨rfl,_⟩|⟨rfl,_⟩<;>rfl) (by simp) (by simp) (by simp only[Op.maxDepth,eqA,hu])
 ·
  rename_i e hu
  obtain⟨r,hr,hd⟩:=b1W h
  cases a<;>simp only[d3s]at hr<;>try (cases hr;done)
  all_goals
   cases b<;>simp only at hr<;>try (cases hr;done)
   all_goals
    cases hr
    simp only[Rp]at ha hb
    try (obtain⟨o,j,all,rfl,_⟩:=ha)
    try (obtain⟨o,j,all,rfl,_⟩:=hb)
    try subst ha
    try subst hb
    exact a6G hd (by rcases hd with ⟨rfl,_⟩|⟨rfl,_⟩<;>rfl) (by simp) (by simp) (by simp only[Op.maxDepth,eqA,hu])
 ·
  rename_i hu
  obtain⟨r,hr,hd⟩:=b1W h
  cases a<;>simp only[d3p]at hr<;>try (cases hr;done)
  all_goals
   cases b<;>simp only at hr<;>try (cases hr;done)
   all_goals
    cases hr
    simp only[Rp]at ha hb
    try (obtain⟨a',b',rfl,_⟩:=ha)
    try (obtain⟨a',b',rfl,_⟩:=hb)
    try subst ha
    try subst hb
    exact a6G hd (by rcases hd with ⟨rfl,_⟩|⟨rfl,_⟩<;>rfl) (by simp) (by simp) (by simp only[Op.maxDepth,eqA,hu])
 ·
  rename_i e hu
  obtain⟨r,hr,hd⟩:=b1W h
  cases a<;>simp only[c9l]at hr<;>try (cases hr;done)
  ·cases b<;>simp only at hr<;>try (cases hr;done)
   ·split at hr
    ·rename_i hc
     cases hr
     simp only[Rp]at ha hb
     subst ha hb
     exact a6G hd (by rcases hd with ⟨rfl,_⟩|⟨rfl,_⟩<;>exact hc) (by simp) (by simp) (by simp only[Op.maxDepth,eqA,hu])
    ·cases hr
   ·cases hr
    simp only[Rp]at ha hb
    obtain⟨v',rfl,_⟩:=hb
    subst ha
    exact a6G hd (by rcases hd with ⟨rfl,_⟩|⟨rfl,_⟩<;>rfl) (by simp) (by simp) (by simp only[Op.maxDepth,eqA,hu])
  ·cases b<;>simp only at hr<;>try (cases hr;done)
   cases hr
   simp only[Rp]at ha hb
   obtain⟨v',rfl,_⟩:=ha
   subst hb
   exact a6G hd (by rcases hd with ⟨rfl,_⟩|⟨rfl,_⟩<;>rfl) (by simp) (by simp) (by simp only[Op.maxDepth,eqA,hu])
 ·
  rename_i e hu
  obtain⟨r,hr,hd⟩:=b1W h
  cases a<;>simp only[d3a]at hr<;>try (cases hr;done)
  cases b<;>simp only at hr<;>try (cases hr;done)
  rename_i xs ys
  split at hr
  ·rename_i xa ya hx hy
   split at hr
   ·cases hr
   ·rename_i hg
    have e1:=c2u ha (x:= .agg xa) (by simp only[c9S,hx])
    have e2:=c2u hb (x:= .agg ya) (by simp only[c9S,hy])
    subst e1 e2
    have hg':P.eqGuardType P.depth t=false:=by simpa using hg
    exact a6G hd (by rcases hd with ⟨rfl,_⟩|⟨rfl,_⟩<;>simp only[a1C,hg',Bool.not_false]) (by simp) (by simp) hr
  ·cases hr
 ·cases h
theorem d2Z{op:UnOp}{a:D}{v:AV}(ha:Rp E R a v){d:D}(h:unD op a=some d):∃x,Rp E R d x∧unA op v=some x:=by
 cases op<;>cases a<;>simp only[unD]at h<;>try (cases h;done)
 all_goals
  cases h
  simp only[Rp]at ha
  subst ha
  exact⟨_,by simp only[Rp],rfl⟩
end
end Go.Am
end
