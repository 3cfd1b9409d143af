/- A part of the proof of ImageWrites. -/
import Derived.Test.YtchnpgddpaonhaaGreatWaa
import Derived.Laws.StructEq
import Derived.Lib.SlicesS
set_option linter.unusedVariables false
set_option linter.unusedSimpArgs false
set_option maxRecDepth 100000
section
namespace Go.Am
section
section
variable{E:j6}{w0:World}{H:AHeap}{w:World}{ρ:B7}{P:Program}
theorem c7f(b:Nat)(i j:Nat)(w:World):(sameAddr ⟨b,i,none⟩ ⟨b,j,none⟩).run P w= .ok (i==j) w:=by
 simp only[sameAddr,beq_self_eq_true,if_true]
 show Result.ok _ _=_
 congr 1
 rw[Bool.eq_iff_iff];simp
theorem c2b(d:Nat)(t:TypeId)(xs ys:List AV)(vx vy:Array Value)(hx:w5 ρ xs vx.toList)(hy:w5 ρ ys vy.toList)
  (ih:∀t a b va vb r,eqA P d t a b=some r→rel ρ a va→rel ρ b vb→∀w,(Op.equalIn d t va vb).run P w= .ok r w):
  ∀(fs:List Field) (r:Bool),a7E P (fun t a b=>eqA P d t a b) xs ys fs=some r→∀w:World,
   (do
     for f in fs do
      if f.name≠"_" then
       if !(←Op.equalIn d f.type (←part f.type vx f.offset) (←part f.type vy f.offset)) then return false
     pure true:Sem Bool).run P w= .ok r w
 | [],r,h,w=>by simp only[a7E]at h;cases h;rfl
 |f::fs,r,h,w=>by
  have IH:=fun h=>c2b d t xs ys vx vy hx hy ih fs r h w
  simp only[a7E]at h
  by_cases hn:f.name≠"_"
  ·rw[if_pos hn]at h
   split at h
   ·rename_i a b ha hb
    obtain⟨va,h1,h2⟩:=a5T hx ha w
    obtain⟨vb,h3,h4⟩:=a5T hy hb w
    split at h
    ·rename_i he
     have:=ih _ _ _ _ _ _ he h2 h4 w
     simpa [hn,h1,h3,this]using IH h
    ·rename_i r' he hr'
     have hr:r=false:=by
      cases r with
      |false=>rfl
      |true=>exact absurd h hr'
     subst hr
     have:=ih _ _ _ _ _ _ h h2 h4 w
     simp[hn,h1,h3,this]
   ·cases h
  ·rw[if_neg hn]at h
   simp only[ne_eq,Decidable.not_not]at hn
   simpa [hn]using IH h
theorem b9m(x y:List UInt8):((ByteArray.mk x.toArray)==(ByteArray.mk y.toArray))=(x==y):=by
 rw[beq_toListBytes,ByteArray.toList_eq,ByteArray.toList_eq]
theorem c3L:∀(d:Nat) (t:TypeId) (a b:AV) (va vb:Value) (r:Bool),eqA P d t a b=some r→rel ρ a va→rel ρ b vb→∀w,(Op.equalIn d t va vb).run P w= .ok r w
 |0,_,_,_,_,_,_,h,_,_,_=>by simp[eqA]at h
 |d+1,t,a,b,va,vb,r,h,ha,hb,w=>by
  unfold eqA at h
  split at h
  case h_1 hu=>simp only[rel]at ha hb;subst ha hb;cases h;(rw[Op.equalIn];simp only[Sem.run_bind,i7 hu,Result.andThen_ok];rfl)
  case h_2 hu=>
   simp only[rel]at ha hb;subst ha hb
   split at h
   ·rename_i e;cases h;(rw[Op.equalIn];simp only[Sem.run_bind,i7 hu,Result.andThen_ok];simp[e])
   ·cases h
  case h_3 hu=>
   simp only[rel]at ha hb;subst ha hb;cases h
   rename_i x y
   rw[Op.equalIn];simp only[Sem.run_bind,i7 hu,Result.andThen_ok,Sem.run_pure]
   congr 1
   exact b9m _ _
  case h_4 hu=>simp only[rel]at ha hb;subst ha hb;cases h;(rw[Op.equalIn];simp only[Sem.run_bind,i7 hu,Result.andThen_ok];rfl)
  case h_5 hu=>simp only[rel]at ha hb;obtain⟨_,_,_,rfl⟩:=hb;subst ha;cases h;(rw[Op.equalIn];simp only[Sem.run_bind,i7 hu,Result.andThen_ok];rfl)
  case h_6 hu=>simp only[rel]at ha hb;obtain⟨_,_,_,rfl⟩:=ha;subst hb;cases h;(rw[Op.equalIn];simp only[Sem.run_bind,i7 hu,Result.andThen_ok];rfl)
  case h_7 hu=>
   simp only[rel]at ha hb
   obtain⟨b1,d1,g1,rfl⟩:=ha
   obtain⟨b2,d2,g2,rfl⟩:=hb
   split at h
   ·rename_i hc
    obtain⟨rfl,h2,h3⟩:=hc
    cases h
    rw[g1]at g2;cases g2
    obtain⟨n,hn⟩:=Option.isSome_iff_exists.1 h3
    have hn0:n≠0:=by rintro rfl;exact h2 hn
    rw[Op.equalIn];simp only[Sem.run_bind,i7 hu,E4 hn,Result.andThen_ok,hn0,ne_eq,not_false_eq_true,if_true,c7f]
    congr 1
    rw[Bool.eq_iff_iff];simp
   ·cases h
  case h_8 hu=>simp only[rel]at ha hb;subst ha hb;cases h;(rw[Op.equalIn];simp only[Sem.run_bind,i7 hu,Result.andThen_ok];rfl)
  case h_9 hu=>simp only[rel]at ha hb;obtain⟨_,rfl,_⟩:=hb;subst ha;cases h;(rw[Op.equalIn];simp only[Sem.run_bind,i7 hu,Result.andThen_ok];rfl)
  case h_10 hu=>simp only[rel]at ha hb;obtain⟨_,rfl,_⟩:=ha;subst hb;cases h;(rw[Op.equalIn];simp only[Sem.run_bind,i7 hu,Result.andThen_ok];rfl)
  case h_11 hu=>
   simp only[rel]at ha hb
   obtain⟨x1,rfl,r1⟩:=ha
   obtain⟨x2,rfl,r2⟩:=hb
   split at h
   ·rename_i e;cases h;(rw[Op.equalIn];simp only[Sem.run_bind,i7 hu,Result.andThen_ok];simp[e])
   ·rename_i e
    split at h
    ·rename_i i hi
     split at h
     ·rename_i hc
      have:=c3L d _ _ _ _ _ _ h r1 r2 w
      (rw[Op.equalIn];simp only[Sem.run_bind,i7 hu,Result.andThen_ok];simp[e,C0 hi,hc,this])
     ·cases h
    ·cases h
  case h_12 hu=>simp only[rel]at ha hb;subst ha hb;cases h;(rw[Op.equalIn];simp only[Sem.run_bind,i7 hu,Result.andThen_ok];rfl)
  case h_13 hu=>simp only[rel]at ha hb;obtain⟨_,_,rfl,_⟩:=hb;subst ha;cases h;(rw[Op.equalIn];simp only[Sem.run_bind,i7 hu,Result.andThen_ok];rfl)
  case h_14 hu=>simp only[rel]at ha hb;obtain⟨_,_,rfl,_⟩:=ha;subst hb;cases h;(rw[Op.equalIn];simp only[Sem.run_bind,i7 hu,Result.andThen_ok];rfl)
  case h_15 hu=>simp only[rel]at ha hb;subst ha hb;cases h;(rw[Op.equalIn];simp only[Sem.run_bind,i7 hu,Result.andThen_ok];rfl)
  case h_16 hu=>simp only[rel]at ha hb;obtain⟨_,_,rfl⟩:=hb;subst ha;cases h;(rw[Op.equalIn];simp only[Sem.run_bind,i7 hu,Result.andThen_ok];rfl)
  case h_17 hu=>simp only[rel]at ha hb;obtain⟨_,_,rfl⟩:=ha;subst hb;cases h;(rw[Op.equalIn];simp only[Sem.run_bind,i7 hu,Result.andThen_ok];rfl)
  case h_18 hu=>simp only[rel]at ha hb;subst ha hb;cases h;(rw[Op.equalIn];simp only[Sem.run_bind,i7 hu,Result.andThen_ok];rfl)
  case h_19 hu=>simp only[rel]at ha hb;obtain⟨_,_,rfl,_⟩:=hb;subst ha;cases h;(rw[Op.equalIn];simp only[Sem.run_bind,i7 hu,Result.andThen_ok];rfl)
  case h_20 hu=>simp only[rel]at ha hb;obtain⟨_,_,rfl,_⟩:=ha;subst hb;cases h;(rw[Op.equalIn];simp only[Sem.run_bind,i7 hu,Result.andThen_ok];rfl)
  case h_21 hu=>
   simp only[rel]at ha hb
   obtain⟨x1,rfl,r1⟩:=ha
   obtain⟨x2,rfl,r2⟩:=hb
   split at h
   ·cases h
   ·rename_i hst
    have:=c2b d t _ _ x1 x2 r1 r2 (fun t a b va vb r h1 h2 h3 w=>c3L d t a b va vb r h1 h2 h3 w) _ r h w
    rw[Op.equalIn];simp only[Sem.run_bind,i7 hu,Result.andThen_ok,run_program,Bool.not_eq_true]at hst ⊢
    simp only[hst,Bool.false_eq_true,if_false,Sem.run_bind]
    rw[←Array.forIn_toList]
    simp only[Sem.run_bind]at this
    exact this
  case h_22=>cases h
end
end
section
section
variable{E:j6}{w0:World}{H:AHeap}{w:World}{ρ:B7}{P:Program}
theorem c9V{op:BinOp}{k:IntKind}{x y:Int}{r:AV}(h:R3 op k x y=some r)(t:TypeId)(w:World):
  ∃v,(binOp op t (.int k x) (.int k y)).run P w= .ok v w∧rel ρ r v:=by
 cases op<;>simp only[R3]at h
 case quo=>
  split at h
  ·cases h
  ·rename_i hy;cases h
   exact⟨.int k (k.wrap (x.tdiv y)),by simp[binOp,Op.intDiv,hy],by simp only[rel]⟩
 case rem=>
  split at h
  ·cases h
  ·rename_i hy;cases h
   exact⟨.int k (x.tmod y),by simp[binOp,Op.intDiv,hy],by simp only[rel]⟩
 all_goals first
  |(cases h;done)
  |(cases h;exact⟨_,by simp only[binOp,ne_eq,not_true_eq_false,if_false];rfl,by simp only[rel]⟩)
theorem d0m{op:BinOp}{x y:List UInt8}{r:AV}(h:b0D op x y=some r)(t:TypeId)(w:World):
  ∃v,(binOp op t (.string ⟨x.toArray⟩) (.string ⟨y.toArray⟩)).run P w= .ok v w∧rel ρ r v:=by
 have e:∀l:List UInt8,(ByteArray.mk l.toArray).toList=l:=fun l=>by rw[ByteArray.toList_eq]
 cases op<;>simp only[b0D]at h
 case add=>
  split at h
  ·rename_i hn
   cases h
   refine⟨.string (⟨x.toArray⟩++⟨y.toArray⟩), ?_, ?_⟩
   ·have hs:¬(((ByteArray.mk x.toArray).size+(ByteArray.mk y.toArray).size:Nat):Int)>IntKind.i64.max:=by
     have e1:(ByteArray.mk x.toArray).size=x.length:=by simp[ByteArray.size]
     have e2:(ByteArray.mk y.toArray).size=y.length:=by simp[ByteArray.size]
     rw[e1,e2];omega
    simp only[binOp,Op.stringOp]
    rw[if_neg hs]
    rfl
   ·simp only[rel]
    have:(ByteArray.mk x.toArray++ByteArray.mk y.toArray)=⟨(x++y).toArray⟩:=by
     apply ByteArray.ext
     simp
    rw[this]
  ·cases h
 all_goals first
  |(cases h;done)
  |(cases h
    refine⟨_,by simp only[binOp,Op.stringOp,e];rfl,by simp only[rel]⟩)
theorem b6Z{op:BinOp}{t:TypeId}{x y:Operand}{a b:Value}(h1:a= .nilIface→b= .nilIface→(Region.isConst x||Region.isConst y)=true)
  (h2:∀u v,a= .agg u→b= .agg v→P.eqGuardType P.depth t=false) (w:World):(eqGuard op t x y a b).run P w= .ok () w:=by
 cases op
 case eql|neq=>
  unfold eqGuard
  rw[if_neg (by decide)]
  split
  ·have:=h1 rfl rfl
   cases x<;>cases y<;>first|rfl|(simp[Region.isConst]at this;done)
  ·rename_i u v
   have:=h2 u v rfl rfl
   simp[this]
  ·rfl
 all_goals rfl
theorem c8P{d:Nat}{t:TypeId}{a b:AV}{r:Bool}(h:eqA P d t a b=some r):(∀u,a≠ .opq u)∧(∀u,b≠ .opq u):=by
 cases d with
 |zero=>simp[eqA]at h
 |succ d=>
  constructor
  ·rintro u rfl
   unfold eqA at h
   split at h<;>simp_all
  ·rintro u rfl
   unfold eqA at h
   split at h<;>simp_all
theorem c0S{a:AV}(h:rel ρ a .nilIface):a= .nilIfc∨a= .opq .nilIface:=by
 cases a<;>simp[rel]at h ⊢
 exact h.symm
theorem d6Z{a:AV}{u:Array Value}(h:rel ρ a (.agg u)):(∃cs,a= .agg cs)∨a= .opq (.agg u):=by
 cases a<;>simp[rel]at h ⊢
 exact h.symm
theorem c7K{op:BinOp}{t:TypeId}{x y:Operand}{a b:AV}{va vb:Value}{r:Bool}{d:Nat}(hop:op= .eql∨op= .neq)(hg:a2o P op t x y a b=true)(he:eqA P d t a b=some r)
  (ha:rel ρ a va) (hb:rel ρ b vb) (w:World):(eqGuard op t x y va vb).run P w= .ok () w:=by
 obtain⟨n1,n2⟩:=c8P he
 refine b6Z ?_ ?_ w
 ·rintro rfl rfl
  have e1:=(c0S ha).resolve_right (n1 _)
  have e2:=(c0S hb).resolve_right (n2 _)
  subst e1 e2
  rcases hop with rfl|rfl<;>simpa only[a2o]using hg
 ·rintro u v rfl rfl
  obtain⟨c1,e1⟩:=(d6Z ha).resolve_right (n1 _)
  obtain⟨c2,e2⟩:=(d6Z hb).resolve_right (n2 _)
  subst e1 e2
  rcases hop with rfl|rfl<;>simpa only[a2o,Bool.not_eq_true']using hg
theorem d7F{t:TypeId}{a b:Value}(h1:∀k x k' y,a= .int k x→b= .int k' y→False)(h2:∀x y,a= .string x→b= .string y→False)
  (h3:∀k x k' y,a= .float k x→b= .float k' y→False) (h4:∀k x y k' z u,a= .complex k x y→b= .complex k' z u→False):
  binOp .eql t a b=(do pure (.bool (←Op.equal t a b)))∧binOp .neq t a b=(do pure (.bool (!(←Op.equal t a b)))):=by
 constructor
 ·unfold binOp
  split<;>first|rfl|(exfalso;simp_all;done)|(exfalso;first|exact h1 _ _ _ _ rfl rfl|exact h2 _ _ rfl rfl|exact h3 _ _ _ _ rfl rfl|exact h4 _ _ _ _ _ _ rfl rfl)|skip
 ·unfold binOp
  split<;>first|rfl|(exfalso;simp_all;done)|(exfalso;first|exact h1 _ _ _ _ rfl rfl|exact h2 _ _ rfl rfl|exact h3 _ _ _ _ rfl rfl|exact h4 _ _ _ _ _ _ rfl rfl)|skip
theorem d5Y{op:BinOp}{t:TypeId}{x y:Operand}{a b:AV}{va vb:Value}{r:AV}(hg:a2o P op t x y a b=true)(h:b9K P op t a b=some r)
  (ha:rel ρ a va) (hb:rel ρ b vb) (w:World):∃v,(do eqGuard op t x y va vb;binOp op t va vb).run P w= .ok v w∧rel ρ r v:=by
 unfold b9K at h
 split at h
 ·rename_i k m k' n
  simp only[rel]at ha hb;subst ha hb
  have hgd:(eqGuard op t x y (.int k m) (.int k' n)).run P w= .ok () w:=b6Z (fun e=>by cases e) (fun _ _ e=>by cases e) w
  simp only[Sem.run_bind,hgd,Result.andThen_ok]
  split at h
  ·split at h
   ·cases h
   ·rename_i hy;cases h
    exact⟨.int k (k.wrap (m*2^(min n.toNat k.bits))),by simp only[binOp,Op.shift];rw[if_neg hy];rfl,by simp only[rel]⟩
  ·split at h
   ·cases h
   ·rename_i hy;cases h
    exact⟨.int k (m.fdiv (2^(min n.toNat k.bits))),by simp only[binOp,Op.shift];rw[if_neg hy];rfl,by simp only[rel]⟩
  ·split at h
   ·rename_i e;subst e
    exact c9V h t w
   ·cases h
 ·rename_i s1 s2
  simp only[rel]at ha hb;subst ha hb
  have hgd:(eqGuard op t x y (.string ⟨s1.toArray⟩) (.string ⟨s2.toArray⟩)).run P w= .ok () w:=b6Z (fun e=>by cases e) (fun _ _ e=>by cases e) w
  simp only[Sem.run_bind,hgd,Result.andThen_ok]
  exact d0m h t w
 ·rename_i hi hs
  have key:∀ {e:Bool},eqA P Op.maxDepth t a b=some e→op= .eql∨op= .neq→
    (binOp .eql t va vb).run P w= .ok (.bool e) w∧(binOp .neq t va vb).run P w= .ok (.bool !e) w∧(eqGuard op t x y va vb).run P w= .ok () w:=by
   intro e he hop
   obtain⟨n1,n2⟩:=c8P he
   have hr:(Op.equal t va vb).run P w= .ok e w:=c3L _ _ _ _ _ _ _ he ha hb w
   have hb2:=d7F (t:=t) (a:=va) (b:=vb)
    (fun k m k' n e1 e2=>by
     subst e1 e2
     cases a<;>simp[rel]at ha<;>try (exact(n1 _ rfl).elim)
     cases b<;>simp[rel]at hb<;>try (exact(n2 _ rfl).elim)
     exact hi _ _ _ _ rfl rfl)
    (fun m n e1 e2=>by
     subst e1 e2
     cases a<;>simp[rel]at ha<;>try (exact(n1 _ rfl).elim)
     cases b<;>simp[rel]at hb<;>try (exact(n2 _ rfl).elim)
     exact hs _ _ rfl rfl)
    (fun k m k' n e1 e2=>by
     subst e1 e2
     cases a<;>simp[rel]at ha<;>try (exact(n1 _ rfl).elim))
    (fun k m p k' n q e1 e2=>by
     subst e1 e2
     cases a<;>simp[rel]at ha<;>try (exact(n1 _ rfl).elim))
   refine⟨?_, ?_,c7K hop hg he ha hb w⟩
   ·rw[hb2.1];simp[hr]
   ·rw[hb2.2];simp[hr]
  split at h
  ·simp only[Option.map_eq_some_iff]at h
   obtain⟨e,he,rfl⟩:=h
   obtain⟨h1,_,h3⟩:=key he (.inl rfl)
   exact⟨.bool e,by simp only[Sem.run_bind,h3,Result.andThen_ok,h1],by simp only[rel]⟩
  ·simp only[Option.map_eq_some_iff]at h
   obtain⟨e,he,rfl⟩:=h
   obtain⟨_,h2,h3⟩:=key he (.inr rfl)
   exact⟨.bool (!e),by simp only[Sem.run_bind,h3,Result.andThen_ok,h2],by simp only[rel]⟩
  ·cases h
theorem d7y{op:UnOp}{a:AV}{va:Value}{r:AV}(h:unA op a=some r)(ha:rel ρ a va)(w:World):∃v,(Op.unary op va).run P w= .ok v w∧rel ρ r v:=by
 unfold unA at h
 split at h
 ·simp only[rel]at ha;subst ha;cases h;exact⟨_,rfl,by simp only[rel]⟩
 ·simp only[rel]at ha;subst ha;cases h;exact⟨_,rfl,by simp only[rel]⟩
 ·simp only[rel]at ha;subst ha;cases h;exact⟨_,rfl,by simp only[rel]⟩
 ·cases h
end
end
section
def W8(E:j6)(w0:World)(H:AHeap)(ρ:B7)(a:AV)(H':AHeap)(r:Result Value):Prop:=
 ∃v w' ρ',r= .ok v w'∧Ext ρ ρ'∧(∀k,¬(H.next≤k∧k<H'.next)→ρ' k=ρ k)∧rel ρ' a v∧K9 E w0 H' w' ρ'∧H.next≤H'.next
def a4P(ρ:B7)(H H':AHeap):Prop:=∀k,H.next≤k→k<H'.next→ρ k=none
section
variable{E:j6}{w0:World}{H:AHeap}{w:World}{ρ:B7}{P:Program}
theorem W8.same(R:K9 E w0 H w ρ){a:AV}{v:Value}{r:Result Value}(h:r= .ok v w)(hr:rel ρ a v):W8 E w0 H ρ a H r:=
 ⟨v,w,ρ,h,Ext.refl _,fun _ _=>rfl,hr,R,Nat.le_refl _⟩
theorem W8.new(R:K9 E w0 H w ρ){cs:List AV}{arr:Array Value}{el:TypeId}{lo hi:Nat}{a:AV}{v:Value}{w':World}{r:Result Value}
  (hf:a4P ρ H (newCells H cs)) (hl:cs.length≤arr.size) (hr:w5 ρ cs (arr.toList.take cs.length)) (hz:lo=hi∨arr.size≤lo)
  (hw:w'.heap=w.heap.push (.cells arr el (lo,hi))) (h:r= .ok v w') (ha:rel (upd ρ H.next ⟨w.heap.size,0,arr.size⟩) a v) (hs:w'.os=w.os∧w'.output=w.output:=by exact⟨rfl,rfl⟩):
  W8 E w0 H ρ a (newCells H cs) r:=by
 have hn:=hf H.next (Nat.le_refl _) (by simp[newCells])
 refine⟨v,w',_,h,b0n _ hn, ?_,ha,(R.new hn (el:=el) (lo:=lo) (hi:=hi) (pre:=[]) hl hr (fun _=>hz) (by simp)).heap_eq hw hs,by simp[newCells]⟩
 intro k hk
 rw[J4]
 rintro rfl
 exact hk ⟨Nat.le_refl _,by simp[newCells]⟩
theorem c8p(ρ:B7)(k b n:Nat):rel (upd ρ k ⟨b,0,n⟩) (.ptr (.new k) 0) (.pointer (some ⟨b,0,none⟩)):=by
 simp only[rel,Q3,U5]
 exact⟨b,0,rfl,rfl⟩
theorem a7Q(ρ:B7)(k b n len cap c size:Nat)(ex:Bool)(h1:len≤c)(h2:cap≤c)(h3:ex=true→c=cap)(h4:c*size≤n):
  rel (upd ρ k ⟨b,0,n⟩) (.slc (.new k) 0 len cap ex size) (.slice (some ⟨b,0,none⟩) len c):=by
 simp only[rel,Q3,U5,c3X]
 exact⟨⟨b,0,none⟩,c,rfl,h1,h2,h3, .inr ⟨b,0,rfl,rfl⟩,_,rfl,by simpa using h4⟩
theorem a4D{cs:List AV}{arr:Array Value}(h:w5 ρ cs arr.toList):cs.length≤arr.size∧w5 ρ cs (arr.toList.take cs.length):=by
 have hl:=B2 h
 refine⟨by simp at hl;omega, ?_⟩
 rw[List.take_of_length_le (by omega)];exact h
theorem d1Z(R:K9 E w0 H w ρ){e:TypeId}{z:AV}(h:U3 P e=some z)(hf:a4P ρ H (newCells H z.cells)):
  W8 E w0 H ρ (.ptr (.new H.next) 0) (newCells H z.cells) ((Instr.alloc e true (.tuple #[])).run P w):=by
 obtain⟨v,h1,h2⟩:=a5o (ρ:=ρ) h w
 obtain⟨g1,g2⟩:=a4D (a3E h2)
 refine W8.new R hf g1 g2 (lo:=0) (hi:=0) (.inl rfl) (el:=e) (w':= { w with heap:=w.heap.push (.cells v.cells e) }) rfl (v:= .pointer (some ⟨w.heap.size,0,none⟩)) ?_ (c8p _ _ _ _)
 simp only[Instr.alloc,newVar,newRow,Sem.run_bind,h1,Result.andThen_ok,run_newObj,Sem.run_pure]
theorem d5u(R:K9 E w0 H w ρ){e:TypeId}{a:AV}{va:Value}(ha:rel ρ a va)(hf:a4P ρ H (newCells H a.cells)):
  W8 E w0 H ρ (.ptr (.new H.next) 0) (newCells H a.cells) ((Instr.box e va).run P w):=by
 obtain⟨g1,g2⟩:=a4D (a3E ha)
 exact W8.new R hf g1 g2 (lo:=0) (hi:=0) (.inl rfl) (el:=e) (w':= { w with heap:=w.heap.push (.cells va.cells e) }) rfl (v:= .pointer (some ⟨w.heap.size,0,none⟩)) rfl (c8p _ _ _ _)
theorem c7I{z:List AV}{zs:List Value}(hz:w5 ρ z zs):∀n,w5 ρ (rep z n) ((List.range (n*zs.length)).map fun i=>zs[i % zs.length]!)
 |0=>by simp[rep,u9]
 |n+1=>by
  have ih:=c7I hz n
  have hsplit:(List.range ((n+1)*zs.length)).map (fun i=>zs[i % zs.length]!)=zs++(List.range (n*zs.length)).map fun i=>zs[i % zs.length]! :=by
   rw[Nat.succ_mul,Nat.add_comm,List.range_add,List.map_append,List.map_map]
   congr 1
   ·apply List.ext_getElem
    ·simp
    ·intro i h1 h2
     simp at h1
     simp[Nat.mod_eq_of_lt h1,h1]
   ·apply List.map_congr_left
    intro i _
    simp
  rw[hsplit,rep]
  exact W9 hz ih
theorem b1S(zero:Array Value)(m:Nat):((Array.range m).map (zero[· % zero.size]!)).toList=(List.range m).map fun i=>zero.toList[i % zero.toList.length]! :=by
 simp only[Array.toList_map,Array.toList_range]
 apply List.map_congr_left
 intro i _
 simp[getElem!_def]
theorem b9w(z:List AV):∀n,(rep z n).length=n*z.length
 |0=>by simp[rep]
 |n+1=>by rw[rep,List.length_append,b9w z n,Nat.succ_mul,Nat.add_comm]
theorem d4x{e:TypeId}{z:AV}{size:Nat}(h:U3 P e=some z)(hs:z.cells.length=size)(n:Nat):∃zero:Array Value,
  (n*size=0→zero= #[])∧(n*size≠0→∃v,(∀w,(zeroValue e).run P w= .ok v w)∧v.cells=zero)∧
  w5 ρ (rep z.cells n) ((Array.range (n*size)).map (zero[· % zero.size]!)).toList:=by
 obtain⟨v,_,h2⟩:=a5o (P:=P) (ρ:=ρ) h default
 have hv:∀w,(zeroValue e).run P w= .ok v w:=fun w=>by
  unfold U3 at h
  split at h
  ·rename_i i hi
   rename_i h1 _
   simp only[zeroValue,Sem.run_bind,C0 hi,Result.andThen_ok]at h1 ⊢
   split at h1
   ·rename_i u hu;simp only[Sem.run_pure]at h1;cases h1;rfl
   ·cases h1
  ·cases h
 have hc:=a3E h2
 have hl:=B2 hc
 simp only[Array.length_toList]at hl
 by_cases h0:n*size=0
 ·refine⟨#[],fun _=>rfl,fun h=>absurd h0 h, ?_⟩
  have:rep z.cells n=[]:=by
   apply List.eq_nil_of_length_eq_zero
   rw[b9w,hs,h0]
  rw[this,h0]
  simp[u9]
 ·refine⟨v.cells,fun h=>absurd h h0,fun _=>⟨v,hv,rfl⟩, ?_⟩
  rw[b1S]
  have:=c7I hc n
  rw[Array.length_toList, ←hl,hs]at this
  rw[Array.length_toList, ←hl,hs]
  exact this
theorem c0Z(R:K9 E w0 H w ρ){t:TypeId}{len:Nat}{ps:List (Nat×AV)}{qs:Array (Nat×Value)}{a:AV}{H':AHeap}
  (h:R9 P H t len ps=some (a,H')) (hp:d5L ρ ps qs.toList) (hf:a4P ρ H H'):W8 E w0 H ρ a H' ((Instr.buildSlice t len qs).run P w):=by
 unfold R9 at h
 simp only[Option.bind_eq_bind,Option.bind_eq_some_iff]at h
 obtain⟨e,he,size,hs,h⟩:=h
 split at h
 ·rename_i hn
  simp only[Option.bind_eq_some_iff]at h
  obtain⟨z,hz,h⟩:=h
  split at h
  ·rename_i hzs
   simp only[Option.bind_eq_some_iff]at h
   obtain⟨cs,hcs,h⟩:=h
   cases h
   obtain⟨zero,h1,h1',h2⟩:=d4x (P:=P) (ρ:=ρ) hz hzs len
   obtain⟨xs,g1,g2,g3⟩:=b0x hcs hp h2
   obtain⟨k1,k2⟩:=a4D g2
   refine W8.new R hf k1 k2 (lo:=0) (hi:=0) (.inl rfl) (el:=e) (w':= { w with heap:=w.heap.push (.cells xs e) }) rfl
    (v:= .slice (some ⟨w.heap.size,0,none⟩) len len) ?_ (a7Q _ _ _ _ _ _ _ _ _ (Nat.le_refl _) (Nat.le_refl _) (fun _=>rfl) (by rw[g3];simp))
   simp only[Instr.buildSlice,Sem.run_bind,i7 (a4Y he),Result.andThen_ok,E4 hs]
   rw[if_neg (by omega)]
   by_cases h0:len*size=0
   ·have:=h1 h0;subst this
    rw[if_pos h0]
    simp only[pure_bind,g1]
    rfl
   ·obtain⟨v,hv,rfl⟩:=h1' h0
    rw[if_neg h0]
    simp only[Sem.run_bind,hv,Result.andThen_ok,pure_bind,g1]
    rfl
  ·cases h
 ·cases h
theorem c2X(R:K9 E w0 H w ρ){t:TypeId}{len cap:AV}{vl vc:Value}{a:AV}{H':AHeap}
  (h:U0 P H t len cap=some (a,H')) (h1:rel ρ len vl) (h2:rel ρ cap vc) (hf:a4P ρ H H'):W8 E w0 H ρ a H' ((Instr.makeSlice t vl vc).run P w):=by
 unfold U0 at h
 simp only[Option.bind_eq_bind,Option.bind_eq_some_iff]at h
 obtain⟨e,he,size,hs,bytes,hb,l,hl,c,hc,z,hz,h⟩:=h
 split at h
 ·rename_i hcond
  obtain⟨c1,c2,c3,c4,c5,c6⟩:=hcond
  cases h
  obtain⟨i,hi,rfl⟩:=c9j hb
  have e1:∃k,vl= .int k l:=by
   cases len<;>simp only[a1f]at hl<;>cases hl
   simp only[rel]at h1;exact⟨_,h1⟩
  have e2:∃k,vc= .int k c:=by
   cases cap<;>simp only[a1f]at hc<;>cases hc
   simp only[rel]at h2;exact⟨_,h2⟩
  obtain⟨k1,rfl⟩:=e1
  obtain⟨k2,rfl⟩:=e2
  obtain⟨zero,g1,g1',g2⟩:=d4x (P:=P) (ρ:=ρ) hz c6 c.toNat
  obtain⟨m1,m2⟩:=a4D g2
  refine W8.new R hf m1 m2 (lo:=0) (hi:=0) (.inl rfl) (el:=e) (w':= { w with heap:=w.heap.push (.cells _ e) }) rfl
   (v:= .slice (some ⟨w.heap.size,0,none⟩) l.toNat c.toNat) ?_ (a7Q _ _ _ _ _ _ _ _ _ (by omega) (Nat.le_refl _) (fun _=>rfl) (by simp))
  have t1:(decide (c<0)||decide ((i.bytes:Int)*c>2^48))=false:=by
   simp only[Bool.or_eq_false_iff,decide_eq_false_iff_not];omega
  simp only[Instr.makeSlice,Sem.run_bind,i7 (a4Y he),Result.andThen_ok,asInt,asIntOf,Sem.run_pure,C0 hi,c1,c2]
  rw[if_neg (by simp only[t1,Bool.false_or,Bool.or_eq_true,decide_eq_true_eq];omega)]
  simp only[Sem.run_bind,run_askRoom,Result.andThen_ok,E4 hs]
  by_cases h0:c.toNat*size=0
  ·have:=g1 h0;subst this
   rw[if_pos h0]
   rfl
  ·obtain⟨v,hv,rfl⟩:=g1' h0
   rw[if_neg h0]
   simp only[Sem.run_bind,hv,Result.andThen_ok]
   rfl
 ·cases h
end
end
section
section
variable{E:j6}{w0:World}{H:AHeap}{w:World}{ρ:B7}{P:Program}
theorem d2g{a:AV}{v:Value}{n:Int}(h:a1f a=some n)(r:rel ρ a v):∃k,v= .int k n:=by
 cases a<;>simp only[a1f]at h<;>cases h
 simp only[rel]at r;exact⟨_,r⟩
theorem K9.mark(R:K9 E w0 H w ρ){b:Nat}{arr:Array Value}{el:TypeId}{lo hi lo' hi':Nat}(hb:w.heap[b]? =some (.cells arr el (lo,hi)))(h0:w0.heap.size≤b)
  (hz:lo=hi∨arr.size≤lo→lo'=hi'∨arr.size≤lo'):K9 E w0 H (E1 w b (.cells arr el (lo',hi'))) ρ:=by
 have hblk:=(Array.getElem?_eq_some_iff.1 hb).1
 refine⟨by rw[a5M];exact R.size, ?_,R.env,R.side, ?_,R.apart,R.pres,R.kin⟩
 ·intro b' hb';rw[C1 _ _ _ hblk,if_neg (by omega)];exact R.old b' hb'
 ·intro k o e
  obtain⟨l,h1,h2,h3⟩:=R.objs k o e
  refine⟨l,h1,h2, ?_⟩
  by_cases hl:l.blk=b
  ·cases o with
   |map es c=>obtain⟨mes,g,_⟩:=h3;rw[hl,hb]at g;cases g
   |cells cs wr pre=>
    obtain⟨arr1,el1,lo1,hi1,g0,g1,g2,g3,g4⟩:=h3
    rw[hl,hb]at g0;cases g0
    exact⟨arr,el,lo',hi',by rw[hl,C1 _ _ _ hblk,if_pos rfl],g1,g2,g3,fun hw=>by rw[←g1];exact hz (by rw[g1];exact g4 hw)⟩
  ·exact a3s h3 (by rw[C1 _ _ _ hblk,if_neg (fun e=>hl e.symm)])
theorem d2C{b n:Nat}{arr:Array Value}{el:TypeId}{lo hi:Nat}(h:w.heap[b]? =some (.cells arr el (lo,hi))):
  w.freeze ⟨b,n,none⟩ 1=E1 w b (.cells arr el (if lo==hi then(n,n+1) else(min lo n,max hi (n+1)))):=by
 have hb:=(Array.getElem?_eq_some_iff.1 h).1
 unfold World.freeze
 rw[if_neg (by decide)]
 cases w with
 |mk heap tape drawn os output=>
  simp only[E1,World.mk.injEq,and_true]
  apply Array.ext_getElem?
  intro j
  simp only[Array.getElem?_modify,Array.getElem?_setIfInBounds]
  split
  ·rename_i e;subst e
   simp only at hb h
   rw[h];rfl
  ·rfl
theorem b0l{b i:Nat}{arr:Array Value}{el:TypeId}{lo hi:Nat}(h:w.heap[b]? =some (.cells arr el (lo,hi))):
  (markStringish ⟨b,i,none⟩).run P w= .ok () (E1 w b (.cells arr el (if lo==hi then(arr.size,arr.size+1) else(min lo arr.size,max hi (arr.size+1))))):=by
 simp only[markStringish,Sem.run_bind,run_shape,Result.andThen_ok,World.shape?,h,run_freeze,d2C h]
theorem c4E(f:Value→ByteArray→Sem (ForInStep ByteArray))(hf:∀n s,f (.int .u8 n) s=pure (ForInStep.yield (s.push (UInt8.ofNat n.toNat)))):∀(cs:List AV) (vs:List Value) (bs:List UInt8) (acc:ByteArray),cs.mapM d2Y=some bs→w5 ρ cs vs→∀w:World,
  (forIn vs acc f).run P w= .ok ⟨acc.data++bs.toArray⟩ w
 | [],vs,bs,acc,h,hr,w=>by
  rw[u9]at hr;subst hr
  simp at h;subst h
  simp
 |c::cs,[],_,_,_,hr,_=>(A6 hr).elim
 |c::cs,v::vs,bs,acc,h,hr,w=>by
  rw[r7]at hr
  simp only[List.mapM_cons,Option.bind_eq_bind,Option.bind_eq_some_iff]at h
  obtain⟨b,hb,bs',hbs,h⟩:=h
  cases h
  have hv:∃n,v= .int .u8 n∧b=UInt8.ofNat n.toNat:=by
   unfold d2Y at hb
   split at hb
   ·cases hb
    have:=hr.1
    simp only[rel]at this
    exact⟨_,this,rfl⟩
   ·cases hb
  obtain⟨n,rfl,rfl⟩:=hv
  have ih:=c4E f hf cs vs bs' (acc.push (UInt8.ofNat n.toNat)) hbs hr.2 w
  rw[List.forIn_cons,hf]
  simp only[pure_bind]
  rw[ih]
  congr 1
  simp[ByteArray.push]
theorem c6W(s:List UInt8):w5 ρ (s.map fun b=> .int .u8 b.toNat) (s.map fun b=>Value.int .u8 b.toNat):=by
 induction s with
 |nil=>exact u9.2 rfl
 |cons b s ih=>exact r7.2 ⟨by simp only[rel],ih⟩
theorem K9.loadsAt(R:K9 E w0 H w ρ){o:Id}{i n:Nat}{as:List AV}{ad:Addr}(h:G9 E H o i n=some as)
  (hd:n=0∨∃b d,Q3 ρ o=some (b,d)∧ad=⟨b,d+i,none⟩):∃vs,(∀w',w'.heap=w.heap→(loadCells ad n).run P w'= .ok ⟨vs⟩ w')∧w5 ρ as vs:=by
 rcases hd with rfl|⟨b,d,hb,rfl⟩
 ·have:as=[]:=by
   unfold G9 at h
   split at h
   ·split at h
    ·cases h;simp
    ·cases h
   ·cases h
  subst this
  exact⟨[],fun _ _=>rfl,u9.2 rfl⟩
 ·obtain⟨b',d',vs,h1,h2,h3,_⟩:=R.loads (P:=P) h
  rw[hb]at h1;cases h1
  exact⟨vs,h2,h3⟩
theorem K9.rangeAt(R:K9 E w0 H w ρ){o:Id}{i n:Nat}{as:List AV}{ad:Addr}(h:M9 E H o i n=some as)
  (hd:n=0∨∃b d,Q3 ρ o=some (b,d)∧ad=⟨b,d+i,none⟩):∃vs,(∀w',w'.heap=w.heap→(loadCells ad n).run P w'= .ok ⟨vs⟩ w')∧w5 ρ as vs:=by
 unfold M9 at h
 split at h
 ·rename_i e
  subst e
  cases h
  exact⟨[],fun _ _=>rfl,u9.2 rfl⟩
 ·exact R.loadsAt h hd
theorem d4P(R:K9 E w0 H w ρ){src dst:TypeId}{x:AV}{vx:Value}{a:AV}{H':AHeap}(h:U7 P E H src dst x=some (a,H'))(hx:rel ρ x vx)
  (hf:a4P ρ H H'):W8 E w0 H ρ a H' ((convert src dst vx).run P w):=by
 unfold U7 at h
 split at h
 ·rename_i d k _ n h1 h2
  cases h
  simp only[rel]at hx;subst hx
  refine W8.same R (v:= .int k (k.wrap n)) ?_ (by simp only[rel])
  simp only[convert,Sem.run_bind,i7 h1,i7 h2,Result.andThen_ok]
  rfl
 ·rename_i d s h1 h2
  cases h
  simp only[rel]at hx;subst hx
  refine W8.same R (v:= .string ⟨s.toArray⟩) ?_ (by simp only[rel])
  simp only[convert,Sem.run_bind,i7 h1,i7 h2,Result.andThen_ok]
  rfl
 ·rename_i d e s h1 h2
  simp only[rel]at hx;subst hx
  split at h
  ·rename_i he
   split at h
   ·rename_i hs
    cases h
    let cap:=(Question.appendCap (ByteArray.mk s.toArray).size 0 e).cut (w.tape w.drawn (.appendCap (ByteArray.mk s.toArray).size 0 e))
    have hsz:(ByteArray.mk s.toArray).size=s.length:=by simp[ByteArray.size]
    have hcap:s.length≤cap:=by
     simp only[cap,Question.cut,hsz];exact Nat.le_add_right _ _
    let arr:Array Value:=(s.toArray.map fun b=>Value.int .u8 b.toNat)++Array.replicate (cap - (ByteArray.mk s.toArray).size) (.int .u8 0)
    have harr:arr.size=cap:=by simp[arr,hsz];omega
    let w1:World:= { w with drawn:=w.drawn+1,heap:=w.heap.push (.cells arr e) }
    have hb:w1.heap[w.heap.size]? =some (.cells arr e (0,0)):=by simp[w1]
    have hrun:(convert src dst (.string ⟨s.toArray⟩)).run P w= .ok (.slice (some ⟨w.heap.size,0,none⟩) s.length cap)
      (E1 w1 w.heap.size (.cells arr e (arr.size,arr.size+1))):=by
     simp only[convert,Sem.run_bind,i7 h1,i7 h2,i7 he,Result.andThen_ok,Conv.stringToBytes,run_choose,Question.forced,Bool.false_eq_true,
      if_false,newRow,run_newObj,Sem.run_pure]
     have:=b0l (P:=P) (i:=0) hb
     simp only[beq_self_eq_true,if_true]at this
     simp only[w1,arr,cap]at this
     rw[this]
     simp only[Result.andThen_ok,hsz,w1,arr,cap]
    refine W8.new R hf (arr:=arr) (el:=e) (lo:=arr.size) (hi:=arr.size+1) ?_ ?_ (.inr (Nat.le_refl _)) ?_ hrun ?_
    ·simp[arr]
    ·have:arr.toList.take (s.map fun b=>AV.int .u8 b.toNat).length=s.map fun b=>Value.int .u8 b.toNat:=by
      simp[arr]
     rw[this]
     exact c6W s
    ·show(E1 w1 w.heap.size _).heap=_
     simp only[E1,w1]
     apply Array.ext_getElem?
     intro j
     simp only[Array.getElem?_setIfInBounds,Array.getElem?_push,Array.size_push]
     split
     ·rename_i e;subst e;simp
     ·rename_i e;rw[if_neg (fun h=>e h.symm),if_neg (fun h=>e h.symm)]
    ·rw[harr]
     exact a7Q _ _ _ _ _ _ _ _ _ hcap hcap (fun h=>by cases h) (by simp)
   ·cases h
  ·cases h
 ·rename_i d e k i len cap ex sz h1 h2
  split at h
  ·rename_i he
   split at h
   ·rename_i hc
    cases h
    obtain⟨rfl,hlen,hcell⟩:=hc
    have hde:=h1.symm.trans h2
    cases hde
    have hx':=hx
    simp only[rel]at hx
    obtain⟨ad,c,rfl,g1,g2,g3,g4,g5⟩:=hx
    obtain⟨b,d',g6,rfl⟩:=g4.resolve_left (by omega)
    obtain⟨cs,hcs⟩:=Option.isSome_iff_exists.1 hcell
    simp only[cellsOf]at hcs
    split at hcs
    ·rename_i cs' wr pre hk
     obtain⟨l,hl,hb0,arr,el,lo,hi,m1,m2,m3,m4,m5⟩:=R.objs k _ hk
     simp only[Q3,hl,Option.map_some,Option.some.injEq,Prod.mk.injEq]at g6
     obtain⟨rfl,rfl⟩:=g6
     refine⟨.slice (some ⟨l.blk,l.d+i,none⟩) len c,_,ρ, ?_,Ext.refl _,fun _ _=>rfl,hx',R.mark m1 hb0 (lo':=if lo==hi then arr.size else min lo arr.size)
      (hi':=if lo==hi then arr.size+1 else max hi (arr.size+1)) ?_,Nat.le_refl _⟩
     ·simp only[convert,Sem.run_bind,i7 h1,i7 he,Result.andThen_ok,beq_self_eq_true,b0l m1,Sem.run_pure]
      congr 2
      split<;>rfl
     ·intro hz
      by_cases e1:lo=hi
      ·right;simp[e1]
      ·right
       have:=hz.resolve_left e1
       simp[e1];omega
    ·cases hcs
   ·cases h
  ·cases h
 ·rename_i e h1 h2 _
  split at h
  ·rename_i he
   split at h
   ·cases h
    simp only[rel]at hx;subst hx
    refine W8.same R (v:= .string ⟨#[]⟩) ?_ (by simp only[rel])
    simp only[convert,Sem.run_bind,i7 h1,i7 h2,i7 he,Result.andThen_ok]
    rfl
   ·rename_i o i len cap ex sz _
    split at h
    ·rename_i cs hcs
     simp only[Option.map_eq_some_iff]at h
     obtain⟨bs,hbs,h⟩:=h
     cases h
     simp only[rel]at hx
     obtain⟨ad,c,rfl,g1,g2,g3,g4,g5⟩:=hx
     refine W8.same R (v:= .string ⟨bs.toArray⟩) ?_ (by simp only[rel])
     obtain⟨vs,k1,k2⟩:=R.rangeAt (P:=P) hcs (g4.imp (fun e=>by omega) id)
     simp only[convert,Sem.run_bind,i7 h1,i7 h2,i7 he,Result.andThen_ok,Conv.bytesToString,k1 w rfl]
     rw[←Array.forIn_toList]
     rw[c4E (P:=P) _ (fun _ _=>rfl) cs vs bs _ hbs k2 w]
     simp[ByteArray.empty,ByteArray.emptyWithCapacity]
     rfl
    ·cases h
   ·cases h
  ·cases h
 ·cases h
end
end
section
section
variable{E:j6}{w0:World}{H:AHeap}{w:World}{ρ:B7}{P:Program}
def d3T(ρ:B7):Option AV→Option Value→Prop
 |none,none=>True
 |some a,some v=>rel ρ a v
 |_,_=>False
theorem a7e{a:AV}{v:Value}{y c n:Nat}(h:a0o a y=some n)(hr:rel ρ a v)(hy:y≤c)(code:BoundsCode)(w:World):
  (Instr.sliceBound v c code).run P w= .ok n w:=by
 unfold a0o at h
 split at h
 ·rename_i k i
  split at h
  ·rename_i hc
   cases h
   simp only[rel]at hr;subst hr
   simp only[Instr.sliceBound,asIntOf,Sem.run_bind,Sem.run_pure,Result.andThen_ok]
   rw[if_pos ⟨hc.1,by omega⟩]
   rfl
  ·cases h
 ·cases h
theorem b7q{a:AV}{y n:Nat}(h:a0o a y=some n):n≤y:=by
 unfold a0o at h
 split at h
 ·split at h
  ·cases h;omega
  ·cases h
 ·cases h
theorem a5J{len cap c:Nat}{low high max:Option AV}{vl vh vm:Option Value}{l h m:Nat}(hb:a5B len cap low high max=some (l,h,m))
  (h1:d3T ρ low vl) (h2:d3T ρ high vh) (h3:d3T ρ max vm) (hc:cap≤c) (hlc:len≤c) (b:Bool) (w:World):
  ∃m',(Instr.sliceBounds b len c vl vh vm).run P w= .ok (l,h,m') w∧m≤m'∧l≤h∧h≤m'∧m'≤c∧(max.isSome→m'=m)∧(max=none→m'=c∧m=cap):=by
 unfold a5B at hb
 simp only[Option.bind_eq_some_iff,Option.some.injEq,Prod.mk.injEq]at hb
 obtain⟨m0,e1,h0,e2,l0,e3,rfl,rfl,rfl⟩:=hb
 have s3:∀code,(match vl with
   |some v=>Instr.sliceBound v h0 code
   |none=>pure 0:Sem Nat).run P w= .ok l0 w∧l0≤h0:=by
  intro code
  cases low with
  |none=>
   cases vl with
   |some v=>exact h1.elim
   |none=>simp only[d5R]at e3;cases e3;exact⟨rfl,Nat.zero_le _⟩
  |some a=>
   cases vl with
   |none=>exact h1.elim
   |some v=>simp only[d5R]at e3;exact⟨a7e e3 h1 (Nat.le_refl _) _ w,b7q e3⟩
 have fin:∀(m':Nat) (x:Sem Nat) (y:Nat→Sem Nat) (code:BoundsCode),x.run P w= .ok m' w→(y m').run P w= .ok h0 w→
   (do let m←x;let h←y m;let l←(match vl with
      |some v=>Instr.sliceBound v h code
      |none=>pure 0);pure (l,h,m):Sem (Nat×Nat×Nat)).run P w= .ok (l0,h0,m') w:=by
  intro m' x y code hx hy
  simp only[Sem.run_bind,hx,Result.andThen_ok,hy,(s3 code).1,Sem.run_pure]
 have hl0:=(s3 .sliceB).2
 cases max with
 |none=>
  cases vm with
  |some v=>exact h3.elim
  |none=>
   simp only[d4c]at e1;cases e1
   cases high with
   |none=>
    cases vh with
    |some v=>exact h2.elim
    |none=>
     simp only[b8q]at e2;cases e2
     refine⟨c, ?_,hc,hl0,hlc,Nat.le_refl _,by simp,fun _=>⟨rfl,rfl⟩⟩
     have:=fin c (pure c) (fun _=>pure len) .sliceB rfl rfl
     cases vl<;>exact this
   |some a=>
    cases vh with
    |none=>exact h2.elim
    |some v=>
     simp only[b8q]at e2
     have:=b7q e2
     refine⟨c, ?_,hc,hl0,by omega,Nat.le_refl _,by simp,fun _=>⟨rfl,rfl⟩⟩
     have:=fin c (pure c) (fun m=>Instr.sliceBound v m (if b then .sliceAcap else .sliceAlen)) .sliceB rfl (a7e e2 h2 hc _ w)
     cases vl<;>exact this
 |some am=>
  cases vm with
  |none=>exact h3.elim
  |some vm=>
   simp only[d4c]at e1
   have hm0:=b7q e1
   cases high with
   |none=>simp only[b8q]at e2;cases e2
   |some a=>
    cases vh with
    |none=>exact h2.elim
    |some v=>
     simp only[b8q]at e2
     have:=b7q e2
     refine⟨m0, ?_,Nat.le_refl _,hl0,by omega,by omega,fun _=>rfl,by simp⟩
     have:=fin m0 (Instr.sliceBound vm c (if b then .slice3Acap else .slice3Alen)) (fun m=>Instr.sliceBound v m .slice3B) .slice3C (a7e e1 h3 hc _ w) (a7e e2 h2 (Nat.le_refl _) _ w)
     cases vl<;>exact this
theorem d2h(R:K9 E w0 H w ρ){t:TypeId}{x:AV}{vx:Value}{low high max:Option AV}{vl vh vm:Option Value}{a:AV}
  (h:a2N P H t x low high max=some a) (hx:rel ρ x vx) (h1:d3T ρ low vl) (h2:d3T ρ high vh) (h3:d3T ρ max vm):
  ∃v,(Instr.sliceAt t vx vl vh vm).run P w= .ok v w∧rel ρ a v:=by
 unfold a2N at h
 split at h
 ·rename_i s hu
  split at h
  ·cases h
  ·rename_i hm
   simp only[Option.bind_eq_bind,Option.bind_eq_some_iff]at h
   obtain⟨⟨l,hh,m⟩,hb,h⟩:=h
   cases h
   simp only[rel]at hx;subst hx
   have hmn:max=none:=by cases max<;>simp_all
   subst hmn
   have hvm:vm=none:=by cases vm with|none=>rfl|some v=>exact h3.elim
   subst hvm
   obtain⟨m',r1,_,g2,g3,g4,_⟩:=a5J (P:=P) hb h1 h2 (by trivial:d3T ρ none none) (Nat.le_refl _) (Nat.le_refl _) false w
   have hsz:(ByteArray.mk s.toArray).size=s.length:=by simp[ByteArray.size]
   refine⟨.string ((ByteArray.mk s.toArray).extract l hh), ?_, ?_⟩
   ·simp only[Instr.sliceAt,Instr.slice,Sem.run_bind,i7 hu,Result.andThen_ok,Option.isSome_none,Bool.false_eq_true,if_false,hsz,r1]
    rfl
   ·simp only[rel]
    have:(ByteArray.mk s.toArray).extract l hh=⟨((s.drop l).take (hh - l)).toArray⟩:=by
     apply ByteArray.ext
     rw[ByteArray.data_extract]
     simp only
     rw[←Array.toList_inj,Array.toList_extract,List.extract_eq_take_drop]
    rw[this]
 ·rename_i e hu
  simp only[Option.bind_eq_bind,Option.bind_eq_some_iff]at h
  obtain⟨size,hs,⟨l,hh,m⟩,hb,h⟩:=h
  cases h
  simp only[rel]at hx;subst hx
  obtain⟨m',r1,_,g2,g3,g4,_⟩:=a5J (P:=P) hb h1 h2 h3 (Nat.le_refl _) (Nat.le_refl _) true w
  refine⟨.slice none 0 0, ?_,by simp only[rel]⟩
  simp only[Instr.sliceAt,Instr.slice,Sem.run_bind,i7 hu,Result.andThen_ok,r1,E4 hs,Sem.run_pure]
  have e1:l=0:=by omega
  have e2:hh=0:=by omega
  have e3:m'=0:=by omega
  subst e1 e2 e3
  rfl
 ·rename_i e o i len cap ex sz hu
  simp only[Option.bind_eq_bind,Option.bind_eq_some_iff]at h
  obtain⟨size,hs,⟨l,hh,m⟩,hb,h⟩:=h
  split at h
  ·rename_i hsz
   cases h
   simp only[rel]at hx
   obtain⟨ad,c,rfl,g1,g2,g3,g4,g5⟩:=hx
   obtain⟨m',r1,k1,k2,k3,k4,k5,k6⟩:=a5J (P:=P) hb h1 h2 h3 g2 g1 true w
   refine⟨.slice (some (if m'=l then ad else ad.add (l*size))) (hh - l) (m' - l), ?_, ?_⟩
   ·simp only[Instr.sliceAt,Instr.slice,Sem.run_bind,i7 hu,Result.andThen_ok,r1,E4 hs,Sem.run_pure]
    congr 2
    split<;>rfl
   ·simp only[rel]
    refine⟨_,_,rfl,by omega,by omega, ?_, ?_, ?_⟩
    ·intro he
     simp only[Bool.or_eq_true]at he
     cases max with
     |some v=>rw[k5 rfl]
     |none=>
      obtain⟨rfl,rfl⟩:=k6 rfl
      rw[g3 (he.resolve_right (by simp))]
    ·by_cases hml:m'=l
     ·left;omega
     ·right
      obtain⟨b,d,hb1,rfl⟩:=g4.resolve_left (by omega)
      refine⟨b,d,hb1, ?_⟩
      rw[if_neg hml,Addr.add_plain,Nat.add_assoc]
    ·cases o with
     |old b=>trivial
     |new k=>
      obtain⟨lc,hlc,hr⟩:=g5
      simp only[a7I,beq_iff_eq]at hsz;subst hsz
      refine⟨lc,hlc, ?_⟩
      have:l*sz+(m' - l)*sz≤c*sz:=by
       rw[←Nat.add_mul];exact Nat.mul_le_mul_right _ (by omega)
      omega
  ·cases h
 ·rename_i n e k i hu
  simp only[Option.bind_eq_bind,Option.bind_eq_some_iff]at h
  obtain⟨size,hs,⟨l,hh,m⟩,hb,h⟩:=h
  split at h
  ·rename_i cs wr pre hk
   split at h
   ·rename_i hn
    cases h
    simp only[rel]at hx
    obtain⟨b,d,hb1,rfl⟩:=hx
    obtain⟨m',r1,k1,k2,k3,k4,k5,k6⟩:=a5J (P:=P) hb h1 h2 h3 (Nat.le_refl _) (Nat.le_refl _) false w
    have hmm:m'=m:=by
     cases max with
     |some v=>exact k5 rfl
     |none=>obtain⟨rfl,rfl⟩:=k6 rfl;rfl
    subst hmm
    refine⟨.slice (some (if m'=l then⟨b,d+i,none⟩else(⟨b,d+i,none⟩:Addr).add (l*size))) (hh - l) (m' - l), ?_, ?_⟩
    ·simp only[Instr.sliceAt,Instr.sureAddr,Sem.run_bind,i7 hu,Result.andThen_ok,r1,E4 hs,Sem.run_pure]
    ·simp only[rel]
     refine⟨_,_,rfl,by omega,Nat.le_refl _,fun _=>rfl, ?_, ?_⟩
     ·by_cases hml:m'=l
      ·left;omega
      ·right
       refine⟨b,d,hb1, ?_⟩
       rw[if_neg hml,Addr.add_plain,Nat.add_assoc]
     ·obtain⟨lc,hlc,_,arr,el,lo,hi,q1,q2,q3,_⟩:=R.objs k _ hk
      refine⟨lc,hlc, ?_⟩
      have:l*size+(m' - l)*size≤n*size:=by
       rw[←Nat.add_mul];exact Nat.mul_le_mul_right _ (by omega)
      omega
   ·cases h
  ·cases h
 ·cases h
end
end
section
section
variable{E:j6}{w0:World}{H:AHeap}{w:World}{ρ:B7}{P:Program}
theorem b2B{s:TypeId}{f:Nat}{x:Field}(h:a7w P s f=some x):∃fields,P.underlying s=some (.struct fields)∧fields[f]? =some x:=by
 unfold a7w at h
 split at h
 ·rename_i fields hu;exact⟨fields,hu,h⟩
 ·cases h
theorem a9R{b i n:Nat}{f:Field}(hs:E2 P f.type=some n)(hn:n≠0)(w:World):
  (fieldPlace ⟨b,i,none⟩ f).run P w= .ok ⟨b,i+f.offset,none⟩ w:=by
 simp only[fieldPlace,Sem.run_bind,E4 hs,Result.andThen_ok,hn,if_false,Sem.run_pure,Addr.add_plain]
theorem c8X{s:TypeId}{x:AV}{vx:Value}{f:Nat}{a:AV}(h:a9o P s x f=some a)(hx:rel ρ x vx)(w:World):
  ∃v,(Instr.fieldAt s vx f).run P w= .ok v w∧rel ρ a v:=by
 unfold a9o at h
 simp only[Option.bind_eq_bind,Option.bind_eq_some_iff]at h
 obtain⟨fd,hfd,h⟩:=h
 obtain⟨fields,hu,hf⟩:=b2B hfd
 split at h
 ·rename_i o i
  split at h
  ·rename_i hc
   cases h
   obtain⟨n,hn⟩:=Option.isSome_iff_exists.1 hc.1
   have hn0:n≠0:=by rintro rfl;exact hc.2 hn
   simp only[rel]at hx
   obtain⟨b,d,hb,rfl⟩:=hx
   refine⟨.pointer (some ⟨b,d+i+fd.offset,none⟩), ?_,by simp only[rel];exact⟨b,d,hb,by rw[Nat.add_assoc]⟩⟩
   simp only[Instr.fieldAt,Sem.run_bind,i7 hu,Result.andThen_ok,hf,Instr.sureAddr,Sem.run_pure,a9R hn hn0]
  ·cases h
 ·cases h
theorem d2U{s:TypeId}{x:AV}{vx:Value}{f:Nat}{a:AV}(h:b9C P s x f=some a)(hx:rel ρ x vx)(w:World):
  ∃v,(Instr.field s vx f).run P w= .ok v w∧rel ρ a v:=by
 unfold b9C at h
 simp only[Option.bind_eq_bind,Option.bind_eq_some_iff]at h
 obtain⟨fd,hfd,h⟩:=h
 obtain⟨fields,hu,hf⟩:=b2B hfd
 split at h
 ·rename_i cs
  simp only[rel]at hx
  obtain⟨x,rfl,hr⟩:=hx
  obtain⟨v,h1,h2⟩:=a5T hr h w
  exact⟨v,by simp only[Instr.field,Sem.run_bind,i7 hu,Result.andThen_ok,hf,asAgg,Sem.run_pure,h1],h2⟩
 ·cases h
theorem c8t{t:TypeId}{x ix:AV}{vx vi:Value}{a:AV}(h:a2p P t x ix=some a)(hx:rel ρ x vx)(hi:rel ρ ix vi)(w:World):
  ∃v,(Instr.indexAt t vx vi).run P w= .ok v w∧rel ρ a v:=by
 unfold a2p at h
 simp only[Option.bind_eq_bind,Option.bind_eq_some_iff]at h
 obtain⟨n,hn,h⟩:=h
 obtain⟨k,rfl⟩:=d2g hn hi
 split at h
 ·rename_i e o i len cap ex sz hu
  simp only[Option.bind_eq_some_iff]at h
  obtain⟨size,hs,h⟩:=h
  split at h
  ·rename_i hc
   cases h
   simp only[rel]at hx
   obtain⟨ad,c,rfl,g1,g2,g3,g4,g5⟩:=hx
   obtain⟨b,d,hb,rfl⟩:=g4.resolve_left (by omega)
   refine⟨.pointer (some ⟨b,d+i+n.toNat*size,none⟩), ?_,by simp only[rel];exact⟨b,d,hb,by rw[Nat.add_assoc]⟩⟩
   simp only[Instr.indexAt,asIntOf,Sem.run_bind,Sem.run_pure,Result.andThen_ok,i7 hu]
   rw[if_pos hc]
   simp only[Sem.run_bind,E4 hs,Result.andThen_ok,Sem.run_pure,Addr.add_plain]
  ·cases h
 ·rename_i len e o i hu
  simp only[Option.bind_eq_some_iff]at h
  obtain⟨size,hs,h⟩:=h
  split at h
  ·rename_i hc
   cases h
   simp only[rel]at hx
   obtain⟨b,d,hb,rfl⟩:=hx
   refine⟨.pointer (some ⟨b,d+i+n.toNat*size,none⟩), ?_,by simp only[rel];exact⟨b,d,hb,by rw[Nat.add_assoc]⟩⟩
   simp only[Instr.indexAt,asIntOf,Sem.run_bind,Sem.run_pure,Result.andThen_ok,i7 hu,Instr.sureAddr]
   rw[if_pos hc]
   simp only[Sem.run_bind,E4 hs,Result.andThen_ok,Sem.run_pure,Addr.add_plain]
  ·cases h
 ·cases h
theorem d3d{t:TypeId}{x ix:AV}{vx vi:Value}{a:AV}(h:b5t P t x ix=some a)(hx:rel ρ x vx)(hi:rel ρ ix vi)(w:World):
  ∃v,(Instr.index t vx vi).run P w= .ok v w∧rel ρ a v:=by
 unfold b5t at h
 simp only[Option.bind_eq_bind,Option.bind_eq_some_iff]at h
 obtain⟨n,hn,h⟩:=h
 obtain⟨k,rfl⟩:=d2g hn hi
 split at h
 ·rename_i len e cs hu
  simp only[Option.bind_eq_some_iff]at h
  obtain⟨size,hs,h⟩:=h
  split at h
  ·rename_i hc
   simp only[rel]at hx
   obtain⟨x,rfl,hr⟩:=hx
   obtain⟨v,h1,h2⟩:=a5T hr h w
   refine⟨v, ?_,h2⟩
   simp only[Instr.index,asIntOf,Sem.run_bind,Sem.run_pure,Result.andThen_ok,i7 hu]
   rw[if_pos hc]
   simp only[Sem.run_bind,E4 hs,Result.andThen_ok,h1]
  ·cases h
 ·rename_i s hu
  split at h
  ·rename_i hc
   simp only[Option.map_eq_some_iff]at h
   obtain⟨b,hb,rfl⟩:=h
   simp only[rel]at hx;subst hx
   refine⟨.int .u8 b.toNat, ?_,by simp only[rel]⟩
   simp only[Instr.index,asIntOf,Sem.run_bind,Sem.run_pure,Result.andThen_ok,i7 hu,hc,if_true]
   have:(ByteArray.mk s.toArray)[n.toNat]? =some b:=by
    rw[←hb]
    show(if h:n.toNat<(ByteArray.mk s.toArray).size then some _ else none)=_
    have hsz:(ByteArray.mk s.toArray).size=s.length:=by simp[ByteArray.size]
    by_cases hl:n.toNat<s.length
    ·rw[dif_pos (by rw[hsz];exact hl),List.getElem?_eq_getElem hl];rfl
    ·rw[dif_neg (by rw[hsz];exact hl),List.getElem?_eq_none (by omega)]
   rw[this]
   rfl
  ·cases h
 ·cases h
theorem c9R{x:AV}{vx:Value}{xt asserted:TypeId}{ok:Bool}{a:AV}(h:b2C P x asserted ok=some a)(hx:rel ρ x vx)(w:World):
  ∃v,(Instr.typeAssert vx xt asserted ok).run P w= .ok v w∧rel ρ a v:=by
 unfold b2C at h
 split at h
 ·cases h
 ·rename_i d hd hu
  have fails:∀ {dyn:Option TypeId} {static:Option TypeId} {miss:String},(if ok then(U3 P asserted).map fun z=>AV.tup [z, .bool false]else none)=some a→
    ∃v,(if ok then(do pure (.tuple #[←zeroValue asserted, .bool false])) else runtimePanic (.typeAssertion static dyn asserted miss):Sem Value).run P w= .ok v w∧rel ρ a v:=by
   intro dyn static miss hfail
   split at hfail
   ·rename_i hok
    simp only[Option.map_eq_some_iff]at hfail
    obtain⟨z,hz,rfl⟩:=hfail
    obtain⟨v,h1,h2⟩:=a5o (ρ:=ρ) hz w
    refine⟨.tuple #[v, .bool false], ?_, ?_⟩
    ·rw[if_pos hok];simp only[Sem.run_bind,h1,Result.andThen_ok,Sem.run_pure]
    ·simp only[rel]
     exact⟨_,rfl,r7.2 ⟨h2,r7.2 ⟨by simp only[rel],u9.2 rfl⟩⟩⟩
   ·cases hfail
  simp only at h
  split at h
  ·simp only[rel]at hx;subst hx
   obtain⟨v,h1,h2⟩:=fails (dyn:=none) (static:=some xt) (miss:="") h
   refine⟨v,Eq.trans ?_ h1,h2⟩
   unfold Instr.typeAssert
   simp only[Sem.run_bind,i7 hu,Result.andThen_ok]
  ·rename_i t u
   simp only[rel]at hx
   obtain⟨vu,rfl,hr⟩:=hx
   have hrun:(Instr.typeAssert (.iface t vu) xt asserted ok).run P w=(if t=asserted then pure (if ok then .tuple #[vu, .bool true]else vu)
     else(if ok then(do pure (.tuple #[←zeroValue asserted, .bool false])) else runtimePanic (.typeAssertion (some xt) (some t) asserted "")):Sem Value).run P w:=by
    unfold Instr.typeAssert
    simp only[Sem.run_bind,i7 hu,Result.andThen_ok]
   split at h
   ·rename_i he
    cases h
    subst he
    refine⟨if ok then .tuple #[vu, .bool true]else vu, ?_, ?_⟩
    ·rw[hrun,if_pos rfl];rfl
    ·split
     ·simp only[rel]
      exact⟨_,rfl,r7.2 ⟨hr,r7.2 ⟨by simp only[rel],u9.2 rfl⟩⟩⟩
     ·exact hr
   ·rename_i he
    obtain⟨v,h1,h2⟩:=fails (dyn:=some t) (static:=some xt) (miss:="") h
    exact⟨v,by rw[hrun,if_neg he];exact h1,h2⟩
  ·cases h
 ·cases h
theorem a5z{kt:TypeId}{k:AV}{vk:Value}(h:b7m P kt k=true)(hk:rel ρ k vk):
  (∃d,P.underlying kt=some d∧((∃i j n,d= .int i∧k= .int j n∧vk= .int j n)∨(∃s,d= .string∧k= .str s∧vk= .string ⟨s.toArray⟩)∨(∃b,d= .bool∧k= .bool b∧vk= .bool b))):=by
 unfold b7m at h
 split at h
 ·rename_i i j n hu;simp only[rel]at hk;exact⟨_,hu, .inl ⟨i,j,n,rfl,rfl,hk⟩⟩
 ·rename_i s hu;simp only[rel]at hk;exact⟨_,hu, .inr (.inl ⟨s,rfl,rfl,hk⟩)⟩
 ·rename_i b hu;simp only[rel]at hk;exact⟨_,hu, .inr (.inr ⟨b,rfl,rfl,hk⟩)⟩
 ·cases h
theorem W2{kt:TypeId}{k:AV}{vk:Value}(h:b7m P kt k=true)(hk:rel ρ k vk)(e:Bool)(n:Nat)(w:World):
  (Instr.checkKey e (n+1) kt vk).run P w= .ok () w:=by
 obtain⟨d,hu,hc⟩:=a5z h hk
 rw[Instr.checkKey]
 simp only[Sem.run_bind,i7 hu,Result.andThen_ok]
 rcases hc with ⟨i,j,n,rfl,rfl,rfl⟩|⟨s,rfl,rfl,rfl⟩|⟨b,rfl,rfl,rfl⟩<;>rfl
theorem c7D{es:List (AV×AV×Nat)}:∀ {l:List MapEntry} (_:a4J ρ es l) (i:Nat) {k v:AV} {n:Nat},es[i]? =some (k,v,n)→
  ∃e,l[i]? =some e∧rel ρ k e.key∧rel ρ v e.val∧e.born=n:=by
 induction es with
 |nil=>intro l _ i k v n h;simp at h
 |cons x es ih=>
  obtain⟨k0,v0,n0⟩:=x
  intro l hr i k v n h
  simp only[a4J]at hr
  obtain⟨e,r,rfl,h1,h2,h3,h4⟩:=hr
  cases i with
  |zero=>simp at h;obtain⟨rfl,rfl,rfl⟩:=h;exact⟨e,rfl,h1,h2,h3⟩
  |succ i=>simp at h;obtain⟨e',g1,g2⟩:=ih h4 i h;exact⟨e',by simpa using g1,g2⟩
theorem d3j{es:List (AV×AV×Nat)}:∀ {l:List MapEntry} (_:a4J ρ es l),es.length=l.length:=by
 induction es with
 |nil=>intro l h;simp only[a4J]at h;subst h;rfl
 |cons x es ih=>
  obtain⟨k0,v0,n0⟩:=x
  intro l h
  simp only[a4J]at h
  obtain⟨e,r,rfl,_,_,_,h4⟩:=h
  simp[ih h4]
theorem c4R{es fs:List (AV×AV×Nat)}:∀ {l m:List MapEntry} (_:a4J ρ es l) (_:a4J ρ fs m),a4J ρ (es++fs) (l++m):=by
 induction es with
 |nil=>intro l m h h';simp only[a4J]at h;subst h;exact h'
 |cons x es ih=>
  obtain⟨k0,v0,n0⟩:=x
  intro l m h h'
  simp only[a4J]at h
  obtain⟨e,r,rfl,h1,h2,h3,h4⟩:=h
  exact⟨e,r++m,rfl,h1,h2,h3,ih h4 h'⟩
theorem c8U{es:List (AV×AV×Nat)}:∀ {l:List MapEntry} (_:a4J ρ es l) (i:Nat) {k v:AV} {n:Nat} {e:MapEntry},rel ρ k e.key→rel ρ v e.val→e.born=n→
  a4J ρ (es.set i (k,v,n)) (l.set i e):=by
 induction es with
 |nil=>intro l h i k v n e _ _ _;simp only[a4J]at h;subst h;simp[a4J]
 |cons x es ih=>
  obtain⟨k0,v0,n0⟩:=x
  intro l h i k v n e h1 h2 h3
  simp only[a4J]at h
  obtain⟨e0,r,rfl,g1,g2,g3,g4⟩:=h
  cases i with
  |zero=>exact⟨e,r,rfl,h1,h2,h3,g4⟩
  |succ i=>exact⟨e0,r.set i e,rfl,g1,g2,g3,ih g4 i h1 h2 h3⟩
theorem c4Y{d:TypeDesc}{k k':AV}{vk vk':Value}{r:Bool}(hd:(∃i j n,d= .int i∧k= .int j n∧vk= .int j n)∨(∃s,d= .string∧k= .str s∧vk= .string ⟨s.toArray⟩)∨(∃b,d= .bool∧k= .bool b∧vk= .bool b))
  (h:d3m k k'=some r) (hk':rel ρ k' vk'):Instr.sameNow d vk vk'=some r:=by
 rcases hd with ⟨i,j,n,rfl,rfl,rfl⟩|⟨s,rfl,rfl,rfl⟩|⟨b,rfl,rfl,rfl⟩
 ·cases k'<;>simp only[d3m]at h<;>try (cases h;done)
  simp only[rel]at hk';subst hk'
  split at h
  ·rename_i e;subst e;cases h;simp[Instr.sameNow]
  ·cases h
 ·cases k'<;>simp only[d3m]at h<;>try (cases h;done)
  simp only[rel]at hk';subst hk'
  cases h
  simp only[Instr.sameNow,b9m]
 ·cases k'<;>simp only[d3m]at h<;>try (cases h;done)
  simp only[rel]at hk';subst hk'
  cases h
  simp only[Instr.sameNow]
theorem a3w{d:TypeDesc}{k:AV}{vk:Value}(hd:(∃i j n,d= .int i∧k= .int j n∧vk= .int j n)∨(∃s,d= .string∧k= .str s∧vk= .string ⟨s.toArray⟩)∨(∃b,d= .bool∧k= .bool b∧vk= .bool b)):
  ∀ {es:List (AV×AV×Nat)} {l:List MapEntry} {i:Nat} {r:Option (Nat×AV×Nat)},c7t k es i=some r→a4J ρ es l→
  (r=none∧Instr.findNow d vk l i=some none)∨∃j v n vv k',r=some (i+j,v,n)∧Instr.findNow d vk l i=some (some (i+j,vv))∧es[j]? =some (k',v,n)∧rel ρ v vv∧
   ∃e,l[j]? =some e∧e.val=vv∧Instr.sameNow d vk e.key=some true:=by
 intro es
 induction es with
 |nil=>intro l i r h hr;simp only[a4J]at hr;subst hr;simp only[c7t]at h;cases h;exact .inl ⟨rfl,rfl⟩
 |cons x es ih=>
  obtain⟨k0,v0,n0⟩:=x
  intro l i r h hr
  simp only[a4J]at hr
  obtain⟨e,rs,rfl,g1,g2,g3,g4⟩:=hr
  simp only[c7t]at h
  split at h
  ·rename_i hk
   cases h
   have:=c4Y hd hk g1
   refine .inr ⟨0,v0,n0,e.val,k0,rfl, ?_,rfl,g2,e,rfl,rfl,this⟩
   simp only[Instr.findNow,this];rfl
  ·rename_i hk
   have hs:=c4Y hd hk g1
   rcases ih h g4 with ⟨rfl,hh⟩|⟨j,v,n,vv,k',rfl,hh,hg,hv,e',he'⟩
   ·exact .inl ⟨rfl,by simp only[Instr.findNow,hs];exact hh⟩
   ·refine .inr ⟨j+1,v,n,vv,k',by rw[show i+(j+1)=i+1+j by omega], ?_,by simpa using hg,hv,e',by simpa using he'.1,he'.2⟩
    simp only[Instr.findNow,hs]
    rw[show i+(j+1)=i+1+j by omega];exact hh
  ·cases h
end
end
section
section
variable{E:j6}{w0:World}{H:AHeap}{w:World}{ρ:B7}{P:Program}
theorem K9.setMap(R:K9 E w0 H w ρ){k:Nat}{es es':List (AV×AV×Nat)}{clock clock':Nat}{l:Loc}{mes mes':Array MapEntry}
  (hk:H.get k=some (.map es clock)) (hl:ρ k=some l) (hb:w.heap[l.blk]? =some (.map mes clock)) (hr:a4J ρ es' mes'.toList):
  K9 E w0 (H.set k (.map es' clock')) (E1 w l.blk (.map mes' clock')) ρ:=by
 have hblk:=(Array.getElem?_eq_some_iff.1 hb).1
 obtain⟨l',hl',hbase,_⟩:=R.objs k _ hk
 rw[hl]at hl';cases hl'
 have hg:∀j o,(H.set k (.map es' clock')).get j=some o→(j=k∧o= .map es' clock')∨(j≠k∧H.get j=some o):=by
  intro j o e
  rw[AHeap.get_set]at e
  split at e
  ·rename_i h;cases e;exact .inl ⟨h.symm,rfl⟩
  ·rename_i h;exact .inr ⟨fun h'=>h h'.symm,e⟩
 have hoth:∀j o lj,j≠k→H.get j=some o→ρ j=some lj→lj.blk≠l.blk:=fun j o lj h1 h3 h4 h5=>by
  have:=R.alone hk rfl hl h3 h4 h1 h5
  simp[E8]at this
 refine⟨by rw[a5M];exact R.size, ?_,R.env,R.side, ?_, ?_, ?_, ?_⟩
 ·intro b hbb;rw[C1 _ _ _ hblk,if_neg (by omega)];exact R.old b hbb
 ·intro j o e
  rcases hg j o e with ⟨rfl,rfl⟩|⟨h1,h3⟩
  ·exact⟨l,hl,hbase,mes',by rw[C1 _ _ _ hblk,if_pos rfl],hr⟩
  ·obtain⟨lj,hlj,hsj,hoj⟩:=R.objs j o h3
   exact⟨lj,hlj,hsj,a3s hoj (by rw[C1 _ _ _ hblk,if_neg (fun e=>hoth j o lj h1 h3 hlj e.symm)])⟩
 ·intro i j oi oj li lj h1 h2 h3 h4 h5 h6
  rcases hg i oi h1 with ⟨rfl,rfl⟩|⟨g1,g3⟩<;>rcases hg j oj h2 with ⟨rfl,rfl⟩|⟨g1',g3'⟩
  ·exact absurd rfl h5
  ·rw[hl]at h3;cases h3;exact absurd h6.symm (hoth j oj lj g1' g3' h4)
  ·rw[hl]at h4;cases h4;exact absurd h6 (hoth i oi li g1 g3 h3)
  ·exact R.apart i j oi oj li lj g3 g3' h3 h4 h5 h6
 ·intro j o e p hp
  rcases hg j o e with ⟨rfl,rfl⟩|⟨_,h3⟩
  ·simp[E8]at hp
  ·exact R.pres j o h3 p hp
 ·intro j p o op lj lp h1 h2 h3 h4 h5
  rcases hg j o h1 with ⟨rfl,rfl⟩|⟨g1,g3⟩
  ·simp[E8]at h2
  ·rcases hg p op h3 with ⟨rfl,rfl⟩|⟨g1',g3'⟩
   ·have:=(R.kin j p o _ lj lp g3 h2 hk h4 h5).1
    simp[c3C]at this
   ·exact R.kin j p o op lj lp g3 h2 g3' h4 h5
theorem K9.mapOf(R:K9 E w0 H w ρ){k:Nat}{es:List (AV×AV×Nat)}{clock:Nat}(hk:H.get k=some (.map es clock)):
  ∃l mes,ρ k=some l∧w.heap[l.blk]? =some (.map mes clock)∧a4J ρ es mes.toList:=by
 obtain⟨l,h1,_,mes,h2,h3⟩:=R.objs k _ hk
 exact⟨l,mes,h1,h2,h3⟩
theorem a1I{r:Nat}{mes:Array MapEntry}{clock:Nat}(h:w.heap[r]? =some (.map mes clock)):(getObj r).run P w= .ok (.map mes clock) w:=by
 simp[getObj,Sem.run,h]
theorem a8s{r:Nat}{mes:Array MapEntry}{clock:Nat}{o:Obj}(h:w.heap[r]? =some (.map mes clock)):(setObj r o).run P w= .ok () (E1 w r o):=by
 simp[setObj,Sem.run,h,E1]
theorem a0j{kt:TypeId}{d:TypeDesc}{vk:Value}{l:List MapEntry}{r:Option (Nat×Value)}(hu:P.underlying kt=some d)(h:Instr.findNow d vk l 0=some r)(w:World):
  (Instr.findKey kt vk l).run P w= .ok r w:=by
 simp only[Instr.findKey,Sem.run_bind,i7 hu,Result.andThen_ok,h,Sem.run_pure]
theorem d0v(R:K9 E w0 H w ρ){t:TypeId}{x ix:AV}{vx vi:Value}{ok:Bool}{a:AV}(h:b0v P H t x ix ok=some a)(hx:rel ρ x vx)(hi:rel ρ ix vi):
  ∃v,(Instr.lookup t vx vi ok).run P w= .ok v w∧rel ρ a v:=by
 unfold b0v at h
 split at h
 ·rename_i kt e hu
  split at h
  ·rename_i hf
   obtain⟨d,hd,hkd⟩:=a5z hf hi
   simp only[Option.bind_eq_some_iff]at h
   obtain⟨es,hes,⟨v,is⟩,hfd,h⟩:=h
   simp only[Option.some.injEq]at h
   have hmes:∃mes:Array MapEntry,a4J ρ es mes.toList∧((vx= .map none∧mes= #[])∨∃b clock,vx= .map (some b)∧w.heap[b]? =some (.map mes clock)):=by
    unfold b6D at hes
    split at hes
    ·cases hes;simp only[rel]at hx;exact⟨#[],rfl, .inl ⟨hx,rfl⟩⟩
    ·rename_i k
     split at hes
     ·rename_i es' clock hk
      cases hes
      obtain⟨l,mes,h1,h2,h3⟩:=R.mapOf hk
      simp only[rel]at hx
      obtain⟨l',hl',rfl⟩:=hx
      rw[h1]at hl';cases hl'
      exact⟨mes,h3, .inr ⟨l.blk,clock,rfl,h2⟩⟩
     ·cases hes
    ·cases hes
   obtain⟨mes,hr,hvx⟩:=hmes
   have hres:∃vv,rel ρ v vv∧((∃j,Instr.findNow d vi mes.toList 0=some (some (j,vv))∧is=true)∨(Instr.findNow d vi mes.toList 0=some none∧(zeroValue e).run P w= .ok vv w∧is=false)):=by
    unfold d9m at hfd
    split at hfd
    ·rename_i hfa
     cases hfd
     rcases a3w hkd hfa hr with ⟨hc,_⟩|⟨j,v',n,vv,k',he,hn,_,hv,_⟩
     ·cases hc
     ·cases he;exact⟨vv,hv, .inl ⟨_,hn,rfl⟩⟩
    ·rename_i hfa
     simp only[Option.map_eq_some_iff,Prod.mk.injEq]at hfd
     obtain⟨z,hz,rfl,rfl⟩:=hfd
     rcases a3w hkd hfa hr with ⟨_,hn⟩|⟨j,v',n,vv,k',he,_⟩
     ·obtain⟨vz,h1,h2⟩:=a5o (ρ:=ρ) hz w
      exact⟨vz,h2, .inr ⟨hn,h1,rfl⟩⟩
     ·cases he
    ·cases hfd
   obtain⟨vv,hvv,hfn⟩:=hres
   refine⟨if ok then .tuple #[vv, .bool is]else vv, ?_, ?_⟩
   ·rcases hvx with ⟨rfl,rfl⟩|⟨b,clock,rfl,hb⟩<;>rcases hfn with ⟨j,hn,rfl⟩|⟨hn,hz,rfl⟩
    ·simp only[Instr.lookup,Sem.run_bind,i7 hu,Result.andThen_ok,Sem.run_pure,W2 hf hi,a0j hd hn]
    ·simp only[Instr.lookup,Sem.run_bind,i7 hu,Result.andThen_ok,Sem.run_pure,W2 hf hi,a0j hd hn,hz]
    ·simp only[Instr.lookup,Sem.run_bind,i7 hu,Result.andThen_ok,Sem.run_pure,a1I hb,W2 hf hi,a0j hd hn]
    ·simp only[Instr.lookup,Sem.run_bind,i7 hu,Result.andThen_ok,Sem.run_pure,a1I hb,W2 hf hi,a0j hd hn,hz]
   ·subst h
    split
    ·rename_i hok
     simp only[rel];exact⟨_,rfl,r7.2 ⟨hvv,r7.2 ⟨by simp only[rel],u9.2 rfl⟩⟩⟩
    ·exact hvv
  ·cases h
 ·cases h
def d6H(E:j6)(w0:World)(ρ:B7)(H':AHeap)(r:Result Unit):Prop:=∃w',r= .ok () w'∧K9 E w0 H' w' ρ
theorem b4p{d:TypeDesc}{k:AV}{vk x:Value}(hd:(∃i j n,d= .int i∧k= .int j n∧vk= .int j n)∨(∃s,d= .string∧k= .str s∧vk= .string ⟨s.toArray⟩)∨(∃b,d= .bool∧k= .bool b∧vk= .bool b))
  (h:Instr.sameNow d vk x=some true):x=vk:=by
 rcases hd with ⟨i,j,n,rfl,rfl,rfl⟩|⟨s,rfl,rfl,rfl⟩|⟨b,rfl,rfl,rfl⟩
 ·cases x<;>simp only[Instr.sameNow]at h<;>try (cases h;done)
  split at h
  ·rename_i e;subst e;simp at h;rw[h]
  ·cases h
 ·cases x<;>simp only[Instr.sameNow]at h<;>try (cases h;done)
  rename_i y
  have:((ByteArray.mk s.toArray)==y)=true:=by simpa using h
  rw[beq_toListBytes]at this
  have e:=eq_of_beq this
  rw[ByteArray.toList_eq,ByteArray.toList_eq]at e
  congr 1
  apply ByteArray.ext
  simp only at e
  rw[e]
 ·cases x<;>simp only[Instr.sameNow]at h<;>try (cases h;done)
  simp at h;rw[h]
theorem c0Q{x:Value}{d:TypeDesc}{k:AV}(hd:(∃i j n,d= .int i∧k= .int j n∧x= .int j n)∨(∃s,d= .string∧k= .str s∧x= .string ⟨s.toArray⟩)∨(∃b,d= .bool∧k= .bool b∧x= .bool b))(w:World):
  (Instr.keyThatStays x x).run P w= .ok x w:=by
 have:Instr.sameBits 10000 x x=true:=by
  rcases hd with ⟨i,j,n,rfl,rfl,rfl⟩|⟨s,rfl,rfl,rfl⟩|⟨b,rfl,rfl,rfl⟩
  ·simp[Instr.sameBits]
  ·simp only[Instr.sameBits];rw[b9m];simp
  ·simp[Instr.sameBits]
 simp[Instr.keyThatStays,this]
theorem b1y(mes:Array MapEntry)(i:Nat)(f:MapEntry→MapEntry)(e:MapEntry)(h:mes[i]? =some e):(mes.modify i f).toList=mes.toList.set i (f e):=by
 apply List.ext_getElem?
 intro j
 have hi:=(Array.getElem?_eq_some_iff.1 h).1
 rw[←Array.getElem?_toList.symm,Array.getElem?_modify,List.getElem?_set]
 split
 ·rename_i e';subst e'
  have:=(Array.getElem?_eq_some_iff.1 h).2
  simp[hi,this]
 ·simp
theorem b8F(R:K9 E w0 H w ρ){t:TypeId}{m key v:AV}{vm vk vv:Value}{H':AHeap}(h:a2a P H t m key v=some H')(hm:rel ρ m vm)(hk:rel ρ key vk)(hv:rel ρ v vv):
  d6H E w0 ρ H' ((Instr.mapUpdate t vm vk vv).run P w):=by
 unfold a2a at h
 split at h
 ·rename_i kt e k hu
  split at h
  ·rename_i hf
   obtain⟨d,hd,hkd⟩:=a5z hf hk
   split at h
   ·rename_i es clock hko
    obtain⟨l,mes,h1,h2,h3⟩:=R.mapOf hko
    simp only[rel]at hm
    obtain⟨l',hl',rfl⟩:=hm
    rw[h1]at hl';cases hl'
    split at h
    ·rename_i i v0 n hfa
     cases h
     rcases a3w hkd hfa h3 with ⟨hc,_⟩|⟨j,v',n',vv',k',he,hn,hej,_,me,hme,hval,hsame⟩
     ·cases hc
     ·cases he
      simp only[Nat.zero_add]at hn ⊢
      have hkey:=b4p hkd hsame
      have hme':mes[j]? =some me:=by simpa using hme
      refine⟨_, ?_,R.setMap (mes':=mes.modify j fun e=> { e with key:=vk,val:=vv }) (clock':=clock) hko h1 h2 ?_⟩
      ·simp only[Instr.mapUpdate,Sem.run_bind,i7 hu,Result.andThen_ok,a1I h2,W2 hf hk,a0j hd hn]
       rw[show(Option.map (fun x=>x.key) mes[j]?).getD vk=vk by rw[hme'];exact hkey]
       simp only[c0Q hkd,Result.andThen_ok,a8s h2]
      ·rw[b1y _ _ _ _ hme']
       obtain⟨e',g1,_,_,g4⟩:=c7D h3 j hej
       rw[hme]at g1;cases g1
       exact c8U h3 j hk hv g4
    ·rename_i hfa
     cases h
     rcases a3w hkd hfa h3 with ⟨_,hn⟩|⟨j,v',n,vv,k',he,_⟩
     ·refine⟨_, ?_,R.setMap (mes':=mes.push { key:=vk,val:=vv,born:=clock }) (clock':=clock+1) hko h1 h2 ?_⟩
      ·simp only[Instr.mapUpdate,Sem.run_bind,i7 hu,Result.andThen_ok,a1I h2,W2 hf hk,a0j hd hn,a8s h2]
      ·rw[Array.toList_push]
       exact c4R h3 ⟨_,[],rfl,hk,hv,rfl,rfl⟩
     ·cases he
    ·cases h
   ·cases h
  ·cases h
 ·cases h
theorem d1H(R:K9 E w0 H w ρ){t:TypeId}{m key a:AV}{vm vk:Value}{H':AHeap}(h:b1v P H t m key=some (a,H'))(hm:rel ρ m vm)(hk:rel ρ key vk):
  W8 E w0 H ρ a H' ((Instr.mapEntry t vm vk).run P w):=by
 unfold b1v at h
 split at h
 ·rename_i kt e k hu
  split at h
  ·rename_i hf
   obtain⟨d,hd,hkd⟩:=a5z hf hk
   split at h
   ·rename_i es clock hko
    obtain⟨l,mes,h1,h2,h3⟩:=R.mapOf hko
    simp only[rel]at hm
    obtain⟨l',hl',rfl⟩:=hm
    rw[h1]at hl';cases hl'
    split at h
    ·rename_i i v0 n hfa
     cases h
     rcases a3w hkd hfa h3 with ⟨hc,_⟩|⟨j,v',n',vv',k',he,hn,hej,hv',me,hme,hval,hsame⟩
     ·cases hc
     ·cases he
      simp only[Nat.zero_add]at hn ⊢
      have hkey:=b4p hkd hsame
      have hme':mes[j]? =some me:=by simpa using hme
      obtain⟨e',g1,_,g3,g4⟩:=c7D h3 j hej
      rw[hme]at g1;cases g1
      refine⟨.tuple #[vv', .int .i64 n],_,ρ, ?_,Ext.refl _,fun _ _=>rfl, ?_,R.setMap (mes':=mes.modify j fun e=> { e with key:=vk }) (clock':=clock) hko h1 h2 ?_,Nat.le_refl _⟩
      ·simp only[Instr.mapEntry,Sem.run_bind,i7 hu,Result.andThen_ok,a1I h2,W2 hf hk,a0j hd hn]
       rw[show(Option.map (fun x=>x.key) mes[j]?).getD vk=vk by rw[hme'];exact hkey]
       simp only[c0Q hkd,Result.andThen_ok,a8s h2,hme',Option.map_some,Option.getD_some,g4,goInt,Sem.run_pure]
      ·simp only[rel];exact⟨_,rfl,r7.2 ⟨hv',r7.2 ⟨by simp only[rel],u9.2 rfl⟩⟩⟩
      ·rw[b1y _ _ _ _ hme']
       exact c8U h3 j hk g3 g4
    ·rename_i hfa
     split at h
     ·rename_i z hz
      cases h
      obtain⟨vz,g1,g2⟩:=a5o (ρ:=ρ) hz w
      rcases a3w hkd hfa h3 with ⟨_,hn⟩|⟨j,v',n,vv,k',he,_⟩
      ·refine⟨.tuple #[vz, .int .i64 clock],_,ρ, ?_,Ext.refl _,fun _ _=>rfl, ?_,R.setMap (mes':=mes.push { key:=vk,val:=vz,born:=clock }) (clock':=clock+1) hko h1 h2 ?_,Nat.le_refl _⟩
       ·simp only[Instr.mapEntry,Sem.run_bind,i7 hu,Result.andThen_ok,a1I h2,W2 hf hk,a0j hd hn,g1,a8s h2,goInt,Sem.run_pure]
       ·simp only[rel];exact⟨_,rfl,r7.2 ⟨g2,r7.2 ⟨by simp only[rel],u9.2 rfl⟩⟩⟩
       ·rw[Array.toList_push]
        exact c4R h3 ⟨_,[],rfl,hk,g2,rfl,rfl⟩
      ·cases he
     ·cases h
    ·cases h
   ·cases h
  ·cases h
 ·cases h
theorem c0X{n:Int}:∀ {es:List (AV×AV×Nat)} {l:List MapEntry},a4J ρ es l→es.findIdx? (fun e=>(e.2.2:Int)==n)=l.findIdx? (fun e=>(e.born:Int)==n)
 | [],l,h=>by simp only[a4J]at h;subst h;rfl
 |(k,v,m)::es,l,h=>by
  simp only[a4J]at h
  obtain⟨e,r,rfl,_,_,h3,h4⟩:=h
  have ih:=c0X (n:=n) h4
  simp only[List.findIdx?_cons,h3,ih]
theorem c0O(R:K9 E w0 H w ρ){t:TypeId}{m stamp v:AV}{vm vs vv:Value}{H':AHeap}(h:O7 H m stamp v=some H')(hm:rel ρ m vm)(hs:rel ρ stamp vs)(hv:rel ρ v vv):
  d6H E w0 ρ H' ((Instr.entryStore t vm vs vv).run P w):=by
 unfold O7 at h
 split at h
 ·rename_i k ik n
  split at h
  ·rename_i es clock hko
   obtain⟨l,mes,h1,h2,h3⟩:=R.mapOf hko
   simp only[rel]at hm hs
   obtain⟨l',hl',rfl⟩:=hm
   rw[h1]at hl';cases hl'
   subst hs
   split at h
   ·rename_i i hi
    split at h
    ·rename_i ent hent
     cases h
     obtain⟨k0,v0,n0⟩:=ent
     obtain⟨me,g1,g2,g3,g4⟩:=c7D h3 i hent
     have g1':mes[i]? =some me:=by simpa using g1
     have hfi:mes.findIdx? (fun e=>(e.born:Int)==n)=some i:=by
      rw[c0X h3]at hi
      obtain⟨ml⟩:=mes
      simpa using hi
     refine⟨_, ?_,R.setMap (mes':=mes.modify i fun e=> { e with val:=vv }) (clock':=clock) hko h1 h2 ?_⟩
     ·simp only[Instr.entryStore,Sem.run_bind,Result.andThen_ok,a1I h2,asInt,asIntOf,Sem.run_pure,hfi,a8s h2]
     ·rw[b1y _ _ _ _ g1']
      exact c8U h3 i g2 hv g4
    ·cases h
   ·cases h
  ·cases h
 ·cases h
theorem c4V{t:TypeId}{m k v:AV}{H':AHeap}(h:a2a P H t m k v=some H'):H'.next=H.next:=by
 unfold a2a at h
 repeat' (split at h)
 all_goals first|(cases h;done)|(cases h;rfl)
theorem c5n{m k v:AV}{H':AHeap}(h:O7 H m k v=some H'):H'.next=H.next:=by
 unfold O7 at h
 repeat' (split at h)
 all_goals first|(cases h;done)|(cases h;rfl)
theorem K9.newMap(R:K9 E w0 H w ρ)(hk:ρ H.next=none):
  K9 E w0 (H.new (.map [] 0)) { w with heap:=w.heap.push (.map #[] 0) } (upd ρ H.next ⟨w.heap.size,0,0⟩):=by
 have hx:=b0n (ρ:=ρ) ⟨w.heap.size,0,0⟩ hk
 have hg:∀k o,(H.new (.map [] 0)).get k=some o→(k=H.next∧o= .map [] 0)∨(k≠H.next∧H.get k=some o):=by
  intro k o e
  rw[AHeap.get_new]at e
  split at e
  ·rename_i h;cases e;exact .inl ⟨h.symm,rfl⟩
  ·rename_i h;exact .inr ⟨fun h'=>h h'.symm,e⟩
 have hpush:∀b,b<w.heap.size→(w.heap.push (.map #[] 0))[b]? =w.heap[b]? :=by
  intro b hb;rw[Array.getElem?_push];split
  ·omega
  ·rfl
 have hlt:∀k o l,H.get k=some o→ρ k=some l→l.blk<w.heap.size:=by
  intro k o l h1 h2
  obtain⟨m,hm,_,ho⟩:=R.objs k o h1
  rw[h2]at hm;cases hm
  exact b2m ho
 refine⟨by have:=R.size;simp;omega, ?_,R.env,R.side, ?_, ?_, ?_, ?_⟩
 ·intro b hb;rw[hpush b (by have:=R.size;omega)];exact R.old b hb
 ·intro k o e
  rcases hg k o e with ⟨rfl,rfl⟩|⟨h1,h2⟩
  ·exact⟨_,U5 _ _,R.size, #[],by simp,rfl⟩
  ·obtain⟨l,hl,hs,ho⟩:=R.objs k o h2
   exact⟨l,by rw[J4 _ h1];exact hl,hs,c3z hx (a3s ho (hpush _ (b2m ho)))⟩
 ·intro k k' o o' l l' h1 h2 h3 h4 h5 h6
  rcases hg k o h1 with ⟨rfl,rfl⟩|⟨g1,g2⟩<;>rcases hg k' o' h2 with ⟨rfl,rfl⟩|⟨g1',g2'⟩
  ·exact absurd rfl h5
  ·rw[U5]at h3;cases h3;rw[J4 _ g1']at h4
   have:=hlt _ _ _ g2' h4;simp only at h6;omega
  ·rw[U5]at h4;cases h4;rw[J4 _ g1]at h3
   have:=hlt _ _ _ g2 h3;simp only at h6;omega
  ·rw[J4 _ g1]at h3;rw[J4 _ g1']at h4
   exact R.apart k k' o o' l l' g2 g2' h3 h4 h5 h6
 ·intro k o e p hpp
  rcases hg k o e with ⟨rfl,rfl⟩|⟨h1,h2⟩
  ·simp[E8]at hpp
  ·obtain⟨a,b⟩:=R.pres k o h2 p hpp
   obtain⟨m,hm⟩:=Option.isSome_iff_exists.1 b
   exact⟨a,by rw[hx _ _ hm];rfl⟩
 ·intro k p o op l lp h1 h2 h3 h4 h5
  rcases hg k o h1 with ⟨rfl,rfl⟩|⟨g1,g2⟩
  ·simp[E8]at h2
  ·rcases hg p op h3 with ⟨rfl,_⟩|⟨g1',g2'⟩
   ·have:=(R.pres k o g2 _ h2).2
    rw[hk]at this;cases this
   ·rw[J4 _ g1]at h4;rw[J4 _ g1']at h5
    exact R.kin k p o op l lp g2 h2 g2' h4 h5
end
end
end Go.Am
end
