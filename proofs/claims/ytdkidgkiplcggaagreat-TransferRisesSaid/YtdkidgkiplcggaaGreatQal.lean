/-
  TransferRisesSaid: part Qal of its proof.
-/
import Derived.Test.YtdkidgkiplcggaaGreatQak
set_option linter.unusedVariables false
set_option linter.unusedSimpArgs false
set_option maxRecDepth 100000
section
namespace Go.Am
section heap
theorem M0(H:AHeap)(k:Nat)(o:L0)(j:Nat):(H.set k o).get j=if k=j then some o else H.get j:=by
 simp only[AHeap.set,AHeap.get,Trie.get_set]
theorem c2i(H:AHeap)(k j:Nat):(H.kill k).get j=if k=j then none else H.get j:=by
 simp only[AHeap.kill,AHeap.get,Trie.get_set]
theorem get_new(H:AHeap)(o:L0)(j:Nat):(H.new o).get j=if H.next=j then some o else H.get j:=by
 simp only[AHeap.new,AHeap.get,Trie.get_set]
theorem get_killAll:∀(ps:List Nat) (H:AHeap) (j:Nat),(H.killAll ps).get j=if j∈ps then none else H.get j
 | [],H,j=>by simp[AHeap.killAll]
 |p::ps,H,j=>by
  simp only[AHeap.killAll,get_killAll ps,c2i,List.mem_cons]
  by_cases h:j∈ps
  ·simp[h]
  ·by_cases h2:p=j
   ·subst h2;simp
   ·simp[h,h2,Ne.symm h2]
theorem next_set(H:AHeap)(k:Nat)(o:L0):(H.set k o).next=H.next:=rfl
theorem next_new(H:AHeap)(o:L0):(H.new o).next=H.next+1:=rfl
theorem c5d(H:AHeap)(k:Nat):(H.kill k).next=H.next:=rfl
theorem next_killAll:∀(ps:List Nat) (H:AHeap),(H.killAll ps).next=H.next
 | [],H=>rfl
 |p::ps,H=>by simp only[AHeap.killAll,next_killAll ps,c5d]
theorem b0e(H:AHeap)(cs:List AV)(j:Nat):(newCells H cs).get j=if H.next=j then some (.cells cs true []) else H.get j:=get_new ..
theorem a8c(E:j2){H:AHeap}{k:Nat}{cs:List AV}{w:Bool}{p:List Nat}(h:H.get k=some (.cells cs w p))(i n:Nat):E4 E H (.new k) i n=if i+n≤cs.length then some ((cs.drop i).take n) else none:=by
 simp only[E4,cellsOf,h]
theorem c8a(E:j2){H:AHeap}{k:Nat}{cs:List AV}{w:Bool}{p:List Nat}(h:H.get k=some (.cells cs w p))(i n:Nat)(hl:i+n≤cs.length):J8 E H (.new k) i n=some ((cs.drop i).take n):=by
 unfold J8
 split
 ·rename_i e;subst e;simp
 ·rw[a8c E h,if_pos hl]
theorem a3r{H:AHeap}{k:Nat}{cs:List AV}{p:List Nat}(h:H.get k=some (.cells cs true p))(i:Nat)(v:AV)(vs:List AV)(hl:i+(vs.length+1)≤cs.length)(hs:(v::vs).all s0=true):
  B6 H (.new k) i (v::vs)=some ((H.killAll p).set k (.cells (B5 cs i (v::vs)) true [])):=by
 simp only[B6,h]
 rw[if_pos]
 simp only[Bool.and_eq_true,decide_eq_true_eq]
 exact⟨hl,hs⟩
end heap
section rules
variable{P:Program}{E:j2}{w0:a8D}
@[simp] theorem b3J{α:Type}(x:α)(Q:α→Prop):b7 (some x) Q=Q x:=rfl
@[simp] theorem d7O{α:Type}(Q:α→Prop):b7 (none:Option α) Q=False:=rfl
@[simp] theorem d6U(v:AV)(H:AHeap)(K:AV→AHeap→Prop):a4T (some (v,H)) K=K v H:=rfl
@[simp] theorem d7H(x y:Prop):c9m (.bool true) x y=x:=rfl
@[simp] theorem d6h(x y:Prop):c9m (.bool false) x y=y:=rfl
@[simp] theorem d7L(r:Option AV):d0m (some true) r=r:=rfl
@[simp] theorem d7q(r:Option AV):d0m (some false) r=some C1:=rfl
@[simp] theorem d6e(b w:Bool):d7l (.bool b) w=some (b==w):=rfl
@[simp] theorem d6j(s:(AV→AHeap→Prop)→Prop)(H:AHeap)(Q:AV→AHeap→Prop):a9S (some true) s H Q=s Q:=rfl
@[simp] theorem d5e(s:(AV→AHeap→Prop)→Prop)(H:AHeap)(Q:AV→AHeap→Prop):a9S (some false) s H Q=Q C1 H:=rfl
@[simp] theorem d7v(t:Bool)(a b:AV):d1E (.bool t) a b=some (if t then a else b):=rfl
@[simp] theorem d8v(o:Id)(i:Nat):d3g (.ptr o i)=some (.ptr o i):=rfl
@[simp] theorem d8w(t:TypeId)(v:AV):d3g (.ifc t v)=some (.ifc t v):=rfl
@[simp] theorem d8H(f:FuncId)(a b:List AV):d3g (.fn (.func f) a b)=some (.fn (.func f) a b):=rfl
@[simp] theorem d5F(vs:List AV)(i:Nat):b7X (.tup vs) i=vs[i]? :=rfl
@[simp] theorem d7S(F:FW)(f:FuncId)(a:List AV)(H:AHeap)(K:AV→AHeap→Prop):b5U F (some (.call f a H)) K=F f a H K:=rfl
@[simp] theorem d8O(t:TypeId)(k:IntKind)(a b:Int):b5b P .add t (.int k a) (.int k b)=some (.int k (k.wrap (a+b))):=if_pos rfl
@[simp] theorem d8G(t:TypeId)(k:IntKind)(a b:Int):b5b P .sub t (.int k a) (.int k b)=some (.int k (k.wrap (a - b))):=if_pos rfl
@[simp] theorem d8L(t:TypeId)(k:IntKind)(a b:Int):b5b P .mul t (.int k a) (.int k b)=some (.int k (k.wrap (a*b))):=if_pos rfl
@[simp] theorem d8N(t:TypeId)(k:IntKind)(a b:Int):b5b P .lss t (.int k a) (.int k b)=some (.bool (a<b)):=if_pos rfl
@[simp] theorem d8J(t:TypeId)(k:IntKind)(a b:Int):b5b P .leq t (.int k a) (.int k b)=some (.bool (a≤b)):=if_pos rfl
@[simp] theorem d8M(t:TypeId)(k:IntKind)(a b:Int):b5b P .gtr t (.int k a) (.int k b)=some (.bool (a>b)):=if_pos rfl
@[simp] theorem d8P(t:TypeId)(k:IntKind)(a b:Int):b5b P .geq t (.int k a) (.int k b)=some (.bool (a≥b)):=if_pos rfl
@[simp] theorem d8Z(b:Bool):unA .not (.bool b)=some (.bool !b):=rfl
end rules
section wraps
theorem l8{n:Int}(h0: -9223372036854775808≤n)(h1:n≤9223372036854775807):IntKind.i64.wrap n=n:=by
 show(if(true&&decide ((2:Int)^63≤n % 2^64))=true then n % 2^64 - 2^64 else n % 2^64)=n
 by_cases h:(2:Int)^63≤n % 2^64
 ·refine Eq.trans (if_pos (decide_eq_true h)) ?_
  omega
 ·refine Eq.trans (if_neg (fun e=>h (of_decide_eq_true e))) ?_
  omega
theorem d4o{n:Int}(h0:0≤n)(h1:n≤18446744073709551615):IntKind.u64.wrap n=n:=by
 simp only[IntKind.wrap,IntKind.bits,IntKind.signed];simp;omega
end wraps
structure D4 (H:AHeap):Prop where
 above:∀k,H.next≤k→H.get k=none
 kin:∀k p o op,H.get k=some o→p∈A5 o→H.get p=some op→b2j op=false
 self:∀k o p,H.get k=some o→p∈A5 o→p≠k
 below:∀k o p,H.get k=some o→p∈A5 o→p<H.next
section fine
variable{P:Program}{E:j2}{w0:a8D}
theorem G3.fine{H:AHeap}{w:World}{ρ:B2}(R:G3 E w0 H w ρ)(hf:a0O ρ H):D4 H:=by
 refine⟨fun k hk=> ?_,fun k p o op hk hp ho=> ?_,fun k o p hk hp=>((R.pres k o hk) p hp).1,fun k o p hk hp=> ?_⟩
 ·cases hg:H.get k with
  |none=>rfl
  |some o=>
   obtain⟨l,h1,_⟩:=R.objs k o hg
   rw[hf k hk]at h1;cases h1
 ·obtain⟨l,h1,_⟩:=R.objs k o hk
  obtain⟨lp,h2,_⟩:=R.objs p op ho
  exact(R.kin k p o op l lp hk hp ho h1 h2).1
 ·refine Nat.lt_of_not_le fun hle=> ?_
  have:=((R.pres k o hk) p hp).2
  rw[hf p hle]at this
  cases this
theorem D4.lt{H:AHeap}(F:D4 H){k:Nat}{o:L0}(h:H.get k=some o):k<H.next:=by
 refine Nat.lt_of_not_le fun hk=> ?_
 rw[F.above k hk]at h;cases h
def b3c(H:AHeap)(b:Nat):List Nat:=match H.get b with
 |some o=>A5 o
 |none=>[]
def But(b:Nat)(H H':AHeap):Prop:=∀k o,(b2j o=true∨k ∉ b3c H b)→k≠b→H.get k=some o→H'.get k=some o
def c5t(H H':AHeap):Prop:=∀k o,H.get k=some o→H'.get k=some o
theorem U3{H:AHeap}{b:Nat}{all:List AV}{w:Bool}{pre:List Nat}(h:H.get b=some (.cells all w pre)):b3c H b=pre:=by unfold b3c;rw[h];rfl
theorem c5t.but{b:Nat}{H H':AHeap}(h:c5t H H'):But b H H':=fun k o _ _ hk=>h k o hk
theorem D4.store{H:AHeap}(F:D4 H){b:Nat}{all:List AV}{pre:List Nat}(h:H.get b=some (.cells all true pre)){n:Nat}{x:AV}(hn:n<all.length)(hx:s0 x=true):
  ∃H',B6 H (.new b) n [x]=some H'∧H'.get b=some (.cells (all.set n x) true [])∧But b H H'∧H'.next=H.next∧D4 H':=by
 have hg:∀j,((H.killAll pre).set b (.cells (all.set n x) true [])).get j=if b=j then some (.cells (all.set n x) true []) else if j∈pre then none else H.get j:=by
  intro j
  rw[M0,get_killAll]
 refine⟨(H.killAll pre).set b (.cells (all.set n x) true []),a3r h n x [] (by simp;omega) (by simpa using hx), ?_, ?_, ?_, ?_⟩
 ·exact(hg b).trans (if_pos rfl)
 ·intro k ob hw hk hgk
  refine(hg k).trans ?_
  rw[if_neg (Ne.symm hk),if_neg]
  ·exact hgk
  ·intro hp
   rcases hw with hw|hw
   ·rw[F.kin b k _ _ h hp hgk]at hw
    cases hw
   ·rw[U3 h]at hw
    exact hw hp
 ·rw[next_set,next_killAll]
 ·have key:∀j o,((H.killAll pre).set b (.cells (all.set n x) true [])).get j=some o→(b=j∧o= .cells (all.set n x) true [])∨(b≠j∧H.get j=some o):=by
   intro j o hj
   rw[hg]at hj
   split at hj
   ·rename_i e;cases hj;exact .inl ⟨e,rfl⟩
   ·rename_i e
    split at hj
    ·cases hj
    ·exact .inr ⟨e,hj⟩
  have hnx:((H.killAll pre).set b (.cells (all.set n x) true [])).next=H.next:=by rw[next_set,next_killAll]
  refine⟨?_, ?_, ?_, ?_⟩
  ·intro k hk
   rw[hnx]at hk
   have hkb:b≠k:=by have:=F.lt h;omega
   refine(hg k).trans ?_
   rw[if_neg hkb,F.above k hk]
   split<;>rfl
  ·intro k p o op hk hp ho
   rcases key k o hk with ⟨rfl,rfl⟩|⟨_,hk⟩
   ·cases hp
   ·rcases key p op ho with ⟨rfl,rfl⟩|⟨_,ho⟩
    ·have:=F.kin k _ o _ hk hp h
     cases this
    ·exact F.kin k p o op hk hp ho
  ·intro k o p hk hp
   rcases key k o hk with ⟨rfl,rfl⟩|⟨_,hk⟩
   ·cases hp
   ·exact F.self k o p hk hp
  ·intro k o p hk hp
   rw[hnx]
   rcases key k o hk with ⟨rfl,rfl⟩|⟨_,hk⟩
   ·cases hp
   ·exact F.below k o p hk hp
theorem D4.newCells{H:AHeap}(F:D4 H)(cs:List AV):(newCells H cs).get H.next=some (.cells cs true [])∧c5t H (newCells H cs)∧(newCells H cs).next=H.next+1∧D4 (newCells H cs):=by
 have hn:(Am.newCells H cs).next=H.next+1:=rfl
 have hg:=b0e H cs
 refine⟨by rw[b0e,if_pos rfl], ?_,rfl, ?_, ?_, ?_, ?_⟩
 ·intro k o h
  have:=F.lt h
  rw[b0e,if_neg (by omega)]
  exact h
 ·intro k hk
  rw[hn]at hk
  rw[hg,if_neg (by omega)]
  exact F.above k (by omega)
 ·intro k p o op hk hp ho
  rw[hg]at hk ho
  split at hk
  ·cases hk;cases hp
  ·split at ho
   ·rename_i h1 h2
    have:=F.below k o p hk hp
    omega
   ·exact F.kin k p o op hk hp ho
 ·intro k o p hk hp
  rw[hg]at hk
  split at hk
  ·cases hk;cases hp
  ·exact F.self k o p hk hp
 ·intro k o p hk hp
  rw[hn]
  rw[hg]at hk
  split at hk
  ·cases hk;cases hp
  ·have:=F.below k o p hk hp;omega
theorem D4.grow{E:j2}{H:AHeap}(F:D4 H){k n cap sz:Nat}{ex:Bool}{all:List AV}{pre:List Nat}(h:H.get k=some (.cells all true pre))(hl:n≤all.length){bytes m:Nat}(news:List AV)(hm:news.length=m)(h0:m≠0)(hsc:news.all s0=true)
  (hb:0<bytes∧(2*(n+m)+768)*bytes≤2^47):
  ∃H' q,Q7 E H 1 bytes (.slc (.new k) 0 n cap ex 1) m news=some (.slc (.new H.next) 0 (n+m) (n+m) false 1,H')∧H'.next=H.next+1∧H'.get H.next=some (.cells (all.take n++news) true q)∧But k H H'∧D4 H':=by
 have hklt:=F.lt h
 unfold Q7
 rw[if_pos (by rw[hm,Nat.mul_one])]
 simp only
 rw[if_neg h0,if_pos hb]
 by_cases hx:(ex&&decide (cap<n+m))=true
 ·rw[if_pos hx,a8c E h,if_pos (by omega)]
  obtain⟨a,b,c,d⟩:=F.newCells (all.take n++news)
  refine⟨_,[],by simp only[Nat.mul_one,List.drop_zero],c,a,b.but,d⟩
 ·rw[if_neg hx]
  simp only[h]
  rw[if_pos ⟨by trivial,by omega,hsc⟩]
  by_cases hc:0+n*1<all.length
  ·rw[if_pos hc]
   refine⟨_,[k],rfl, ?_, ?_, ?_, ?_⟩
   ·rw[next_new,next_set,next_killAll]
   ·rw[get_new,next_set,next_killAll,if_pos rfl]
    simp
   ·intro j al pr hj hgj
    have:=F.lt hgj
    rw[get_new,next_set,next_killAll,if_neg (by omega),M0,if_neg (Ne.symm hj),get_killAll,if_neg]
    ·exact hgj
    ·intro hp
     rcases pr with pr|pr
     ·rw[F.kin k j _ _ h hp hgj]at pr
      cases pr
     ·rw[U3 h]at pr
      exact pr hp
   ·have key:∀j o,((((H.killAll pre).set k (.cells (all.take (0+n*1)) false [])).new (.cells ((all.take (0+n*1)).drop 0++news) true [k]))).get j=some o→
      (j=H.next∧A5 o=[k])∨(j=k∧o= .cells (all.take (0+n*1)) false [])∨(j≠H.next∧j≠k∧H.get j=some o):=by
     intro j o hj
     rw[get_new,next_set,next_killAll,M0,get_killAll]at hj
     split at hj
     ·rename_i e;cases hj;exact .inl ⟨e.symm,rfl⟩
     ·rename_i e
      split at hj
      ·rename_i e2;cases hj;exact .inr (.inl ⟨e2.symm,rfl⟩)
      ·rename_i e2
       split at hj
       ·cases hj
       ·exact .inr (.inr ⟨Ne.symm e,Ne.symm e2,hj⟩)
    refine⟨?_, ?_, ?_, ?_⟩
    ·intro j hj
     rw[next_new,next_set,next_killAll]at hj
     rw[get_new,next_set,next_killAll,if_neg (by omega),M0,if_neg (by omega),get_killAll,F.above j (by omega)]
     split<;>rfl
    ·intro j p o op hj hp ho
     rcases key p op ho with ⟨rfl,_⟩|⟨rfl,rfl⟩|⟨_,hpk,ho⟩
     ·rcases key j o hj with ⟨rfl,e⟩|⟨rfl,rfl⟩|⟨_,_,hj⟩
      ·rw[e]at hp;simp at hp;omega
      ·cases hp
      ·have:=F.below j o _ hj hp;omega
     ·rfl
     ·rcases key j o hj with ⟨rfl,e⟩|⟨rfl,rfl⟩|⟨_,_,hj⟩
      ·rw[e]at hp;simp at hp;exact(hpk hp).elim
      ·cases hp
      ·exact F.kin j p o op hj hp ho
    ·intro j o p hj hp
     rcases key j o hj with ⟨rfl,e⟩|⟨rfl,rfl⟩|⟨_,_,hj⟩
     ·rw[e]at hp;simp at hp;omega
     ·cases hp
     ·exact F.self j o p hj hp
    ·intro j o p hj hp
     rw[next_new,next_set,next_killAll]
     rcases key j o hj with ⟨rfl,e⟩|⟨rfl,rfl⟩|⟨_,_,hj⟩
     ·rw[e]at hp;simp at hp;omega
     ·cases hp
     ·have:=F.below j o p hj hp;omega
  ·rw[if_neg hc]
   have hn:n=all.length:=by omega
   refine⟨_,k::pre,rfl, ?_, ?_, ?_, ?_⟩
   ·rw[next_new,next_set]
   ·rw[get_new,next_set,if_pos rfl,hn]
    simp
   ·intro j al pr hj hgj
    have:=F.lt hgj
    rw[get_new,next_set,if_neg (by omega),M0,if_neg (Ne.symm hj)]
    exact hgj
   ·have key:∀j o,((H.set k (.cells all false pre)).new (.cells (all.drop 0++news) true (k::pre))).get j=some o→
      (j=H.next∧A5 o=k::pre)∨(j=k∧o= .cells all false pre)∨(j≠H.next∧j≠k∧H.get j=some o):=by
     intro j o hj
     rw[get_new,next_set,M0]at hj
     split at hj
     ·rename_i e;cases hj;exact .inl ⟨e.symm,rfl⟩
     ·rename_i e
      split at hj
      ·rename_i e2;cases hj;exact .inr (.inl ⟨e2.symm,rfl⟩)
      ·rename_i e2
       exact .inr (.inr ⟨Ne.symm e,Ne.symm e2,hj⟩)
    refine⟨?_, ?_, ?_, ?_⟩
    ·intro j hj
     rw[next_new,next_set]at hj
     rw[get_new,next_set,if_neg (by omega),M0,if_neg (by omega),F.above j (by omega)]
    ·intro j p o op hj hp ho
     rcases key p op ho with ⟨rfl,_⟩|⟨rfl,rfl⟩|⟨_,hpk,hop⟩
     ·rcases key j o hj with ⟨rfl,e⟩|⟨rfl,rfl⟩|⟨_,_,hj⟩
      ·rw[e]at hp
       rcases List.mem_cons.1 hp with rfl|hp
       ·omega
       ·have:=F.below k _ _ h hp;omega
      ·have:=F.below _ _ _ h hp;omega
      ·have:=F.below j o _ hj hp;omega
     ·rfl
     ·rcases key j o hj with ⟨rfl,e⟩|⟨rfl,rfl⟩|⟨_,_,hj⟩
      ·rw[e]at hp
       rcases List.mem_cons.1 hp with rfl|hp
       ·exact(hpk rfl).elim
       ·exact F.kin k p _ op h hp hop
      ·exact F.kin _ p _ op h hp hop
      ·exact F.kin j p o op hj hp hop
    ·intro j o p hj hp
     rcases key j o hj with ⟨rfl,e⟩|⟨rfl,rfl⟩|⟨_,_,hj⟩
     ·rw[e]at hp
      rcases List.mem_cons.1 hp with rfl|hp
      ·omega
      ·have:=F.below k _ _ h hp;omega
     ·exact F.self _ _ p h hp
     ·exact F.self j o p hj hp
    ·intro j o p hj hp
     rw[next_new,next_set]
     rcases key j o hj with ⟨rfl,e⟩|⟨rfl,rfl⟩|⟨_,_,hj⟩
     ·rw[e]at hp
      rcases List.mem_cons.1 hp with rfl|hp
      ·omega
      ·have:=F.below k _ _ h hp;omega
     ·have:=F.below _ _ _ h hp;omega
     ·have:=F.below j o p hj hp;omega
theorem d2o{f:FuncId}{args:List AV}{H:AHeap}{Q:AV→AHeap→Prop}(h:FnW P E w0 f args H fun v H'=>D4 H'→H.next≤H'.next→Q v H'):FnW P E w0 f args H Q:=by
 intro w ρ vargs R hf hr
 refine Calls.mono (h w ρ vargs R hf hr) ?_
 intro e w' he
 cases e with
 |returned u=>
  obtain⟨ρ',v,H',h2,h3,h4,h5⟩:=he
  exact⟨ρ',v,H',h2 (h5.fine (hf.step h3)) h3.2.1,h3,h4,h5⟩
 |panicked c=>exact he
 |outgrown=>exact he
theorem FnW.use{f:FuncId}{args:List AV}{H:AHeap}{Q K:AV→AHeap→Prop}(h:FnW P E w0 f args H Q)(hk:∀v H',Q v H'→D4 H'→H.next≤H'.next→K v H'):FnW P E w0 f args H K:=
 d2o (h.mono fun v H' hq=>hk v H' hq)
end fine
end Go.Am
end
