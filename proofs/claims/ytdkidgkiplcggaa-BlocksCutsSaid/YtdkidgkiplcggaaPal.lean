/-
  BlocksCutsSaid: part Pal of its proof.
-/
import Derived.Test.YtdkidgkiplcggaaPak
set_option linter.unusedVariables false
set_option linter.unusedSimpArgs false
set_option maxRecDepth 100000
section
namespace Go.Am
section heap
theorem G9(H:AHeap)(k:Nat)(o:G3)(j:Nat):(H.set k o).get j=if k=j then some o else H.get j:=by
 simp only[AHeap.set,AHeap.get,Trie.get_set]
theorem b5E(H:AHeap)(k j:Nat):(H.kill k).get j=if k=j then none else H.get j:=by
 simp only[AHeap.kill,AHeap.get,Trie.get_set]
theorem get_new(H:AHeap)(o:G3)(j:Nat):(H.new o).get j=if H.next=j then some o else H.get j:=by
 simp only[AHeap.new,AHeap.get,Trie.get_set]
theorem get_killAll:∀(ps:List Nat) (H:AHeap) (j:Nat),(H.killAll ps).get j=if j∈ps then none else H.get j
 | [],H,j=>by simp[AHeap.killAll]
 |p::ps,H,j=>by
  simp only[AHeap.killAll,get_killAll ps,b5E,List.mem_cons]
  by_cases h:j∈ps
  ·simp[h]
  ·by_cases h2:p=j
   ·subst h2;simp
   ·simp[h,h2,Ne.symm h2]
theorem next_set(H:AHeap)(k:Nat)(o:G3):(H.set k o).next=H.next:=rfl
theorem next_new(H:AHeap)(o:G3):(H.new o).next=H.next+1:=rfl
theorem b9j(H:AHeap)(k:Nat):(H.kill k).next=H.next:=rfl
theorem next_killAll:∀(ps:List Nat) (H:AHeap),(H.killAll ps).next=H.next
 | [],H=>rfl
 |p::ps,H=>by simp only[AHeap.killAll,next_killAll ps,b9j]
theorem a6M(H:AHeap)(cs:List AV)(j:Nat):(newCells H cs).get j=if H.next=j then some (.cells cs true []) else H.get j:=get_new ..
theorem a4T(E:g8){H:AHeap}{k:Nat}{cs:List AV}{w:Bool}{p:List Nat}(h:H.get k=some (.cells cs w p))(i n:Nat):B5 E H (.new k) i n=if i+n≤cs.length then some ((cs.drop i).take n) else none:=by
 simp only[B5,cellsOf,h]
theorem c1K(E:g8){H:AHeap}{k:Nat}{cs:List AV}{w:Bool}{p:List Nat}(h:H.get k=some (.cells cs w p))(i n:Nat)(hl:i+n≤cs.length):F4 E H (.new k) i n=some ((cs.drop i).take n):=by
 unfold F4
 split
 ·rename_i e;subst e;simp
 ·rw[a4T E h,if_pos hl]
theorem a1q{H:AHeap}{k:Nat}{cs:List AV}{p:List Nat}(h:H.get k=some (.cells cs true p))(i:Nat)(v:AV)(vs:List AV)(hl:i+(vs.length+1)≤cs.length)(hs:(v::vs).all m9=true):
  z8 H (.new k) i (v::vs)=some ((H.killAll p).set k (.cells (z7 cs i (v::vs)) true [])):=by
 simp only[z8,h]
 rw[if_pos]
 simp only[Bool.and_eq_true,decide_eq_true_eq]
 exact⟨hl,hs⟩
end heap
section rules
variable{P:Program}{E:g8}{w0:a4P}
@[simp] theorem a8v{α:Type}(x:α)(Q:α→Prop):b4 (some x) Q=Q x:=rfl
@[simp] theorem c9Y{α:Type}(Q:α→Prop):b4 (none:Option α) Q=False:=rfl
@[simp] theorem c9o(v:AV)(H:AHeap)(K:AV→AHeap→Prop):a2g (some (v,H)) K=K v H:=rfl
@[simp] theorem c9O(x y:Prop):c4r (.bool true) x y=x:=rfl
@[simp] theorem c8G(x y:Prop):c4r (.bool false) x y=y:=rfl
@[simp] theorem c9W(r:Option AV):c3m (some true) r=r:=rfl
@[simp] theorem c9c(r:Option AV):c3m (some false) r=some s8:=rfl
@[simp] theorem c8O(b w:Bool):c9S (.bool b) w=some (b==w):=rfl
@[simp] theorem c8E(s:(AV→AHeap→Prop)→Prop)(H:AHeap)(Q:AV→AHeap→Prop):a6g (some true) s H Q=s Q:=rfl
@[simp] theorem c7W(s:(AV→AHeap→Prop)→Prop)(H:AHeap)(Q:AV→AHeap→Prop):a6g (some false) s H Q=Q s8 H:=rfl
@[simp] theorem c9A(t:Bool)(a b:AV):c5i (.bool t) a b=some (if t then a else b):=rfl
@[simp] theorem d0p(o:Id)(i:Nat):c5Z (.ptr o i)=some (.ptr o i):=rfl
@[simp] theorem d0l(t:TypeId)(v:AV):c5Z (.ifc t v)=some (.ifc t v):=rfl
@[simp] theorem d0L(f:FuncId)(a b:List AV):c5Z (.fn (.func f) a b)=some (.fn (.func f) a b):=rfl
@[simp] theorem c7N(vs:List AV)(i:Nat):b1p (.tup vs) i=vs[i]? :=rfl
@[simp] theorem c9Z(F:FW)(f:FuncId)(a:List AV)(H:AHeap)(K:AV→AHeap→Prop):b0q F (some (.call f a H)) K=F f a H K:=rfl
@[simp] theorem d0O(t:TypeId)(k:IntKind)(a b:Int):a9Y P .add t (.int k a) (.int k b)=some (.int k (k.wrap (a+b))):=if_pos rfl
@[simp] theorem d0M(t:TypeId)(k:IntKind)(a b:Int):a9Y P .sub t (.int k a) (.int k b)=some (.int k (k.wrap (a - b))):=if_pos rfl
@[simp] theorem d0U(t:TypeId)(k:IntKind)(a b:Int):a9Y P .mul t (.int k a) (.int k b)=some (.int k (k.wrap (a*b))):=if_pos rfl
@[simp] theorem d0N(t:TypeId)(k:IntKind)(a b:Int):a9Y P .lss t (.int k a) (.int k b)=some (.bool (a<b)):=if_pos rfl
@[simp] theorem d0I(t:TypeId)(k:IntKind)(a b:Int):a9Y P .leq t (.int k a) (.int k b)=some (.bool (a≤b)):=if_pos rfl
@[simp] theorem d0P(t:TypeId)(k:IntKind)(a b:Int):a9Y P .gtr t (.int k a) (.int k b)=some (.bool (a>b)):=if_pos rfl
@[simp] theorem d0S(t:TypeId)(k:IntKind)(a b:Int):a9Y P .geq t (.int k a) (.int k b)=some (.bool (a≥b)):=if_pos rfl
@[simp] theorem d1y(b:Bool):unA .not (.bool b)=some (.bool !b):=rfl
end rules
section wraps
theorem i6{n:Int}(h0: -9223372036854775808≤n)(h1:n≤9223372036854775807):IntKind.i64.wrap n=n:=by
 show(if(true&&decide ((2:Int)^63≤n % 2^64))=true then n % 2^64 - 2^64 else n % 2^64)=n
 by_cases h:(2:Int)^63≤n % 2^64
 ·refine Eq.trans (if_pos (decide_eq_true h)) ?_
  omega
 ·refine Eq.trans (if_neg (fun e=>h (of_decide_eq_true e))) ?_
  omega
end wraps
structure B1 (H:AHeap):Prop where
 above:∀k,H.next≤k→H.get k=none
 kin:∀k p o op,H.get k=some o→p∈s9 o→H.get p=some op→a7T op=false
 self:∀k o p,H.get k=some o→p∈s9 o→p≠k
 below:∀k o p,H.get k=some o→p∈s9 o→p<H.next
section fine
variable{P:Program}{E:g8}{w0:a4P}
theorem B6.fine{H:AHeap}{w:World}{ρ:u5}(R:B6 E w0 H w ρ)(hf:M5 ρ H):B1 H:=by
 refine⟨fun k hk=> ?_,fun k p o op hk hp ho=> ?_,fun k o p hk hp=>((R.pres k o hk) p hp).1,fun k o p hk hp=> ?_⟩
 ·cases hg:H.get k with
  |none=>rfl
  |some o=>
   obtain⟨l,h1,_⟩:=R.objs k o hg
   rw[hf k hk]at h1;cases h1
 ·obtain⟨l,h1,_⟩:=R.objs k o hk
  obtain⟨lp,h2,_⟩:=R.objs p op ho
  exact(R.kin k p o op l lp hk hp ho h1 h2).1
 ·refine Nat.lt_of_not_le fun hle=> ?_
  have:=((R.pres k o hk) p hp).2
  rw[hf p hle]at this
  cases this
theorem B1.lt{H:AHeap}(F:B1 H){k:Nat}{o:G3}(h:H.get k=some o):k<H.next:=by
 refine Nat.lt_of_not_le fun hk=> ?_
 rw[F.above k hk]at h;cases h
def a8a(H:AHeap)(b:Nat):List Nat:=match H.get b with
 |some o=>s9 o
 |none=>[]
def But(b:Nat)(H H':AHeap):Prop:=∀k o,(a7T o=true∨k ∉ a8a H b)→k≠b→H.get k=some o→H'.get k=some o
def b8y(H H':AHeap):Prop:=∀k o,H.get k=some o→H'.get k=some o
theorem L5{H:AHeap}{b:Nat}{all:List AV}{w:Bool}{pre:List Nat}(h:H.get b=some (.cells all w pre)):a8a H b=pre:=by unfold a8a;rw[h];rfl
theorem b8y.but{b:Nat}{H H':AHeap}(h:b8y H H'):But b H H':=fun k o _ _ hk=>h k o hk
theorem B1.store{H:AHeap}(F:B1 H){b:Nat}{all:List AV}{pre:List Nat}(h:H.get b=some (.cells all true pre)){n:Nat}{x:AV}(hn:n<all.length)(hx:m9 x=true):
  ∃H',z8 H (.new b) n [x]=some H'∧H'.get b=some (.cells (all.set n x) true [])∧But b H H'∧H'.next=H.next∧B1 H':=by
 have hg:∀j,((H.killAll pre).set b (.cells (all.set n x) true [])).get j=if b=j then some (.cells (all.set n x) true []) else if j∈pre then none else H.get j:=by
  intro j
  rw[G9,get_killAll]
 refine⟨(H.killAll pre).set b (.cells (all.set n x) true []),a1q h n x [] (by simp;omega) (by simpa using hx), ?_, ?_, ?_, ?_⟩
 ·exact(hg b).trans (if_pos rfl)
 ·intro k ob hw hk hgk
  refine(hg k).trans ?_
  rw[if_neg (Ne.symm hk),if_neg]
  ·exact hgk
  ·intro hp
   rcases hw with hw|hw
   ·rw[F.kin b k _ _ h hp hgk]at hw
    cases hw
   ·rw[L5 h]at hw
    exact hw hp
 ·rw[next_set,next_killAll]
 ·have key:∀j o,((H.killAll pre).set b (.cells (all.set n x) true [])).get j=some o→(b=j∧o= .cells (all.set n x) true [])∨(b≠j∧H.get j=some o):=by
   intro j o hj
   rw[hg]at hj
   split at hj
   ·rename_i e;cases hj;exact .inl ⟨e,rfl⟩
   ·rename_i e
    split at hj
    ·cases hj
    ·exact .inr ⟨e,hj⟩
  have hnx:((H.killAll pre).set b (.cells (all.set n x) true [])).next=H.next:=by rw[next_set,next_killAll]
  refine⟨?_, ?_, ?_, ?_⟩
  ·intro k hk
   rw[hnx]at hk
   have hkb:b≠k:=by have:=F.lt h;omega
   refine(hg k).trans ?_
   rw[if_neg hkb,F.above k hk]
   split<;>rfl
  ·intro k p o op hk hp ho
   rcases key k o hk with ⟨rfl,rfl⟩|⟨_,hk⟩
   ·cases hp
   ·rcases key p op ho with ⟨rfl,rfl⟩|⟨_,ho⟩
    ·have:=F.kin k _ o _ hk hp h
     cases this
    ·exact F.kin k p o op hk hp ho
  ·intro k o p hk hp
   rcases key k o hk with ⟨rfl,rfl⟩|⟨_,hk⟩
   ·cases hp
   ·exact F.self k o p hk hp
  ·intro k o p hk hp
   rw[hnx]
   rcases key k o hk with ⟨rfl,rfl⟩|⟨_,hk⟩
   ·cases hp
   ·exact F.below k o p hk hp
theorem B1.newCells{H:AHeap}(F:B1 H)(cs:List AV):(newCells H cs).get H.next=some (.cells cs true [])∧b8y H (newCells H cs)∧(newCells H cs).next=H.next+1∧B1 (newCells H cs):=by
 have hn:(Am.newCells H cs).next=H.next+1:=rfl
 have hg:=a6M H cs
 refine⟨by rw[a6M,if_pos rfl], ?_,rfl, ?_, ?_, ?_, ?_⟩
 ·intro k o h
  have:=F.lt h
  rw[a6M,if_neg (by omega)]
  exact h
 ·intro k hk
  rw[hn]at hk
  rw[hg,if_neg (by omega)]
  exact F.above k (by omega)
 ·intro k p o op hk hp ho
  rw[hg]at hk ho
  split at hk
  ·cases hk;cases hp
  ·split at ho
   ·rename_i h1 h2
    have:=F.below k o p hk hp
    omega
   ·exact F.kin k p o op hk hp ho
 ·intro k o p hk hp
  rw[hg]at hk
  split at hk
  ·cases hk;cases hp
  ·exact F.self k o p hk hp
 ·intro k o p hk hp
  rw[hn]
  rw[hg]at hk
  split at hk
  ·cases hk;cases hp
  ·have:=F.below k o p hk hp;omega
theorem B1.grow{E:g8}{H:AHeap}(F:B1 H){k n cap sz:Nat}{ex:Bool}{all:List AV}{pre:List Nat}(h:H.get k=some (.cells all true pre))(hl:n≤all.length){bytes m:Nat}(news:List AV)(hm:news.length=m)(h0:m≠0)(hsc:news.all m9=true)
  (hb:0<bytes∧(2*(n+m)+768)*bytes≤2^47):
  ∃H' q,J6 E H 1 bytes (.slc (.new k) 0 n cap ex 1) m news=some (.slc (.new H.next) 0 (n+m) (n+m) false 1,H')∧H'.next=H.next+1∧H'.get H.next=some (.cells (all.take n++news) true q)∧But k H H'∧B1 H':=by
 have hklt:=F.lt h
 unfold J6
 rw[if_pos (by rw[hm,Nat.mul_one])]
 simp only
 rw[if_neg h0,if_pos hb]
 by_cases hx:(ex&&decide (cap<n+m))=true
 ·rw[if_pos hx,a4T E h,if_pos (by omega)]
  obtain⟨a,b,c,d⟩:=F.newCells (all.take n++news)
  refine⟨_,[],by simp only[Nat.mul_one,List.drop_zero],c,a,b.but,d⟩
 ·rw[if_neg hx]
  simp only[h]
  rw[if_pos ⟨by trivial,by omega,hsc⟩]
  by_cases hc:0+n*1<all.length
  ·rw[if_pos hc]
   refine⟨_,[k],rfl, ?_, ?_, ?_, ?_⟩
   ·rw[next_new,next_set,next_killAll]
   ·rw[get_new,next_set,next_killAll,if_pos rfl]
    simp
   ·intro j al pr hj hgj
    have:=F.lt hgj
    rw[get_new,next_set,next_killAll,if_neg (by omega),G9,if_neg (Ne.symm hj),get_killAll,if_neg]
    ·exact hgj
    ·intro hp
     rcases pr with pr|pr
     ·rw[F.kin k j _ _ h hp hgj]at pr
      cases pr
     ·rw[L5 h]at pr
      exact pr hp
   ·have key:∀j o,((((H.killAll pre).set k (.cells (all.take (0+n*1)) false [])).new (.cells ((all.take (0+n*1)).drop 0++news) true [k]))).get j=some o→
      (j=H.next∧s9 o=[k])∨(j=k∧o= .cells (all.take (0+n*1)) false [])∨(j≠H.next∧j≠k∧H.get j=some o):=by
     intro j o hj
     rw[get_new,next_set,next_killAll,G9,get_killAll]at hj
     split at hj
     ·rename_i e;cases hj;exact .inl ⟨e.symm,rfl⟩
     ·rename_i e
      split at hj
      ·rename_i e2;cases hj;exact .inr (.inl ⟨e2.symm,rfl⟩)
      ·rename_i e2
       split at hj
       ·cases hj
       ·exact .inr (.inr ⟨Ne.symm e,Ne.symm e2,hj⟩)
    refine⟨?_, ?_, ?_, ?_⟩
    ·intro j hj
     rw[next_new,next_set,next_killAll]at hj
     rw[get_new,next_set,next_killAll,if_neg (by omega),G9,if_neg (by omega),get_killAll,F.above j (by omega)]
     split<;>rfl
    ·intro j p o op hj hp ho
     rcases key p op ho with ⟨rfl,_⟩|⟨rfl,rfl⟩|⟨_,hpk,ho⟩
     ·rcases key j o hj with ⟨rfl,e⟩|⟨rfl,rfl⟩|⟨_,_,hj⟩
      ·rw[e]at hp;simp at hp;omega
      ·cases hp
      ·have:=F.below j o _ hj hp;omega
     ·rfl
     ·rcases key j o hj with ⟨rfl,e⟩|⟨rfl,rfl⟩|⟨_,_,hj⟩
      ·rw[e]at hp;simp at hp;exact(hpk hp).elim
      ·cases hp
      ·exact F.kin j p o op hj hp ho
    ·intro j o p hj hp
     rcases key j o hj with ⟨rfl,e⟩|⟨rfl,rfl⟩|⟨_,_,hj⟩
     ·rw[e]at hp;simp at hp;omega
     ·cases hp
     ·exact F.self j o p hj hp
    ·intro j o p hj hp
     rw[next_new,next_set,next_killAll]
     rcases key j o hj with ⟨rfl,e⟩|⟨rfl,rfl⟩|⟨_,_,hj⟩
     ·rw[e]at hp;simp at hp;omega
     ·cases hp
     ·have:=F.below j o p hj hp;omega
  ·rw[if_neg hc]
   have hn:n=all.length:=by omega
   refine⟨_,k::pre,rfl, ?_, ?_, ?_, ?_⟩
   ·rw[next_new,next_set]
   ·rw[get_new,next_set,if_pos rfl,hn]
    simp
   ·intro j al pr hj hgj
    have:=F.lt hgj
    rw[get_new,next_set,if_neg (by omega),G9,if_neg (Ne.symm hj)]
    exact hgj
   ·have key:∀j o,((H.set k (.cells all false pre)).new (.cells (all.drop 0++news) true (k::pre))).get j=some o→
      (j=H.next∧s9 o=k::pre)∨(j=k∧o= .cells all false pre)∨(j≠H.next∧j≠k∧H.get j=some o):=by
     intro j o hj
     rw[get_new,next_set,G9]at hj
     split at hj
     ·rename_i e;cases hj;exact .inl ⟨e.symm,rfl⟩
     ·rename_i e
      split at hj
      ·rename_i e2;cases hj;exact .inr (.inl ⟨e2.symm,rfl⟩)
      ·rename_i e2
       exact .inr (.inr ⟨Ne.symm e,Ne.symm e2,hj⟩)
    refine⟨?_, ?_, ?_, ?_⟩
    ·intro j hj
     rw[next_new,next_set]at hj
     rw[get_new,next_set,if_neg (by omega),G9,if_neg (by omega),F.above j (by omega)]
    ·intro j p o op hj hp ho
     rcases key p op ho with ⟨rfl,_⟩|⟨rfl,rfl⟩|⟨_,hpk,hop⟩
     ·rcases key j o hj with ⟨rfl,e⟩|⟨rfl,rfl⟩|⟨_,_,hj⟩
      ·rw[e]at hp
       rcases List.mem_cons.1 hp with rfl|hp
       ·omega
       ·have:=F.below k _ _ h hp;omega
      ·have:=F.below _ _ _ h hp;omega
      ·have:=F.below j o _ hj hp;omega
     ·rfl
     ·rcases key j o hj with ⟨rfl,e⟩|⟨rfl,rfl⟩|⟨_,_,hj⟩
      ·rw[e]at hp
       rcases List.mem_cons.1 hp with rfl|hp
       ·exact(hpk rfl).elim
       ·exact F.kin k p _ op h hp hop
      ·exact F.kin _ p _ op h hp hop
      ·exact F.kin j p o op hj hp hop
    ·intro j o p hj hp
     rcases key j o hj with ⟨rfl,e⟩|⟨rfl,rfl⟩|⟨_,_,hj⟩
     ·rw[e]at hp
      rcases List.mem_cons.1 hp with rfl|hp
      ·omega
      ·have:=F.below k _ _ h hp;omega
     ·exact F.self _ _ p h hp
     ·exact F.self j o p hj hp
    ·intro j o p hj hp
     rw[next_new,next_set]
     rcases key j o hj with ⟨rfl,e⟩|⟨rfl,rfl⟩|⟨_,_,hj⟩
     ·rw[e]at hp
      rcases List.mem_cons.1 hp with rfl|hp
      ·omega
      ·have:=F.below k _ _ h hp;omega
     ·have:=F.below _ _ _ h hp;omega
     ·have:=F.below j o p hj hp;omega
theorem c6b{f:FuncId}{args:List AV}{H:AHeap}{Q:AV→AHeap→Prop}(h:FnW P E w0 f args H fun v H'=>B1 H'→H.next≤H'.next→Q v H'):FnW P E w0 f args H Q:=by
 intro w ρ vargs R hf hr
 refine Calls.mono (h w ρ vargs R hf hr) ?_
 intro e w' he
 cases e with
 |returned u=>
  obtain⟨ρ',v,H',h2,h3,h4,h5⟩:=he
  exact⟨ρ',v,H',h2 (h5.fine (hf.step h3)) h3.2.1,h3,h4,h5⟩
 |panicked c=>exact he
 |outgrown=>exact he
theorem FnW.use{f:FuncId}{args:List AV}{H:AHeap}{Q K:AV→AHeap→Prop}(h:FnW P E w0 f args H Q)(hk:∀v H',Q v H'→B1 H'→H.next≤H'.next→K v H'):FnW P E w0 f args H K:=
 c6b (h.mono fun v H' hq=>hk v H' hq)
end fine
end Go.Am
end
