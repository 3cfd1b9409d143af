/-
  ImageSpoiltSaid: part Pal of its proof.
-/
import Derived.Test.YtchnpgddpaonhaaPak
set_option linter.unusedVariables false
set_option linter.unusedSimpArgs false
set_option maxRecDepth 100000
section
namespace Go.Am
section heap
theorem a3Z(H:AHeap)(k:Nat)(o:W7)(j:Nat):(H.set k o).get j=if k=j then some o else H.get j:=by
 simp only[AHeap.set,AHeap.get,Trie.get_set]
theorem c0P(H:AHeap)(k j:Nat):(H.kill k).get j=if k=j then none else H.get j:=by
 simp only[AHeap.kill,AHeap.get,Trie.get_set]
theorem get_new(H:AHeap)(o:W7)(j:Nat):(H.new o).get j=if H.next=j then some o else H.get j:=by
 simp only[AHeap.new,AHeap.get,Trie.get_set]
theorem get_killAll:∀(ps:List Nat) (H:AHeap) (j:Nat),(H.killAll ps).get j=if j∈ps then none else H.get j
 | [],H,j=>by simp[AHeap.killAll]
 |p::ps,H,j=>by
  simp only[AHeap.killAll,get_killAll ps,c0P,List.mem_cons]
  by_cases h:j∈ps
  ·simp[h]
  ·by_cases h2:p=j
   ·subst h2;simp
   ·simp[h,h2,Ne.symm h2]
theorem next_set(H:AHeap)(k:Nat)(o:W7):(H.set k o).next=H.next:=rfl
theorem next_new(H:AHeap)(o:W7):(H.new o).next=H.next+1:=rfl
theorem c3o(H:AHeap)(k:Nat):(H.kill k).next=H.next:=rfl
theorem next_killAll:∀(ps:List Nat) (H:AHeap),(H.killAll ps).next=H.next
 | [],H=>rfl
 |p::ps,H=>by simp only[AHeap.killAll,next_killAll ps,c3o]
theorem a9g(H:AHeap)(cs:List AV)(j:Nat):(newCells H cs).get j=if H.next=j then some (.cells cs true []) else H.get j:=get_new ..
theorem b3E(E:m6){H:AHeap}{k:Nat}{cs:List AV}{w:Bool}{p:List Nat}(h:H.get k=some (.cells cs w p))(i n:Nat):F0 E H (.new k) i n=if i+n≤cs.length then some ((cs.drop i).take n) else none:=by
 simp only[F0,cellsOf,h]
theorem c5r(E:m6){H:AHeap}{k:Nat}{cs:List AV}{w:Bool}{p:List Nat}(h:H.get k=some (.cells cs w p))(i n:Nat)(hl:i+n≤cs.length):K4 E H (.new k) i n=some ((cs.drop i).take n):=by
 unfold K4
 split
 ·rename_i e;subst e;simp
 ·rw[b3E E h,if_pos hl]
theorem a5K{H:AHeap}{k:Nat}{cs:List AV}{p:List Nat}(h:H.get k=some (.cells cs true p))(i:Nat)(v:AV)(vs:List AV)(hl:i+(vs.length+1)≤cs.length)(hs:(v::vs).all w8=true):
  E1 H (.new k) i (v::vs)=some ((H.killAll p).set k (.cells (E4 cs i (v::vs)) true [])):=by
 simp only[E1,h]
 rw[if_pos]
 simp only[Bool.and_eq_true,decide_eq_true_eq]
 exact⟨hl,hs⟩
end heap
section rules
variable{P:Program}{E:m6}{w0:a5P}
@[simp] theorem d0D{α:Type}(x:α)(Q:α→Prop):a9 (some x) Q=Q x:=rfl
@[simp] theorem d4K{α:Type}(Q:α→Prop):a9 (none:Option α) Q=False:=rfl
@[simp] theorem d3Q(v:AV)(H:AHeap)(K:AV→AHeap→Prop):a4F (some (v,H)) K=K v H:=rfl
@[simp] theorem d4b(x y:Prop):c5X (.bool true) x y=x:=rfl
@[simp] theorem d3v(x y:Prop):c5X (.bool false) x y=y:=rfl
@[simp] theorem d4N(r:Option AV):c7R (some true) r=r:=rfl
@[simp] theorem d3N(r:Option AV):c7R (some false) r=some A0:=rfl
@[simp] theorem d3t(b w:Bool):d3Y (.bool b) w=some (b==w):=rfl
@[simp] theorem d3s(s:(AV→AHeap→Prop)→Prop)(H:AHeap)(Q:AV→AHeap→Prop):a7F (some true) s H Q=s Q:=rfl
@[simp] theorem d3k(s:(AV→AHeap→Prop)→Prop)(H:AHeap)(Q:AV→AHeap→Prop):a7F (some false) s H Q=Q A0 H:=rfl
@[simp] theorem d4n(t:Bool)(a b:AV):c8N (.bool t) a b=some (if t then a else b):=rfl
@[simp] theorem d5y(o:Id)(i:Nat):d0v (.ptr o i)=some (.ptr o i):=rfl
@[simp] theorem d4U(t:TypeId)(v:AV):d0v (.ifc t v)=some (.ifc t v):=rfl
@[simp] theorem d5S(f:FuncId)(a b:List AV):d0v (.fn (.func f) a b)=some (.fn (.func f) a b):=rfl
@[simp] theorem d2R(vs:List AV)(i:Nat):b6c (.tup vs) i=vs[i]? :=rfl
@[simp] theorem d4R(F:FW)(f:FuncId)(a:List AV)(H:AHeap)(K:AV→AHeap→Prop):b3T F (some (.call f a H)) K=F f a H K:=rfl
@[simp] theorem d5R(t:TypeId)(k:IntKind)(a b:Int):b3M P .add t (.int k a) (.int k b)=some (.int k (k.wrap (a+b))):=if_pos rfl
@[simp] theorem d5O(t:TypeId)(k:IntKind)(a b:Int):b3M P .sub t (.int k a) (.int k b)=some (.int k (k.wrap (a - b))):=if_pos rfl
@[simp] theorem d5Q(t:TypeId)(k:IntKind)(a b:Int):b3M P .mul t (.int k a) (.int k b)=some (.int k (k.wrap (a*b))):=if_pos rfl
@[simp] theorem d5K(t:TypeId)(k:IntKind)(a b:Int):b3M P .lss t (.int k a) (.int k b)=some (.bool (a<b)):=if_pos rfl
@[simp] theorem d5J(t:TypeId)(k:IntKind)(a b:Int):b3M P .leq t (.int k a) (.int k b)=some (.bool (a≤b)):=if_pos rfl
@[simp] theorem d5P(t:TypeId)(k:IntKind)(a b:Int):b3M P .gtr t (.int k a) (.int k b)=some (.bool (a>b)):=if_pos rfl
@[simp] theorem d5M(t:TypeId)(k:IntKind)(a b:Int):b3M P .geq t (.int k a) (.int k b)=some (.bool (a≥b)):=if_pos rfl
@[simp] theorem d6j(b:Bool):unA .not (.bool b)=some (.bool !b):=rfl
end rules
section wraps
theorem m7{n:Int}(h0: -9223372036854775808≤n)(h1:n≤9223372036854775807):IntKind.i64.wrap n=n:=by
 show(if(true&&decide ((2:Int)^63≤n % 2^64))=true then n % 2^64 - 2^64 else n % 2^64)=n
 by_cases h:(2:Int)^63≤n % 2^64
 ·refine Eq.trans (if_pos (decide_eq_true h)) ?_
  omega
 ·refine Eq.trans (if_neg (fun e=>h (of_decide_eq_true e))) ?_
  omega
end wraps
structure L8 (H:AHeap):Prop where
 above:∀k,H.next≤k→H.get k=none
 kin:∀k p o op,H.get k=some o→p∈D9 o→H.get p=some op→b6X op=false
 self:∀k o p,H.get k=some o→p∈D9 o→p≠k
 below:∀k o p,H.get k=some o→p∈D9 o→p<H.next
section fine
variable{P:Program}{E:m6}{w0:a5P}
theorem G9.fine{H:AHeap}{w:World}{ρ:B4}(R:G9 E w0 H w ρ)(hf:P8 ρ H):L8 H:=by
 refine⟨fun k hk=> ?_,fun k p o op hk hp ho=> ?_,fun k o p hk hp=>((R.pres k o hk) p hp).1,fun k o p hk hp=> ?_⟩
 ·cases hg:H.get k with
  |none=>rfl
  |some o=>
   obtain⟨l,h1,_⟩:=R.objs k o hg
   rw[hf k hk]at h1;cases h1
 ·obtain⟨l,h1,_⟩:=R.objs k o hk
  obtain⟨lp,h2,_⟩:=R.objs p op ho
  exact(R.kin k p o op l lp hk hp ho h1 h2).1
 ·refine Nat.lt_of_not_le fun hle=> ?_
  have:=((R.pres k o hk) p hp).2
  rw[hf p hle]at this
  cases this
theorem L8.lt{H:AHeap}(F:L8 H){k:Nat}{o:W7}(h:H.get k=some o):k<H.next:=by
 refine Nat.lt_of_not_le fun hk=> ?_
 rw[F.above k hk]at h;cases h
def But(b:Nat)(H H':AHeap):Prop:=∀k all pre,k≠b→H.get k=some (.cells all true pre)→H'.get k=some (.cells all true pre)
def d3M(H H':AHeap):Prop:=∀k all pre,H.get k=some (.cells all true pre)→H'.get k=some (.cells all true pre)
theorem L8.store{H:AHeap}(F:L8 H){b:Nat}{all:List AV}{pre:List Nat}(h:H.get b=some (.cells all true pre)){n:Nat}{x:AV}(hn:n<all.length)(hx:w8 x=true):
  ∃H',E1 H (.new b) n [x]=some H'∧H'.get b=some (.cells (all.set n x) true [])∧But b H H'∧H'.next=H.next∧L8 H':=by
 have hg:∀j,((H.killAll pre).set b (.cells (all.set n x) true [])).get j=if b=j then some (.cells (all.set n x) true []) else if j∈pre then none else H.get j:=by
  intro j
  rw[a3Z,get_killAll]
 refine⟨(H.killAll pre).set b (.cells (all.set n x) true []),a5K h n x [] (by simp;omega) (by simpa using hx), ?_, ?_, ?_, ?_⟩
 ·exact(hg b).trans (if_pos rfl)
 ·intro k all' pre' hk hgk
  refine(hg k).trans ?_
  rw[if_neg (Ne.symm hk),if_neg]
  ·exact hgk
  ·intro hp
   have:=F.kin b k _ _ h hp hgk
   cases this
 ·rw[next_set,next_killAll]
 ·have key:∀j o,((H.killAll pre).set b (.cells (all.set n x) true [])).get j=some o→(b=j∧o= .cells (all.set n x) true [])∨(b≠j∧H.get j=some o):=by
   intro j o hj
   rw[hg]at hj
   split at hj
   ·rename_i e;cases hj;exact .inl ⟨e,rfl⟩
   ·rename_i e
    split at hj
    ·cases hj
    ·exact .inr ⟨e,hj⟩
  have hnx:((H.killAll pre).set b (.cells (all.set n x) true [])).next=H.next:=by rw[next_set,next_killAll]
  refine⟨?_, ?_, ?_, ?_⟩
  ·intro k hk
   rw[hnx]at hk
   have hkb:b≠k:=by have:=F.lt h;omega
   refine(hg k).trans ?_
   rw[if_neg hkb,F.above k hk]
   split<;>rfl
  ·intro k p o op hk hp ho
   rcases key k o hk with ⟨rfl,rfl⟩|⟨_,hk⟩
   ·cases hp
   ·rcases key p op ho with ⟨rfl,rfl⟩|⟨_,ho⟩
    ·have:=F.kin k _ o _ hk hp h
     cases this
    ·exact F.kin k p o op hk hp ho
  ·intro k o p hk hp
   rcases key k o hk with ⟨rfl,rfl⟩|⟨_,hk⟩
   ·cases hp
   ·exact F.self k o p hk hp
  ·intro k o p hk hp
   rw[hnx]
   rcases key k o hk with ⟨rfl,rfl⟩|⟨_,hk⟩
   ·cases hp
   ·exact F.below k o p hk hp
theorem L8.newCells{H:AHeap}(F:L8 H)(cs:List AV):(newCells H cs).get H.next=some (.cells cs true [])∧d3M H (newCells H cs)∧(newCells H cs).next=H.next+1∧L8 (newCells H cs):=by
 have hn:(Am.newCells H cs).next=H.next+1:=rfl
 have hg:=a9g H cs
 refine⟨by rw[a9g,if_pos rfl], ?_,rfl, ?_, ?_, ?_, ?_⟩
 ·intro k all pre h
  have:=F.lt h
  rw[a9g,if_neg (by omega)]
  exact h
 ·intro k hk
  rw[hn]at hk
  rw[hg,if_neg (by omega)]
  exact F.above k (by omega)
 ·intro k p o op hk hp ho
  rw[hg]at hk ho
  split at hk
  ·cases hk;cases hp
  ·split at ho
   ·rename_i h1 h2
    have:=F.below k o p hk hp
    omega
   ·exact F.kin k p o op hk hp ho
 ·intro k o p hk hp
  rw[hg]at hk
  split at hk
  ·cases hk;cases hp
  ·exact F.self k o p hk hp
 ·intro k o p hk hp
  rw[hn]
  rw[hg]at hk
  split at hk
  ·cases hk;cases hp
  ·have:=F.below k o p hk hp;omega
theorem c9K{f:FuncId}{args:List AV}{H:AHeap}{Q:AV→AHeap→Prop}(h:FnW P E w0 f args H fun v H'=>L8 H'→H.next≤H'.next→Q v H'):FnW P E w0 f args H Q:=by
 intro w ρ vargs R hf hr
 refine Calls.mono (h w ρ vargs R hf hr) ?_
 intro e w' he
 cases e with
 |returned u=>
  obtain⟨ρ',v,H',h2,h3,h4,h5⟩:=he
  exact⟨ρ',v,H',h2 (h5.fine (hf.step h3)) h3.2.1,h3,h4,h5⟩
 |panicked c=>exact he
 |outgrown=>exact he
theorem FnW.use{f:FuncId}{args:List AV}{H:AHeap}{Q K:AV→AHeap→Prop}(h:FnW P E w0 f args H Q)(hk:∀v H',Q v H'→L8 H'→H.next≤H'.next→K v H'):FnW P E w0 f args H K:=
 c9K (h.mono fun v H' hq=>hk v H' hq)
end fine
end Go.Am
end
