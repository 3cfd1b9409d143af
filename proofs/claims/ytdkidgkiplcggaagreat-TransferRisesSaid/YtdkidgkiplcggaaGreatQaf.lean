/-
  TransferRisesSaid: part Qaf of its proof.
-/
import Derived.Test.YtdkidgkiplcggaaGreatQae
import Derived.LoopN
set_option linter.unusedVariables false
set_option linter.unusedSimpArgs false
set_option maxRecDepth 100000
section
namespace Go.Am
section
inductive Tr where
 |put (k:Nat) (o:Option L0) (lg:Bool)
 |next (n:Nat)
def Tr.ap:Tr→AHeap→AHeap
 | .put k o lg,H=> { H with objs:=H.objs.set k o,log:=if lg then k::H.log else H.log }
 | .next n,H=> { H with next:=n }
def aps:List Tr→AHeap→AHeap
 | [],H=>H
 |t::ts,H=>aps ts (t.ap H)
theorem a0t:∀(a b:List Tr) (H:AHeap),aps (a++b) H=aps b (aps a H)
 | [],_,_=>rfl
 |t::a,b,H=>a0t a b (t.ap H)
structure Sub (M H:AHeap):Prop where
 get:∀k o,M.get k=some o→H.get k=some o
 next:H.next=M.next
 log:H.log=M.log
theorem Sub.refl(H:AHeap):Sub H H:=⟨fun _ _ h=>h,rfl,rfl⟩
theorem Sub.ap{M H:AHeap}(h:Sub M H)(t:Tr):Sub (t.ap M) (t.ap H):=by
 cases t with
 |put k o lg=>
  refine⟨fun j x hx=> ?_,h.next,by simp only[Tr.ap,h.log]⟩
  simp only[Tr.ap,AHeap.get,Trie.get_set]at hx ⊢
  split
  ·rename_i e;rwa [if_pos e]at hx
  ·rename_i e;rw[if_neg e]at hx;exact h.get j x hx
 |next n=>exact⟨h.get,rfl,h.log⟩
theorem Sub.aps{M H:AHeap}:∀(ts:List Tr),Sub M H→Sub (aps ts M) (aps ts H)
 | [],h=>h
 |t::ts,h=>Sub.aps ts (h.ap t)
def Z1(M:AHeap)(ts:List Tr):Prop:=M.next≤(aps ts M).next∧∀k o lg,Tr.put k o lg∈ts→(lg=false→M.next≤k)∧k<(aps ts M).next
def Wf(M:AHeap):Prop:=(∀k,M.next≤k→M.get k=none)∧∀k o,M.get k=some o→∀p∈A5 o,p<M.next
theorem Z1.nil(M:AHeap):Z1 M []:=⟨Nat.le_refl _,by simp⟩
section
variable{E:j2}{P:Program}{M H:AHeap}
theorem b2m(h:Sub M H){o:Id}{cs:List AV}(e:cellsOf E M o=some cs):cellsOf E H o=some cs:=by
 cases o with
 |old b=>exact e
 |new k=>
  simp only[cellsOf]at e ⊢
  split at e
  ·rename_i cs' wr pre hk;rw[h.get _ _ hk];exact e
  ·cases e
theorem c7i(h:Sub M H){o:Id}{i:Nat}{a:AV}(e:a6T E M o i=some a):a6T E H o i=some a:=by
 unfold a6T at e ⊢
 split at e
 ·rename_i cs hc;rw[b2m h hc];exact e
 ·cases e
theorem a8v(h:Sub M H){o:Id}{i n:Nat}{a:List AV}(e:E4 E M o i n=some a):E4 E H o i n=some a:=by
 unfold E4 at e ⊢
 split at e
 ·rename_i cs hc;rw[b2m h hc];exact e
 ·cases e
theorem b9C(h:Sub M H){o:Id}{i n:Nat}{a:List AV}(e:J8 E M o i n=some a):J8 E H o i n=some a:=by
 unfold J8 at e ⊢
 split at e
 ·rename_i h0;rw[if_pos h0];exact e
 ·rename_i h0;rw[if_neg h0];exact a8v h e
theorem b7M(h:Sub M H){t:TypeId}{o:Id}{i:Nat}{a:AV}(e:L9 P E M t o i=some a):L9 P E H t o i=some a:=by
 unfold L9 at e ⊢
 simp only[Option.bind_eq_bind,Option.bind_eq_some_iff]at e ⊢
 obtain⟨g,hg,e⟩:=e
 refine⟨g,hg, ?_⟩
 cases g with
 |true=>
  simp only[if_true,Option.bind_eq_some_iff]at e ⊢
  obtain⟨n,hn,as,has,e⟩:=e
  exact⟨n,hn,as,a8v h has,e⟩
 |false=>
  simp only[Bool.false_eq_true,if_false]at e ⊢
  exact c7i h e
theorem c3l(h:Sub M H){size n:Nat}{x:AV}{r:List AV}(e:a0X E M size n x=some r):a0X E H size n x=some r:=by
 unfold a0X at e ⊢
 split at e
 ·exact e
 ·exact b9C h e
 ·exact e
 ·cases e
theorem c6W(h:Sub M H){x:AV}{r:List (AV×AV×Nat)}(e:a4V M x=some r):a4V H x=some r:=by
 unfold a4V at e ⊢
 split at e
 ·exact e
 ·split at e
  ·rename_i es c hk;rw[h.get _ _ hk];exact e
  ·cases e
 ·cases e
theorem a9C(h:Sub M H){t:TypeId}{x:a1l}{a:AV}(e:x.get P E M t=some a):x.get P E H t=some a:=by
 cases x with
 |val v=>exact e
 |var o i=>exact b7M h e
theorem a7I(h:Sub M H):∀ {path:List FieldStep} {t:TypeId} {x:a1l} {r:TypeId×a1l},Z5 P E M path t x=some r→Z5 P E H path t x=some r
 | [],t,x,r,e=>e
 |s::rest,t,x,r,e=>by
  simp only[Z5,Option.bind_eq_bind,Option.bind_eq_some_iff]at e ⊢
  obtain⟨fd,hfd,e⟩:=e
  refine⟨fd,hfd, ?_⟩
  split at e
  ·rename_i hc
   rw[if_pos hc]
   split at e
   ·rename_i hd
    rw[if_pos hd]
    simp only[Option.bind_eq_some_iff]at e ⊢
    obtain⟨a,ha,e⟩:=e
    refine⟨a,a9C h ha, ?_⟩
    split at e
    ·exact a7I h e
    ·cases e
   ·rename_i hd
    rw[if_neg hd]
    split at e
    ·exact a7I h e
    ·simp only[Option.bind_eq_some_iff]at e ⊢
     obtain⟨y,hy,e⟩:=e
     exact⟨y,hy,a7I h e⟩
    ·cases e
  ·cases e
theorem b9T(h:Sub M H){t:TypeId}{v:AV}{name:String}{r:FuncId×AV}(e:a1N P E M t v name=some r):a1N P E H t v name=some r:=by
 unfold a1N at e ⊢
 simp only[Option.bind_eq_bind,Option.bind_eq_some_iff]at e ⊢
 obtain⟨info,hi,m,hm,⟨xt,x⟩,hfo,⟨g,pr⟩,hfn,e⟩:=e
 refine⟨info,hi,m,hm,⟨xt,x⟩,a7I h hfo,⟨g,pr⟩,hfn, ?_⟩
 simp only at e ⊢
 split at e
 ·simp only[Option.map_eq_some_iff]at e ⊢
  obtain⟨y,hy,e⟩:=e
  exact⟨y,a9C h hy,e⟩
 ·cases e
 ·exact e
 ·cases e
 ·simp only[Option.map_eq_some_iff]at e ⊢
  obtain⟨y,hy,e⟩:=e
  exact⟨y,a9C h hy,e⟩
 ·cases e
theorem d7I(H:AHeap)(o:L0):H.new o=aps [.put H.next (some o) false, .next (H.next+1)] H:=rfl
theorem b5f:∀(ks:List Nat) (H:AHeap),H.killAll ks=aps (ks.map fun k=> .put k none true) H
 | [],_=>rfl
 |k::ks,H=>b5f ks (H.kill k)
theorem Wf.lt(h:Wf M){k:Nat}{o:L0}(e:M.get k=some o):k<M.next:=by
 rcases Nat.lt_or_ge k M.next with h'|h'
 ·exact h'
 ·rw[h.1 k h']at e;cases e
theorem c1s(hw:Wf M){k:Nat}{o o':L0}{pre:List Nat}(hk:M.get k=some o)(hp:∀p∈pre,p<M.next)(hp':∀p∈A5 o',p<M.next):
  ∃ts,(∀H:AHeap,(H.killAll pre).set k o'=aps ts H)∧Z1 M ts∧Wf ((M.killAll pre).set k o'):=by
 refine⟨(pre.map fun p=>Tr.put p none true)++[.put k (some o') true],fun H=>by rw[a0t, ←b5f];rfl, ?_, ?_⟩
 ·have hn:(aps ((pre.map fun p=>Tr.put p none true)++[.put k (some o') true]) M).next=M.next:=by
   rw[a0t, ←b5f];exact AHeap.next_killAll pre M
  refine⟨by omega,fun j x lg hm=> ?_⟩
  rw[hn]
  simp only[List.mem_append,List.mem_map,List.mem_singleton,Tr.put.injEq]at hm
  rcases hm with ⟨p,hpp,rfl,_,rfl⟩|⟨rfl,_,rfl⟩
  ·exact⟨(fun e=>by cases e),hp _ hpp⟩
  ·exact⟨(fun e=>by cases e),hw.lt hk⟩
 ·refine⟨fun j hj=> ?_,fun j x hx p hpp=> ?_⟩
  ·simp only[AHeap.next_set,AHeap.next_killAll]at hj
   rw[AHeap.get_set,AHeap.get_killAll,if_neg (by have:=hw.lt hk;omega)]
   split
   ·rfl
   ·exact hw.1 j hj
  ·simp only[AHeap.next_set,AHeap.next_killAll]
   rw[AHeap.get_set,AHeap.get_killAll]at hx
   split at hx
   ·cases hx;exact hp' p hpp
   ·split at hx
    ·cases hx
    ·exact hw.2 j x hx p hpp
theorem b3t(hw:Wf M){o:L0}(hp:∀p∈A5 o,p<M.next):∃ts,(∀H,Sub M H→H.new o=aps ts H)∧Z1 M ts∧Wf (M.new o):=by
 refine⟨[.put M.next (some o) false, .next (M.next+1)],fun H h=>by rw[d7I,h.next],⟨by simp[aps,Tr.ap],fun j x lg hm=> ?_⟩, ?_⟩
 ·simp only[List.mem_cons,Tr.put.injEq,List.not_mem_nil,or_false,reduceCtorEq]at hm
  obtain⟨rfl,_,rfl⟩:=hm
  exact⟨fun _=>Nat.le_refl _,by simp[aps,Tr.ap]⟩
 ·refine⟨fun j hj=> ?_,fun j x hx p hpp=> ?_⟩
  ·simp only[AHeap.next_new]at hj
   rw[AHeap.get_new,if_neg (by omega)]
   exact hw.1 j (by omega)
  ·simp only[AHeap.next_new]
   rw[AHeap.get_new]at hx
   split at hx
   ·cases hx;have:=hp p hpp;omega
   ·have:=hw.2 j x hx p hpp;omega
theorem Z1.append{ts us:List Tr}(h:Z1 M ts)(h':Z1 (aps ts M) us):Z1 M (ts++us):=by
 refine⟨by rw[a0t];exact Nat.le_trans h.1 h'.1,fun k o lg hm=> ?_⟩
 rw[a0t]
 rcases List.mem_append.1 hm with hm|hm
 ·obtain⟨a,b⟩:=h.2 k o lg hm
  exact⟨a,Nat.lt_of_lt_of_le b h'.1⟩
 ·obtain⟨a,b⟩:=h'.2 k o lg hm
  exact⟨fun e=>Nat.le_trans h.1 (a e),b⟩
def c2D(P:Program)(E:j2)(T:List AV)(o:Oper)(M:AHeap)(r:a1v):Prop:=
 match r with
 | .val v M'=>∃ts,M'=aps ts M∧Z1 M ts∧Wf M'∧∀H,Sub M H→opA P E T H o=some (.val v (aps ts H))
 | .call f args M'=>M'=M∧∀H,Sub M H→opA P E T H o=some (.call f args H)
theorem b2Q(hw:Wf M){o:Id}{i:Nat}{vs:List AV}{M':AHeap}(h:B6 M o i vs=some M'):
  ∃ts,M'=aps ts M∧Z1 M ts∧Wf M'∧∀H,Sub M H→B6 H o i vs=some (aps ts H):=by
 unfold B6 at h
 split at h
 ·cases h;exact⟨[],rfl,Z1.nil _,hw,fun H _=>rfl⟩
 ·rename_i hne
  split at h
  ·cases h
  ·rename_i k
   split at h
   ·rename_i cs pre hk
    split at h
    ·rename_i hc
     cases h
     obtain⟨ts,g1,g2,g3⟩:=c1s hw (pre:=pre) (o':= .cells (B5 cs i vs) true []) hk (hw.2 k _ hk) (by simp[A5])
     refine⟨ts,g1 M,g2,g3,fun H hs=> ?_⟩
     unfold B6
     split
     ·exact absurd rfl hne
     ·simp only[hs.get _ _ hk]
      rw[if_pos hc,g1 H]
    ·cases h
   ·cases h
theorem c5F(hw:Wf M){size bytes n:Nat}{s a:AV}{news:List AV}{M':AHeap}(h:Q7 E M size bytes s n news=some (a,M')):
  ∃ts,M'=aps ts M∧Z1 M ts∧Wf M'∧∀H,Sub M H→Q7 E H size bytes s n news=some (a,aps ts H):=by
 unfold Q7 at h
 split at h
 ·rename_i hl
  split at h
  ·split at h
   ·rename_i hn
    cases h
    exact⟨[],rfl,Z1.nil _,hw,fun H _=>by unfold Q7;rw[if_pos hl];simp only;rw[if_pos hn];rfl⟩
   ·rename_i hn
    split at h
    ·rename_i hb
     cases h
     obtain⟨ts,g1,g2,g3⟩:=b3t hw (o:= .cells news true []) (by simp[A5])
     refine⟨ts,g1 M (Sub.refl M),g2,g3,fun H hs=> ?_⟩
     unfold Q7
     rw[if_pos hl];simp only;rw[if_neg hn,if_pos hb,hs.next,newCells,g1 H hs]
    ·cases h
  ·rename_i o i len cap ex sz
   split at h
   ·rename_i hn
    cases h
    exact⟨[],rfl,Z1.nil _,hw,fun H _=>by unfold Q7;rw[if_pos hl];simp only;rw[if_pos hn];rfl⟩
   ·rename_i hn
    split at h
    ·rename_i hb
     split at h
     ·rename_i hex
      split at h
      ·rename_i olds ho
       cases h
       obtain⟨ts,g1,g2,g3⟩:=b3t hw (o:= .cells (olds++news) true []) (by simp[A5])
       refine⟨ts,g1 M (Sub.refl M),g2,g3,fun H hs=> ?_⟩
       unfold Q7
       rw[if_pos hl];simp only;rw[if_neg hn,if_pos hb,if_pos hex,a8v hs ho]
       simp only
       rw[hs.next,newCells,g1 H hs]
      ·cases h
     ·rename_i hex
      split at h
      ·cases h
      ·rename_i k
       split at h
       ·rename_i cs pre hk
        have hkn:=hw.lt hk
        have hpl:∀p∈pre,p<M.next:=hw.2 k _ hk
        split at h
        ·rename_i hc
         split at h
         ·rename_i hlt
          cases h
          obtain⟨ts,g1,g2,g3⟩:=c1s hw (o':= .cells (cs.take (i+len*size)) false []) hk hpl (by simp[A5])
          have hnx:((M.killAll pre).set k (.cells (cs.take (i+len*size)) false [])).next=M.next:=by simp
          obtain⟨us,k1,k2,k3⟩:=b3t g3 (o:= .cells ((cs.take (i+len*size)).drop i++news) true [k]) (by simp[A5];exact hkn)
          refine⟨ts++us,by rw[a0t, ←g1, ←k1 _ (Sub.refl _)],g2.append (by rw[←g1];exact k2),k3,fun H hs=> ?_⟩
          unfold Q7
          rw[if_pos hl];simp only;rw[if_neg hn,if_pos hb,if_neg hex]
          simp only[hs.get _ _ hk]
          rw[if_pos hc,if_pos hlt,hs.next,g1 H,k1 _ (by rw[g1 M];exact hs.aps ts),a0t]
         ·rename_i hlt
          cases h
          obtain⟨ts,g1,g2,g3⟩:=c1s hw (o':= .cells cs false pre) (pre:=[]) hk (by simp) (by simpa [A5]using hpl)
          obtain⟨us,k1,k2,k3⟩:=b3t g3 (o:= .cells (cs.drop i++news) true (k::pre)) (by
           intro p hp
           simp only[A5,List.mem_cons]at hp
           rcases hp with rfl|hp
           ·exact hkn
           ·exact hpl p hp)
          refine⟨ts++us,by rw[a0t, ←g1, ←k1 _ (Sub.refl _)];rfl,g2.append (by rw[←g1];exact k2),k3,fun H hs=> ?_⟩
          unfold Q7
          rw[if_pos hl];simp only;rw[if_neg hn,if_pos hb,if_neg hex]
          simp only[hs.get _ _ hk]
          rw[if_pos hc,if_neg hlt,hs.next,a0t, ←g1, ←k1 _ (by rw[g1 M,g1 H];exact hs.aps ts)]
          rfl
        ·cases h
       ·cases h
    ·cases h
  ·cases h
 ·cases h
theorem a3q(hw:Wf M)(cs:List AV):∃ts,(∀H,Sub M H→newCells H cs=aps ts H)∧Z1 M ts∧Wf (newCells M cs):=
 b3t hw (o:= .cells cs true []) (by simp[A5])
theorem c8G(hw:Wf M){sT xT:TypeId}{s x a:AV}{M':AHeap}(h:a1M P E M sT s xT x=some (a,M')):
  ∃ts,M'=aps ts M∧Z1 M ts∧Wf M'∧∀H,Sub M H→a1M P E H sT s xT x=some (a,aps ts H):=by
 unfold a1M at h
 simp only[Option.bind_eq_bind,Option.bind_eq_some_iff]at h
 obtain⟨e,he,size,hs,bytes,hb,z,hz,h⟩:=h
 split at h
 ·rename_i hzs
  split at h
  ·rename_i k hu
   simp only[Option.bind_eq_some_iff]at h
   obtain⟨l,hl,h⟩:=h
   split at h
   ·rename_i hc
    obtain⟨ts,g1,g2,g3,g4⟩:=c5F hw h
    refine⟨ts,g1,g2,g3,fun H hsub=> ?_⟩
    unfold a1M
    simp only[Option.bind_eq_bind,he,hs,hb,hz,Option.bind_some,hzs,if_true,hu,hl]
    rw[if_pos hc,g4 H hsub]
   ·cases h
  ·rename_i d hd hu
   simp only[Option.bind_eq_some_iff]at h
   obtain⟨n,hn,nw,hnw,h⟩:=h
   obtain⟨ts,g1,g2,g3,g4⟩:=c5F hw h
   refine⟨ts,g1,g2,g3,fun H hsub=> ?_⟩
   unfold a1M
   simp only[Option.bind_eq_bind,he,hs,hb,hz,Option.bind_some,hzs,if_true,hu]
   have:(match some d with
    |some (.int _)=>(do
      let l←a0U x
      if IntKind.i64.wrap l=l∧0≤l∧l*bytes≤2^47 then Q7 E H size bytes s l.toNat (rep z.cells l.toNat) else none:Option (AV×AHeap))
    |some _=>(do
      let n←a4h x
      let news←a0X E H size n x
      Q7 E H size bytes s n news)
    |none=>none)=some (a,aps ts H):=by
    cases d<;>first|exact(hd _ rfl).elim|(simp only[Option.bind_eq_bind,hn,Option.bind_some,c3l hsub hnw];exact g4 H hsub)
   simpa only[Option.bind_eq_bind]using this
  ·cases h
 ·cases h
theorem d3i(hw:Wf M){dT:TypeId}{d x a:AV}{M':AHeap}(h:b2J P E M dT d x=some (a,M')):
  ∃ts,M'=aps ts M∧Z1 M ts∧Wf M'∧∀H,Sub M H→b2J P E H dT d x=some (a,aps ts H):=by
 unfold b2J at h
 simp only[Option.bind_eq_bind,Option.bind_eq_some_iff]at h
 obtain⟨e,he,size,hs,k,hk,h⟩:=h
 split at h
 ·cases h
  exact⟨[],rfl,Z1.nil _,hw,fun H _=>by unfold b2J;simp only[Option.bind_eq_bind,he,hs,hk,Option.bind_some];rfl⟩
 ·rename_i o i len cap ex sz
  simp only[Option.bind_eq_some_iff]at h
  obtain⟨nw,hnw,H1,hst,h⟩:=h
  cases h
  obtain⟨ts,g1,g2,g3,g4⟩:=b2Q hw hst
  refine⟨ts,g1,g2,g3,fun H hsub=> ?_⟩
  unfold b2J
  simp only[Option.bind_eq_bind,he,hs,hk,Option.bind_some,c3l hsub hnw,g4 H hsub]
 ·cases h
theorem d2K(hw:Wf M){src dst:TypeId}{x a:AV}{M':AHeap}(h:P0 P E M src dst x=some (a,M')):
  ∃ts,M'=aps ts M∧Z1 M ts∧Wf M'∧∀H,Sub M H→P0 P E H src dst x=some (a,aps ts H):=by
 unfold P0 at h
 split at h
 ·rename_i h1 h2
  cases h
  refine⟨[],rfl,Z1.nil _,hw,fun H _=> ?_⟩
  unfold P0;rw[h1,h2];rfl
 ·rename_i h1 h2
  cases h
  refine⟨[],rfl,Z1.nil _,hw,fun H _=> ?_⟩
  unfold P0;rw[h1,h2];rfl
 ·rename_i d e s h1 h2
  split at h
  ·rename_i he
   split at h
   ·rename_i hl
    cases h
    obtain⟨ts,g1,g2,g3⟩:=a3q hw (s.map fun b=>AV.int .u8 b.toNat)
    refine⟨ts,g1 M (Sub.refl M),g2,g3,fun H hs=> ?_⟩
    unfold P0;rw[h1,h2];simp only[he,hl,if_true,hs.next,g1 H hs]
   ·cases h
  ·cases h
 ·rename_i d e k i len cap ex sz h1 h2
  split at h
  ·rename_i he
   split at h
   ·rename_i hc
    cases h
    refine⟨[],rfl,Z1.nil _,hw,fun H hs=> ?_⟩
    obtain⟨cs,hcs⟩:=Option.isSome_iff_exists.1 hc.2.2
    have hc':src=dst∧len≠0∧(cellsOf E H (.new k)).isSome:=⟨hc.1,hc.2.1,by rw[b2m hs hcs];rfl⟩
    unfold P0;rw[h1,h2];simp only[he]
    rw[if_pos hc'];rfl
   ·cases h
  ·cases h
 ·rename_i e h1 h2 hno
  split at h
  ·rename_i he
   split at h
   ·cases h
    refine⟨[],rfl,Z1.nil _,hw,fun H _=> ?_⟩
    unfold P0;rw[h1,h2];simp only[he];rfl
   ·rename_i o i len cap ex sz _
    split at h
    ·rename_i cs hcs
     simp only[Option.map_eq_some_iff]at h
     obtain⟨bs,hbs,h⟩:=h
     cases h
     refine⟨[],rfl,Z1.nil _,hw,fun H hs=> ?_⟩
     unfold P0;rw[h1,h2];simp only[he,b9C hs hcs,hbs];rfl
    ·cases h
   ·cases h
  ·cases h
 ·cases h
theorem b6z(hw:Wf M){k:Nat}{es es':List (AV×AV×Nat)}{clock clock':Nat}(hk:M.get k=some (.map es clock)):
  ∃ts,(∀H:AHeap,H.set k (.map es' clock')=aps ts H)∧Z1 M ts∧Wf (M.set k (.map es' clock')):=by
 obtain⟨ts,g1,g2,g3⟩:=c1s hw (pre:=[]) (o':= .map es' clock') hk (by simp) (by simp[A5])
 exact⟨ts,g1,g2,g3⟩
theorem b9O(hw:Wf M){t:TypeId}{m key v:AV}{M':AHeap}(h:Z8 P M t m key v=some M'):
  ∃ts,M'=aps ts M∧Z1 M ts∧Wf M'∧∀H,Sub M H→Z8 P H t m key v=some (aps ts H):=by
 unfold Z8 at h
 split at h
 ·rename_i kt e k hu
  split at h
  ·rename_i hf
   split at h
   ·rename_i es clock hk
    split at h
    ·rename_i hfa
     cases h
     obtain⟨ts,g1,g2,g3⟩:=b6z hw hk
     refine⟨ts,g1 M,g2,g3,fun H hs=> ?_⟩
     unfold Z8;rw[hu];simp only[hf,if_true,hs.get _ _ hk,hfa,g1 H]
    ·rename_i hfa
     cases h
     obtain⟨ts,g1,g2,g3⟩:=b6z hw hk
     refine⟨ts,g1 M,g2,g3,fun H hs=> ?_⟩
     unfold Z8;rw[hu];simp only[hf,if_true,hs.get _ _ hk,hfa,g1 H]
    ·cases h
   ·cases h
  ·cases h
 ·cases h
theorem c9O(hw:Wf M){t:TypeId}{m key a:AV}{M':AHeap}(h:a5n P M t m key=some (a,M')):
  ∃ts,M'=aps ts M∧Z1 M ts∧Wf M'∧∀H,Sub M H→a5n P H t m key=some (a,aps ts H):=by
 unfold a5n at h
 split at h
 ·rename_i kt e k hu
  split at h
  ·rename_i hf
   split at h
   ·rename_i es clock hk
    split at h
    ·rename_i hfa
     cases h
     obtain⟨ts,g1,g2,g3⟩:=b6z hw hk
     refine⟨ts,g1 M,g2,g3,fun H hs=> ?_⟩
     unfold a5n;rw[hu];simp only[hf,if_true,hs.get _ _ hk,hfa,g1 H]
    ·rename_i hfa
     split at h
     ·rename_i z hz
      cases h
      obtain⟨ts,g1,g2,g3⟩:=b6z hw hk
      refine⟨ts,g1 M,g2,g3,fun H hs=> ?_⟩
      unfold a5n;rw[hu];simp only[hf,if_true,hs.get _ _ hk,hfa,hz,g1 H]
     ·cases h
    ·cases h
   ·cases h
  ·cases h
 ·cases h
theorem c0b(hw:Wf M){m stamp v:AV}{M':AHeap}(h:G5 M m stamp v=some M'):
  ∃ts,M'=aps ts M∧Z1 M ts∧Wf M'∧∀H,Sub M H→G5 H m stamp v=some (aps ts H):=by
 unfold G5 at h
 split at h
 ·rename_i k ik n
  split at h
  ·rename_i es clock hk
   split at h
   ·rename_i i hi
    split at h
    ·rename_i ent hent
     cases h
     obtain⟨ts,g1,g2,g3⟩:=b6z hw hk
     refine⟨ts,g1 M,g2,g3,fun H hs=> ?_⟩
     unfold G5;simp only[hs.get _ _ hk,hi,hent,g1 H]
    ·cases h
   ·cases h
  ·cases h
 ·cases h
theorem c8j(h:Sub M H){t:TypeId}{x ix:AV}{ok:Bool}{a:AV}(e:a3z P M t x ix ok=some a):a3z P H t x ix ok=some a:=by
 unfold a3z at e ⊢
 split at e
 ·split at e
  ·rename_i hf
   rw[if_pos hf]
   simp only[Option.bind_eq_some_iff]at e ⊢
   obtain⟨es,hes,e⟩:=e
   exact⟨es,c6W h hes,e⟩
  ·cases e
 ·cases e
theorem c9n(h:Sub M H){t:TypeId}{x:AV}{n:Nat}(e:a4r P M t x=some n):a4r P H t x=some n:=by
 unfold a4r at e ⊢
 split at e
 ·exact e
 ·split at e
  ·rename_i es c hk;simp only[h.get _ _ hk];exact e
  ·cases e
 ·cases e
theorem d0c(h:Sub M H){t:TypeId}{x:AV}{lo hi mx:Option AV}{a:AV}(e:a2w P M t x lo hi mx=some a):a2w P H t x lo hi mx=some a:=by
 unfold a2w at e ⊢
 split at e
 ·exact e
 ·exact e
 ·exact e
 ·simp only[Option.bind_eq_bind,Option.bind_eq_some_iff]at e ⊢
  obtain⟨size,hs,r,hr,e⟩:=e
  refine⟨size,hs,r,hr, ?_⟩
  split at e
  ·rename_i cs wr pre hk;rw[h.get _ _ hk];exact e
  ·cases e
 ·cases e
theorem c0C(hw:Wf M){t:TypeId}{len:Nat}{ps:List (Nat×AV)}{a:AV}{M':AHeap}(h:O4 P M t len ps=some (a,M')):
  ∃ts,M'=aps ts M∧Z1 M ts∧Wf M'∧∀H,Sub M H→O4 P H t len ps=some (a,aps ts H):=by
 unfold O4 at h
 simp only[Option.bind_eq_bind,Option.bind_eq_some_iff]at h
 obtain⟨e,he,size,hs,h⟩:=h
 split at h
 ·rename_i hn
  simp only[Option.bind_eq_some_iff]at h
  obtain⟨z,hz,h⟩:=h
  split at h
  ·rename_i hzs
   simp only[Option.bind_eq_some_iff]at h
   obtain⟨cs,hcs,h⟩:=h
   cases h
   obtain⟨ts,g1,g2,g3⟩:=a3q hw cs
   refine⟨ts,g1 M (Sub.refl M),g2,g3,fun H hsub=> ?_⟩
   unfold O4
   simp only[Option.bind_eq_bind,he,hs,Option.bind_some,hn,if_true,hz,hzs,hcs,hsub.next,g1 H hsub]
  ·cases h
 ·cases h
theorem c2W(hw:Wf M){t:TypeId}{len cap a:AV}{M':AHeap}(h:O9 P M t len cap=some (a,M')):
  ∃ts,M'=aps ts M∧Z1 M ts∧Wf M'∧∀H,Sub M H→O9 P H t len cap=some (a,aps ts H):=by
 unfold O9 at h
 simp only[Option.bind_eq_bind,Option.bind_eq_some_iff]at h
 obtain⟨e,he,size,hs,b,hb,l,hl,c,hc,z,hz,h⟩:=h
 split at h
 ·rename_i hcond
  cases h
  obtain⟨ts,g1,g2,g3⟩:=a3q hw (rep z.cells c.toNat)
  refine⟨ts,g1 M (Sub.refl M),g2,g3,fun H hsub=> ?_⟩
  unfold O9
  simp only[Option.bind_eq_bind,he,hs,hb,hl,hc,hz,Option.bind_some]
  rw[if_pos hcond,hsub.next,g1 H hsub]
 ·cases h
end
end
section
section
variable{E:j2}{P:Program}{M:AHeap}{T:List AV}{o:Oper}
theorem a0D(hw:Wf M){v:AV}(h:∀H,Sub M H→opA P E T H o=some (.val v H)):c2D P E T o M (.val v M):=
 ⟨[],rfl,Z1.nil _,hw,h⟩
theorem d0g{f:FuncId}{args:List AV}{r:a1v}(h:W1 P M f args=some r):r= .call f args M∧∀H,W1 P H f args=some (.call f args H):=by
 unfold W1 at h
 split at h
 ·rename_i hb
  cases h
  exact⟨rfl,fun H=>by unfold W1;rw[if_pos hb]⟩
 ·cases h
theorem b3H{f:FuncId}{args:List AV}{r:a1v}(h:W1 P M f args=some r)(ho:∀H,Sub M H→opA P E T H o=W1 P H f args):c2D P E T o M r:=by
 obtain⟨rfl,h2⟩:=d0g h
 exact⟨rfl,fun H hs=>(ho H hs).trans (h2 H)⟩
theorem d2Y(hw:Wf M){c:Call}(hop:o.op= .call c){r:a1v}(h:a1f P E M c (l9 T)=some r):c2D P E T o M r:=by
 have ho:∀H,opA P E T H o=a1f P E H c (l9 T):=fun H=>by unfold opA;simp only[hop]
 unfold a1f at h
 simp only at h
 split at h
 ·rename_i f hc
  split at h
  ·rename_i g first captured hf
   exact b3H h fun H _=>by rw[ho];unfold a1f;simp only[hc,hf]
  ·rename_i name first captured hf
   split at h
   ·rename_i t v rest _ hl
    simp only[Option.bind_eq_some_iff]at h
    obtain⟨⟨g,x⟩,hm,h⟩:=h
    refine b3H h fun H hs=> ?_
    rw[ho];unfold a1f;simp only[hc,hf,hl,b9T hs hm,Option.bind_some]
   ·cases h
  ·rename_i t path g pointer first captured hf
   split at h
   ·rename_i x rest _ hp hl hu
    split at h
    ·rename_i hptr
     refine b3H h fun H hs=> ?_
     rw[ho];unfold a1f;simp only[hc,hf,hl,hp,hu,hptr,if_true]
    ·cases h
   ·cases h
  ·cases h
 ·rename_i recv name hc
  split at h
  ·rename_i t v hf
   simp only[Option.bind_eq_some_iff]at h
   obtain⟨⟨g,x⟩,hm,h⟩:=h
   refine b3H h fun H hs=> ?_
   rw[ho];unfold a1f;simp only[hc,hf,b9T hs hm,Option.bind_some]
  ·cases h
 ·rename_i b hc
  split at h
  ·rename_i s x sT xT h1 h2
   simp only[Option.map_eq_some_iff]at h
   obtain⟨⟨a,M'⟩,ha,rfl⟩:=h
   obtain⟨ts,g1,g2,g3,g4⟩:=c8G hw ha
   exact⟨ts,g1,g2,g3,fun H hs=>by rw[ho];unfold a1f;simp only[hc,h1,h2,g4 H hs,Option.map_some]⟩
  ·rename_i x t h1 h2
   split at h
   ·rename_i n hn
    cases h
    exact a0D hw fun H hs=>by rw[ho];unfold a1f;simp only[hc,h1,h2,hn]
   ·rename_i hn
    simp only[Option.map_eq_some_iff]at h
    obtain⟨n,hm,rfl⟩:=h
    exact a0D hw fun H hs=>by rw[ho];unfold a1f;simp only[hc,h1,h2,hn,c9n hs hm,Option.map_some]
  ·rename_i x t h1 h2
   simp only[Option.map_eq_some_iff]at h
   obtain⟨n,hm,rfl⟩:=h
   exact a0D hw fun H hs=>by rw[ho];unfold a1f;simp only[hc,h1,h2,hm,Option.map_some]
  ·rename_i d x dT _ h1 h2
   simp only[Option.map_eq_some_iff]at h
   obtain⟨⟨a,M'⟩,ha,rfl⟩:=h
   obtain⟨ts,g1,g2,g3,g4⟩:=d3i hw ha
   exact⟨ts,g1,g2,g3,fun H hs=>by rw[ho];unfold a1f;simp only[hc,h1,h2,g4 H hs,Option.map_some]⟩
  ·simp only[Option.map_eq_some_iff]at h
   obtain⟨n,hm,rfl⟩:=h
   exact a0D hw fun H hs=>by rw[ho];unfold a1f;simp only[hc,hm,Option.map_some]
  ·simp only[Option.map_eq_some_iff]at h
   obtain⟨n,hm,rfl⟩:=h
   exact a0D hw fun H hs=>by rw[ho];unfold a1f;simp only[hc,hm,Option.map_some]
  ·cases h
theorem c7q(f:AHeap→Option (AV×AHeap)){r:a1v}(ho:∀H,opA P E T H o=(f H).map fun x=> .val x.1 x.2)(h:(f M).map (fun x=>a1v.val x.1 x.2)=some r)
  (ht:∀a M',f M=some (a,M')→∃ts,M'=aps ts M∧Z1 M ts∧Wf M'∧∀H,Sub M H→f H=some (a,aps ts H)):c2D P E T o M r:=by
 simp only[Option.map_eq_some_iff]at h
 obtain⟨⟨a,M'⟩,ha,rfl⟩:=h
 obtain⟨ts,g1,g2,g3,g4⟩:=ht a M' ha
 exact⟨ts,g1,g2,g3,fun H hs=>by rw[ho,g4 H hs];rfl⟩
theorem d1x(f:AHeap→Option AHeap){r:a1v}(ho:∀H,opA P E T H o=(f H).map fun x=> .val C1 x)(h:(f M).map (fun x=>a1v.val C1 x)=some r)
  (ht:∀M',f M=some M'→∃ts,M'=aps ts M∧Z1 M ts∧Wf M'∧∀H,Sub M H→f H=some (aps ts H)):c2D P E T o M r:=by
 simp only[Option.map_eq_some_iff]at h
 obtain⟨M',ha,rfl⟩:=h
 obtain⟨ts,g1,g2,g3,g4⟩:=ht M' ha
 exact⟨ts,g1,g2,g3,fun H hs=>by rw[ho,g4 H hs];rfl⟩
theorem b0X(hw:Wf M)(f:AHeap→Option AV){r:a1v}(ho:∀H,opA P E T H o=(f H).map fun x=> .val x H)(h:(f M).map (fun x=>a1v.val x M)=some r)
  (ht:∀a,f M=some a→∀H,Sub M H→f H=some a):c2D P E T o M r:=by
 simp only[Option.map_eq_some_iff]at h
 obtain⟨a,ha,rfl⟩:=h
 exact a0D hw fun H hs=>by rw[ho,ht a ha H hs];rfl
theorem d2e(hw:Wf M){r:a1v}(h:opA P E T M o=some r):c2D P E T o M r:=by
 unfold opA at h
 simp only at h
 split at h
 case h_1 x hop=>
  cases h;exact a0D hw fun H hs=>by unfold opA;simp only[hop]
 case h_2 x hop=>
  cases h;exact a0D hw fun H hs=>by unfold opA;simp only[hop]
 case h_3 c a b hop=>
  split at h
  ·rename_i t ht
   cases h;exact a0D hw fun H hs=>by unfold opA;simp only[hop,ht]
  ·cases h
 case h_4 e hop=>
  split at h
  ·rename_i z hz
   cases h
   obtain⟨ts,g1,g2,g3⟩:=a3q hw z.cells
   exact⟨ts,g1 M (Sub.refl M),g2,g3,fun H hs=>by unfold opA;simp only[hop,hz,hs.next,g1 H hs]⟩
  ·cases h
 case h_5 t x hop=>
  cases h
  obtain⟨ts,g1,g2,g3⟩:=a3q hw (l9 T x).cells
  exact⟨ts,g1 M (Sub.refl M),g2,g3,fun H hs=>by unfold opA;simp only[hop,hs.next,g1 H hs]⟩
 case h_6 t parts hop=>
  exact b0X hw (fun H=>b3i P t (parts.toList.map fun(p:Nat×Operand)=>(p.1,l9 T p.2))) (fun H=>by unfold opA;simp only[hop]) h fun a e H hs=>e
 case h_7 t len parts hop=>
  exact c7q (fun H=>O4 P H t len (parts.toList.map fun(p:Nat×Operand)=>(p.1,l9 T p.2))) (fun H=>by unfold opA;simp only[hop]) h fun a M' e=>c0C hw e
 case h_8 t a hop=>
  split at h
  ·rename_i o1 i ha
   exact b0X hw (fun H=>L9 P E H t o1 i) (fun H=>by unfold opA;simp only[hop,ha]) h fun a e H hs=>b7M hs e
  ·cases h
 case h_9 t a x hop=>
  split at h
  ·rename_i o1 i ha
   split at h
   ·rename_i hsz
    exact d1x (fun H=>B6 H o1 i (l9 T x).cells) (fun H=>by unfold opA;simp only[hop,ha,hsz,if_true]) h fun M' e=>b2Q hw e
   ·cases h
  ·cases h
 case h_10 x hop=>
  split at h
  all_goals first|(cases h;done)|skip
  rename_i g1 g2 g3 g4 g5
  cases h
  refine a0D hw fun H hs=> ?_
  unfold opA;simp only[hop]
 case h_11 op t x y _w hop=>
  split at h
  ·rename_i hg
   exact b0X hw (fun H=>b5b P op t (l9 T x) (l9 T y)) (fun H=>by unfold opA;simp only[hop,hg,if_true]) h fun a e H hs=>e
  ·cases h
 case h_12 op _t x hop=>
  exact b0X hw (fun H=>unA op (l9 T x)) (fun H=>by unfold opA;simp only[hop]) h fun a e H hs=>e
 case h_13 src dst x hop=>
  exact c7q (fun H=>P0 P E H src dst (l9 T x)) (fun H=>by unfold opA;simp only[hop]) h fun a M' e=>d2K hw e
 case h_14 t x hop=>
  split at h
  ·cases h
  ·rename_i u hne hu
   cases h;exact a0D hw fun H hs=>by unfold opA;simp only[hop,hu]
  ·cases h
 case h_15 fn first captured hop=>
  cases h;exact a0D hw fun H hs=>by unfold opA;simp only[hop]
 case h_16 _t r hop=>
  split at h
  ·cases h
   obtain⟨ts,g1,g2,g3⟩:=b3t hw (o:= .map [] 0) (by simp[A5])
   exact⟨ts,g1 M (Sub.refl M),g2,g3,fun H hs=>by unfold opA;simp only[hop,hs.next,g1 H hs]⟩
  ·cases h
 case h_17 t l c hop=>
  exact c7q (fun H=>O9 P H t (l9 T l) (l9 T c)) (fun H=>by unfold opA;simp only[hop]) h fun a M' e=>c2W hw e
 case h_18 t x lo hi mx hop=>
  exact b0X hw (fun H=>a2w P H t (l9 T x) (lo.map (l9 T)) (hi.map (l9 T)) (mx.map (l9 T))) (fun H=>by unfold opA;simp only[hop]) h fun a e H hs=>d0c hs e
 case h_19 s x f hop=>
  exact b0X hw (fun H=>a6j P s (l9 T x) f) (fun H=>by unfold opA;simp only[hop]) h fun a e H hs=>e
 case h_20 s x f hop=>
  exact b0X hw (fun H=>b5S P s (l9 T x) f) (fun H=>by unfold opA;simp only[hop]) h fun a e H hs=>e
 case h_21 t x ix hop=>
  exact b0X hw (fun H=>a2m P t (l9 T x) (l9 T ix)) (fun H=>by unfold opA;simp only[hop]) h fun a e H hs=>e
 case h_22 t x ix hop=>
  exact b0X hw (fun H=>b1R P t (l9 T x) (l9 T ix)) (fun H=>by unfold opA;simp only[hop]) h fun a e H hs=>e
 case h_23 t x ix ok hop=>
  exact b0X hw (fun H=>a3z P H t (l9 T x) (l9 T ix) ok) (fun H=>by unfold opA;simp only[hop]) h fun a e H hs=>c8j hs e
 case h_24 t m k x hop=>
  exact d1x (fun H=>Z8 P H t (l9 T m) (l9 T k) (l9 T x)) (fun H=>by unfold opA;simp only[hop]) h fun M' e=>b9O hw e
 case h_25 t m k x hop=>
  exact d1x (fun H=>Z8 P H t (l9 T m) (l9 T k) (l9 T x)) (fun H=>by unfold opA;simp only[hop]) h fun M' e=>b9O hw e
 case h_26 t m k hop=>
  exact c7q (fun H=>a5n P H t (l9 T m) (l9 T k)) (fun H=>by unfold opA;simp only[hop]) h fun a M' e=>c9O hw e
 case h_27 _t m s x hop=>
  exact d1x (fun H=>G5 H (l9 T m) (l9 T s) (l9 T x)) (fun H=>by unfold opA;simp only[hop]) h fun M' e=>c0b hw e
 case h_28 x _t asserted ok hop=>
  exact b0X hw (fun H=>b0B P (l9 T x) asserted ok) (fun H=>by unfold opA;simp only[hop]) h fun a e H hs=>e
 case h_29 t ix hop=>
  split at h
  ·rename_i vs hv
   exact b0X hw (fun H=>vs[ix]?) (fun H=>by unfold opA;simp only[hop,hv]) h fun a e H hs=>e
  ·cases h
 case h_30 c hop=>exact d2Y hw hop h
 case h_31=>cases h
end
end
section
section
variable{E:j2}{P:Program}
theorem c8J{T T':List AV}{H:AHeap}(c:Call)(h:∀x∈c.operands,l9 T x=l9 T' x):a1f P E H c (l9 T)=a1f P E H c (l9 T'):=by
 have hargs:c.args.toList.map (l9 T)=c.args.toList.map (l9 T'):=List.map_congr_left fun x hx=>h x (by
  have:x∈c.args:=by simpa using hx
  simp[Call.operands,this])
 unfold a1f
 simp only[hargs]
 cases hc:c.callee with
 |value f=>have hf:l9 T f=l9 T' f:=h f (by simp[Call.operands,hc]);simp only[hf]
 |invoke r m=>have hr:l9 T r=l9 T' r:=h r (by simp[Call.operands,hc]);simp only[hr]
 |builtin b=>rfl
theorem d2y{T T':List AV}{H:AHeap}(o:Oper)(h:∀x∈o.op.operands,l9 T x=l9 T' x):opA P E T H o=opA P E T' H o:=by
 obtain⟨dst,op,type,pos,after,guard⟩:=o
 have pairs:∀ps:Array (Nat×Operand),(∀x∈ps.map (·.2),l9 T x=l9 T' x)→
   (ps.toList.map fun(p:Nat×Operand)=>(p.1,l9 T p.2))=(ps.toList.map fun(p:Nat×Operand)=>(p.1,l9 T' p.2)):=fun ps hp=>
  List.map_congr_left fun p hm=>by
   obtain⟨i,x⟩:=p
   simp only[hp x (Array.mem_map.2 ⟨(i,x),by simpa using hm,rfl⟩)]
 cases op<;>simp only[Op.operands]at h<;>simp only[opA]
 case build t ps=>rw[pairs ps fun x hx=>h x (by simpa using hx)]
 case buildSlice t n ps=>rw[pairs ps fun x hx=>h x (by simpa using hx)]
 case makeFunc fn first captured=>
  rw[List.map_congr_left (l:=first.toList) fun x hx=>h x (by have:x∈first:=by simpa using hx
                                                             simp[this]),List.map_congr_left (l:=captured.toList) fun x hx=>h x (by have:x∈captured:=by simpa using hx
                                                                                                                                    simp[this])]
 case call c=>rw[c8J c h]
 case slice t x lo hi mx=>cases lo<;>cases hi<;>cases mx<;>simp_all
 all_goals (first|rfl|(simp_all;done))
def c3S(ops:Array Oper)(o:Oper)(T T':List AV):Prop:=∀t∈o.looksAt ops,T[t]? =T'[t]?
theorem c3S.eval{ops:Array Oper}{o:Oper}{T T':List AV}(h:c3S ops o T T'):∀x∈o.op.operands,l9 T x=l9 T' x:=by
 intro x hx
 cases x with
 |tmp t=>
  have:=h t (List.mem_append_left _ (List.mem_filterMap.2 ⟨.tmp t,by simpa using hx,rfl⟩))
  simp only[l9,List.getD_eq_getElem?_getD,this]
 |_=>rfl
theorem c3S.wanted{ops:Array Oper}{o:Oper}{T T':List AV}(h:c3S ops o T T'):a1e ops T o=a1e ops T' o:=by
 unfold a1e
 cases hg:o.guard with
 |none=>rfl
 |some gw=>
  obtain⟨g,want⟩:=gw
  simp only
  cases ht:(ops[g]?).bind (·.dst) with
  |none=>rfl
  |some t=>
   have:=h t (by simp[Oper.looksAt,hg,ht])
   simp only[this]
variable{call:b4E}
def c8o(H:AHeap)(a b:Nat):Prop:=∀k,a≤k→k<b→H.get k=none
def d1F(call:b4E):Prop:=∀f args M v M',Wf M→call f args M=some (v,M')→
 ∃ts,M'=aps ts M∧Z1 M ts∧Wf M'∧∀H,Sub M H→c8o H M.next M'.next→call f args H=some (v,aps ts H)
theorem d7a(t:Tr)(H:AHeap)(k:Nat):(t.ap H).get k=match t with
  | .put j o _=>if j=k then o else H.get k
  | .next _=>H.get k:=by
 cases t with
 |put j o lg=>simp only[Tr.ap,AHeap.get,Trie.get_set]
 |next n=>rfl
theorem b4M:∀(ts:List Tr) (H:AHeap) (k:Nat),(∀o lg,Tr.put k o lg ∉ ts)→(aps ts H).get k=H.get k
 | [],H,k,_=>rfl
 |t::ts,H,k,h=>by
  rw[aps,b4M ts _ k fun o lg hm=>h o lg (List.mem_cons_of_mem _ hm),d7a]
  cases t with
  |put j o lg=>
   simp only
   split
   ·rename_i e;subst e;exact(h o lg List.mem_cons_self).elim
   ·rfl
  |next n=>rfl
theorem b9A:∀(ts:List Tr) {A B:AHeap},A.next=B.next→(aps ts A).next=(aps ts B).next
 | [],_,_,h=>h
 |t::ts,A,B,h=>b9A ts (by cases t<;>first|exact h|rfl)
theorem d1N:∀(ts:List Tr) (A:AHeap) (k:Nat),k∈(aps ts A).log↔k∈A.log∨∃o,Tr.put k o true∈ts
 | [],A,k=>by simp[aps]
 |t::ts,A,k=>by
  rw[aps,d1N ts]
  cases t with
  |put j o lg=>
   cases lg with
   |true=>
    simp only[Tr.ap,if_true,List.mem_cons]
    constructor
    ·rintro((rfl|h)|⟨x,h⟩)
     ·exact .inr ⟨o, .inl rfl⟩
     ·exact .inl h
     ·exact .inr ⟨x, .inr h⟩
    ·rintro(h|⟨x,h|h⟩)
     ·exact .inl (.inr h)
     ·cases h;exact .inl (.inl rfl)
     ·exact .inr ⟨x,h⟩
   |false=>simp[Tr.ap]
  |next n=>simp[Tr.ap]
theorem c8o.sub{M H:AHeap}(_:Wf M){a b c d:Nat}(h:c8o H a b)(h1:a≤c)(h2:d≤b):c8o H c d:=fun k x y=>h k (by omega) (by omega)
theorem Z1.free{M H:AHeap}{ts:List Tr}(ht:Z1 M ts){a b:Nat}(h1:(aps ts M).next≤a)(h:c8o H a b):c8o (aps ts H) a b:=by
 intro k hk1 hk2
 rw[b4M ts H k fun o lg hm=> ?_,h k hk1 hk2]
 have:=(ht.2 k o lg hm).2
 omega
theorem d2w(hc:d1F call){ops:Array Oper}{T:List AV}{o:Oper}{M M':AHeap}{v:AV}(hw:Wf M)(h:b7g P E call ops T M o=some (v,M')):
  ∃ts,M'=aps ts M∧Z1 M ts∧Wf M'∧∀H,Sub M H→c8o H M.next M'.next→b7g P E call ops T H o=some (v,aps ts H):=by
 unfold b7g at h
 split at h
 ·rename_i hwt
  split at h
  ·rename_i v1 H1 h1
   cases h
   obtain⟨ts,g1,g2,g3,g4⟩:=d2e hw h1
   exact⟨ts,g1,g2,g3,fun H hs _=>by unfold b7g;simp only[hwt,g4 H hs]⟩
  ·rename_i f args H1 h1
   obtain⟨rfl,g4⟩:=d2e hw h1
   obtain⟨ts,k1,k2,k3,k4⟩:=hc _ _ _ _ _ hw h
   exact⟨ts,k1,k2,k3,fun H hs hf=>by unfold b7g;simp only[hwt,g4 H hs];exact k4 H hs hf⟩
  ·cases h
 ·rename_i hwt
  cases h
  exact⟨[],rfl,Z1.nil _,hw,fun H hs _=>by unfold b7g;simp only[hwt];rfl⟩
 ·cases h
end
end
section
mutual
theorem c1R:∀(a b:AV),a2I a b=true→a=b
 | .bool a,b,h=>by cases b<;>simp_all [a2I]
 | .int j a,b,h=>by cases b<;>simp_all [a2I]
 | .str a,b,h=>by cases b<;>simp_all [a2I]
 | .nilPtr,b,h=>by cases b<;>simp_all [a2I]
 | .ptr o i,b,h=>by cases b<;>simp_all [a2I]
 | .nilSlc,b,h=>by cases b<;>simp_all [a2I]
 | .slc ..,b,h=>by cases b<;>simp_all [a2I]
 | .nilMap,b,h=>by cases b<;>simp_all [a2I]
 | .map k,b,h=>by cases b<;>simp_all [a2I]
 | .fn f x y,b,h=>by
  cases b<;>simp only[a2I,Bool.and_eq_true,decide_eq_true_eq]at h<;>try (cases h;done)
  obtain⟨⟨rfl,h1⟩,h2⟩:=h
  rw[a9e x _ h1,a9e y _ h2]
 | .nilFn,b,h=>by cases b<;>simp_all [a2I]
 | .ifc t v,b,h=>by
  cases b<;>simp only[a2I,Bool.and_eq_true,beq_iff_eq]at h<;>try (cases h;done)
  obtain⟨rfl,h2⟩:=h
  rw[c1R v _ h2]
 | .nilIfc,b,h=>by cases b<;>simp_all [a2I]
 | .agg x,b,h=>by
  cases b<;>simp only[a2I]at h<;>try (cases h;done)
  rw[a9e x _ h]
 | .tup x,b,h=>by
  cases b<;>simp only[a2I]at h<;>try (cases h;done)
  rw[a9e x _ h]
 | .opq v,b,h=>by cases b<;>simp_all [a2I]
theorem a9e:∀(a b:List AV),b6c a b=true→a=b
 | [],b,h=>by cases b<;>simp_all [b6c]
 |x::l,b,h=>by
  cases b<;>simp only[b6c,Bool.and_eq_true]at h<;>try (cases h;done)
  rw[c1R x _ h.1,a9e l _ h.2]
end
theorem d4d{a b:Option L0}(h:d4X a b=true):a=b:=by
 unfold d4X at h
 split at h
 ·rfl
 ·simp only[Bool.and_eq_true,beq_iff_eq]at h
  obtain⟨⟨h1,rfl⟩,rfl⟩:=h
  rw[a9e _ _ h1]
 ·simp only[beq_iff_eq]at h;rw[h]
 ·cases h
theorem c5N:∀ {a b:List (Nat×Option L0)},c2A a b=true→a=b
 | [],b,h=>by cases b<;>simp_all [c2A]
 |x::l,b,h=>by
  cases b<;>simp only[c2A,Bool.and_eq_true,beq_iff_eq]at h<;>try (cases h;done)
  obtain⟨⟨h1,h2⟩,h3⟩:=h
  rw[c5N h3,show x=_ from Prod.ext h1 (d4d h2)]
theorem a5W{p:Nat→s7→Bool}:∀ {ds:List s7} {j:Nat},d0E p j ds=true→∀(i:Nat) (d:s7),ds[i]? =some d→p (j+i) d=true
 | [],j,_,i,d,e=>by simp at e
 |x::ds,j,h,i,d,e=>by
  simp only[d0E,Bool.and_eq_true]at h
  cases i with
  |zero=>simp at e;subst e;exact h.1
  |succ i=>
   have:=a5W h.2 i d (by simpa using e)
   rwa [show j+(i+1)=j+1+i by omega]
theorem c8d{lo hi:Nat}{H:AHeap}:∀x∈c9i lo hi H,x.2=H.get x.1:=by
 intro x hx
 simp only[c9i,List.mem_map]at hx
 obtain⟨k,_,rfl⟩:=hx
 rfl
theorem c8Q{lo hi:Nat}{H:AHeap}{k:Nat}:k∈(c9i lo hi H).map (·.1)↔(k∈H.log∧k<lo)∨(lo≤k∧k<hi∧(H.get k).isSome=true):=by
 simp only[c9i,List.map_map,Function.comp_def,List.map_id',List.mem_append,List.mem_filter,decide_eq_true_eq,List.mem_range'_1]
 constructor
 ·rintro(h|⟨⟨h1,h2⟩,h3⟩)
  ·exact .inl h
  ·exact .inr ⟨h1,by omega,h3⟩
 ·rintro(h|⟨h1,h2,h3⟩)
  ·exact .inl h
  ·exact .inr ⟨⟨h1,by omega⟩,h3⟩
theorem c9B(H:AHeap)(lg:List Nat)(k j:Nat)(x:Option L0):({ H with objs:=H.objs.set k x,log:=lg }:AHeap).get j=if k=j then x else H.get j:=by
 simp only[AHeap.get,Trie.get_set]
theorem d2h{lim:Nat}{x:Option L0}{o:L0}(h:d3x lim x=some o):x=some o∧∀p∈A5 o,p<lim:=by
 cases x with
 |none=>cases h
 |some y=>
  simp only[d3x]at h
  split at h
  ·rename_i hp
   cases h
   exact⟨rfl,fun p hm=>by simpa using List.all_eq_true.1 hp p hm⟩
  ·cases h
theorem b9v{lim:Nat}:∀(kv:List (Nat×Option L0)) {A:AHeap} {k:Nat},lim≤k→(c5y lim kv A).get k=A.get k
 | [],A,k,_=>rfl
 |x::l,A,k,h=>by
  rw[c5y,b9v l h]
  split
  ·rw[show({ A with objs:=A.objs.set x.1 (d3x lim x.2) }:AHeap).get k=_ from c9B A A.log x.1 k _,if_neg (by omega)]
  ·rfl
theorem b9B{lim:Nat}{p:Nat→s7→Bool}:∀(ds:List s7) (j:Nat) {A:AHeap} {k:Nat},lim≤k→(a6Q lim p j ds A).get k=A.get k
 | [],_,A,k,_=>rfl
 |d::ds,j,A,k,h=>by
  rw[a6Q,b9B ds _ h]
  split
  ·exact b9v _ h
  ·rfl
theorem c5H{lim:Nat}:∀(kv:List (Nat×Option L0)) {A:AHeap},(∀k o,A.get k=some o→∀p∈A5 o,p<lim)→∀k o,(c5y lim kv A).get k=some o→∀p∈A5 o,p<lim
 | [],A,h=>h
 |x::l,A,h=>by
  simp only[c5y]
  refine c5H l ?_
  split
  ·intro k o hk
   rw[show({ A with objs:=A.objs.set x.1 (d3x lim x.2) }:AHeap).get k=_ from c9B A A.log x.1 k _]at hk
   split at hk
   ·exact(d2h hk).2
   ·exact h k o hk
  ·exact h
theorem c5j{lim:Nat}{p:Nat→s7→Bool}:∀(ds:List s7) (j:Nat) {A:AHeap},(∀k o,A.get k=some o→∀p∈A5 o,p<lim)→∀k o,(a6Q lim p j ds A).get k=some o→∀p∈A5 o,p<lim
 | [],_,A,h=>h
 |d::ds,j,A,h=>by
  simp only[a6Q]
  refine c5j ds (j+1) ?_
  split
  ·exact c5H _ h
  ·exact h
theorem d5Y{M:AHeap}(hw:Wf M){lim:Nat}(hl:M.next≤lim)(p:Nat→s7→Bool)(j:Nat)(ds:List s7):Wf (atN (a6Q lim p j ds M) lim):=
 ⟨fun k hk=>by
  show(a6Q lim p j ds M).get k=none
  have hk':lim≤k:=hk
  rw[b9B ds j hk']
  exact hw.1 k (Nat.le_trans hl hk),
  fun k o hk=>c5j ds j (fun k o e q hq=>Nat.lt_of_lt_of_le (hw.2 k o e q hq) hl) k o hk⟩
structure Ok (d:s7):Prop where
 le:d.lo≤d.hi
 val:∃g:Nat→Option L0,∀x∈d.kv,x.2=g x.1
 key:∀k∈d.kv.map (·.1),k<d.hi
 new:d.wr=false→∀k∈d.kv.map (·.1),d.lo≤k
 pre:∀k o,(k,some o)∈d.kv→∀p∈A5 o,p<d.hi
def Ch:Nat→List s7→Nat→Prop
 |a,[],n=>a=n
 |a,d::ds,n=>d.lo=a∧Ok d∧Ch d.hi ds n
theorem Ch.le:∀ {ds:List s7} {a n:Nat},Ch a ds n→a≤n
 | [],a,n,h=>by simp only[Ch]at h;omega
 |d::ds,a,n,h=>by
  obtain⟨h1,h2,h3⟩:=h
  have:=h3.le;have:=h2.le;omega
theorem Ch.snoc:∀ {ds:List s7} {a:Nat} {d:s7},Ch a ds d.lo→Ok d→Ch a (ds++[d]) d.hi
 | [],a,d,h,hd=>by simp only[Ch]at h;exact⟨h.symm,hd,rfl⟩
 |e::ds,a,d,h,hd=>⟨h.1,h.2.1,Ch.snoc h.2.2 hd⟩
theorem Ch.at:∀ {ds:List s7} {a n:Nat},Ch a ds n→∀(i:Nat) (d:s7),ds[i]? =some d→Ok d∧a≤d.lo∧d.hi≤n
 | [],a,n,h,i,d,e=>by simp at e
 |x::ds,a,n,h,i,d,e=>by
  obtain⟨h1,h2,h3⟩:=h
  cases i with
  |zero=>simp at e;subst e;exact⟨h2,by omega,h3.le⟩
  |succ i=>
   obtain⟨g1,g2,g3⟩:=h3.at i d (by simpa using e)
   exact⟨g1,by have:=h2.le;omega,g3⟩
theorem Ch.lt:∀ {ds:List s7} {a n:Nat},Ch a ds n→∀(i j:Nat) (d e:s7),i<j→ds[i]? =some d→ds[j]? =some e→d.hi≤e.lo
 | [],a,n,h,i,j,d,e,_,hd,_=>by simp at hd
 |x::ds,a,n,h,i,j,d,e,hij,hd,he=>by
  obtain⟨h1,h2,h3⟩:=h
  cases j with
  |zero=>omega
  |succ j=>
   cases i with
   |zero=>simp at hd;subst hd;exact(h3.at j e (by simpa using he)).2.1
   |succ i=>exact h3.lt i j d e (by omega) (by simpa using hd) (by simpa using he)
end
section
def C2(D:Nat→Bool):Nat→List s7→List AV→List AV
 |_,[],T=>T
 |j,d::ds,T=>C2 D (j+1) ds (if D j then a3c T d.o.dst d.v else T)
theorem a7W{D D':Nat→Bool}:∀(ds:List s7) (j:Nat) (T:List AV),(∀m,j≤m→m<j+ds.length→D m=D' m)→C2 D j ds T=C2 D' j ds T
 | [],_,_,_=>rfl
 |d::ds,j,H,h=>by
  simp only[C2]
  rw[h j (Nat.le_refl _) (by simp),a7W ds (j+1) _ fun m h1 h2=>h m (by omega) (by simp only[List.length_cons];omega)]
theorem d3a{a b:Option Tmp}{v u:AV}(T:List AV)(h:∀x,a=some x→b≠some x):a3c (a3c T a v) b u=a3c (a3c T b u) a v:=by
 cases a with
 |none=>rfl
 |some x=>
  cases b with
  |none=>rfl
  |some y=>
   simp only[a3c]
   exact List.set_comm _ _ (fun e=>h x rfl (by rw[e]))
theorem c5E{D:Nat→Bool}{dst:Option Tmp}{v:AV}:∀(ds:List s7) (j:Nat) (T:List AV),(∀(i:Nat) (d:s7),ds[i]? =some d→D (j+i)=true→∀x,dst=some x→d.o.dst≠some x)→
  C2 D j ds (a3c T dst v)=a3c (C2 D j ds T) dst v
 | [],_,_,_=>rfl
 |d::ds,j,T,h=>by
  simp only[C2]
  rw[←c5E ds (j+1) _ fun i e he hD=>h (i+1) e (by simpa using he) (by rwa [show j+(i+1)=j+1+i by omega])]
  split
  ·rename_i hj
   rw[d3a T (h 0 d rfl (by simpa using hj))]
  ·rfl
theorem b6o{D:Nat→Bool}{d:s7}:∀(ds:List s7) (j i:Nat) (T:List AV),ds[i]? =some d→D (j+i)=false→
  (∀(m:Nat) (e:s7),i<m→ds[m]? =some e→D (j+m)=true→∀x,d.o.dst=some x→e.o.dst≠some x)→
  C2 (fun x=>x==j+i||D x) j ds T=a3c (C2 D j ds T) d.o.dst d.v
 | [],_,_,_,h,_,_=>by simp at h
 |x::ds,j,0,T,h,hD,hdis=>by
  simp at h
  subst h
  have hD':D j=false:=hD
  simp only[C2,Nat.add_zero,beq_self_eq_true,Bool.true_or,if_true,hD',Bool.false_eq_true,if_false]
  rw[a7W (D:=fun x=>x==j||D x) (D':=D) ds (j+1) _ (fun m h1 h2=>by
   have:(m==j)=false:=by simp;omega
   simp only[this,Bool.false_or])]
  exact c5E ds (j+1) _ (fun i e he hDi=>hdis (i+1) e (by omega) (by simpa using he) (by rwa [show j+(i+1)=j+1+i by omega]))
 |x::ds,j,i+1,T,h,hD,hdis=>by
  simp only[C2]
  have e0:(j==j+(i+1)||D j)=D j:=by
   have:(j==j+(i+1))=false:=by simp
   rw[this,Bool.false_or]
  simp only[e0]
  rw[show j+(i+1)=j+1+i by omega]
  exact b6o ds (j+1) i _ (by simpa using h) (by rwa [show j+1+i=j+(i+1) by omega])
   (fun m e hm he hDm=>hdis (m+1) e (by omega) (by simpa using he) (by rwa [show j+(m+1)=j+1+m by omega]))
theorem c4Q{T U:List AV}{t:Nat}(h:T[t]? =U[t]?)(dst:Option Tmp)(v:AV):(a3c T dst v)[t]? =(a3c U dst v)[t]? :=by
 cases dst with
 |none=>exact h
 |some d=>
  simp only[a3c,List.getElem?_set]
  by_cases e:d=t
  ·subst e
   have:d<T.length↔d<U.length:=by
    constructor
    ·intro e;refine Nat.lt_of_not_le fun e'=> ?_
     rw[List.getElem?_eq_getElem e,List.getElem?_eq_none e']at h;cases h
    ·intro e;refine Nat.lt_of_not_le fun e'=> ?_
     rw[List.getElem?_eq_getElem e,List.getElem?_eq_none e']at h;cases h
   simp only[if_true,this]
  ·simp only[e,if_false,h]
theorem a8I{T:List AV}{t:Nat}{dst:Option Tmp}(v:AV)(h:dst≠some t):(a3c T dst v)[t]? =T[t]? :=by
 cases dst with
 |none=>rfl
 |some d=>simp only[a3c];rw[List.getElem?_set_ne (fun e=>h (by rw[e]))]
theorem b2U{D D':Nat→Bool}{t:Nat}:∀(ds:List s7) (j:Nat) (A B:List AV),(∀(i:Nat) (d:s7),ds[i]? =some d→D (j+i)≠D' (j+i)→d.o.dst≠some t)→A[t]? =B[t]? →
  (C2 D j ds A)[t]? =(C2 D' j ds B)[t]?
 | [],_,_,_,_,h=>h
 |d::ds,j,A,B,hd,h=>by
  simp only[C2]
  refine b2U ds (j+1) _ _ (fun i e he hne=>hd (i+1) e (by simpa using he) (by rwa [show j+(i+1)=j+1+i by omega])) ?_
  have h0:=hd 0 d rfl
  simp only[Nat.add_zero]at h0
  cases h1:D j<;>cases h2:D' j
  ·exact h
  ·simp only[Bool.false_eq_true,if_false,if_true]
   rw[a8I _ (h0 (by rw[h1,h2];decide)),h]
  ·simp only[Bool.false_eq_true,if_false,if_true]
   rw[a8I _ (h0 (by rw[h1,h2];decide)),h]
  ·exact c4Q h _ _
theorem a9w{D:Nat→Bool}:∀(ds:List s7) (j:Nat) (T:List AV),(∀m,j≤m→D m=false)→C2 D j ds T=T
 | [],_,_,_=>rfl
 |d::ds,j,T,h=>by
  simp only[C2,h j (Nat.le_refl _),Bool.false_eq_true,if_false]
  exact a9w ds (j+1) T fun m hm=>h m (by omega)
theorem c1D:∀(ds:List s7) (i j:Nat) (T:List AV),C2 (fun _=>true) j (ds.take i) T=C2 (fun x=>decide (x<j+i)) j ds T
 | [],i,j,T=>by simp[C2]
 |d::ds,0,j,T=>by
  simp only[List.take_zero,C2.eq_1]
  exact(a9w (d::ds) j T fun m hm=>by simp;omega).symm
 |d::ds,i+1,j,T=>by
  have e1:decide (j<j+(i+1))=true:=by simp
  simp only[List.take_succ_cons,C2,if_true,e1]
  rw[c1D ds i (j+1),show j+1+i=j+(i+1) by omega]
theorem b9K{lim:Nat}{p q:Nat→s7→Bool}:∀(ds:List s7) (j:Nat) (A:AHeap),(∀(i:Nat) (d:s7),ds[i]? =some d→p (j+i) d=q (j+i) d)→a6Q lim p j ds A=a6Q lim q j ds A
 | [],_,_,_=>rfl
 |d::ds,j,A,h=>by
  simp only[a6Q]
  rw[show p j d=q j d from h 0 d rfl]
  exact b9K ds (j+1) _ fun i e he=>by
   have:=h (i+1) e (by simpa using he)
   rwa [show j+(i+1)=j+1+i by omega]at this
end
end Go.Am
end
