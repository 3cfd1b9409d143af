/- A part of the proof of ImageWrites. -/
import Derived.Test.YtchnpgddpaonhaaGreatWac
import Derived.LoopN
import Derived.WalkKit
import Derived.ProofKit
import Derived.OpenShut
set_option linter.unusedVariables false
set_option linter.unusedSimpArgs false
set_option maxRecDepth 100000
section
namespace Go.Am
section
inductive Tr where
 |put (k:Nat) (o:Option X7) (lg:Bool)
 |next (n:Nat)
def Tr.ap:Tr→AHeap→AHeap
 | .put k o lg,H=> { H with objs:=H.objs.set k o,log:=if lg then k::H.log else H.log }
 | .next n,H=> { H with next:=n }
def aps:List Tr→AHeap→AHeap
 | [],H=>H
 |t::ts,H=>aps ts (t.ap H)
theorem a0t:∀(a b:List Tr) (H:AHeap),aps (a++b) H=aps b (aps a H)
 | [],_,_=>rfl
 |t::a,b,H=>a0t a b (t.ap H)
structure Sub (M H:AHeap):Prop where
 get:∀k o,M.get k=some o→H.get k=some o
 next:H.next=M.next
 log:H.log=M.log
theorem Sub.refl(H:AHeap):Sub H H:=⟨fun _ _ h=>h,rfl,rfl⟩
theorem Sub.ap{M H:AHeap}(h:Sub M H)(t:Tr):Sub (t.ap M) (t.ap H):=by
 cases t with
 |put k o lg=>
  refine⟨fun j x hx=> ?_,h.next,by simp only[Tr.ap,h.log]⟩
  simp only[Tr.ap,AHeap.get,Trie.get_set]at hx ⊢
  split
  ·rename_i e;rwa [if_pos e]at hx
  ·rename_i e;rw[if_neg e]at hx;exact h.get j x hx
 |next n=>exact⟨h.get,rfl,h.log⟩
theorem Sub.aps{M H:AHeap}:∀(ts:List Tr),Sub M H→Sub (aps ts M) (aps ts H)
 | [],h=>h
 |t::ts,h=>Sub.aps ts (h.ap t)
def a0f(M:AHeap)(ts:List Tr):Prop:=M.next≤(aps ts M).next∧∀k o lg,Tr.put k o lg∈ts→(lg=false→M.next≤k)∧k<(aps ts M).next
def Wf(M:AHeap):Prop:=(∀k,M.next≤k→M.get k=none)∧∀k o,M.get k=some o→∀p∈E8 o,p<M.next
theorem a0f.nil(M:AHeap):a0f M []:=⟨Nat.le_refl _,by simp⟩
section
variable{E:j6}{P:Program}{M H:AHeap}
theorem b5w(h:Sub M H){o:Id}{cs:List AV}(e:cellsOf E M o=some cs):cellsOf E H o=some cs:=by
 cases o with
 |old b=>exact e
 |new k=>
  simp only[cellsOf]at e ⊢
  split at e
  ·rename_i cs' wr pre hk;rw[h.get _ _ hk];exact e
  ·cases e
theorem d2m(h:Sub M H){o:Id}{i:Nat}{a:AV}(e:a8Y E M o i=some a):a8Y E H o i=some a:=by
 unfold a8Y at e ⊢
 split at e
 ·rename_i cs hc;rw[b5w h hc];exact e
 ·cases e
theorem b0S(h:Sub M H){o:Id}{i n:Nat}{a:List AV}(e:G9 E M o i n=some a):G9 E H o i n=some a:=by
 unfold G9 at e ⊢
 split at e
 ·rename_i cs hc;rw[b5w h hc];exact e
 ·cases e
theorem c4X(h:Sub M H){o:Id}{i n:Nat}{a:List AV}(e:M9 E M o i n=some a):M9 E H o i n=some a:=by
 unfold M9 at e ⊢
 split at e
 ·rename_i h0;rw[if_pos h0];exact e
 ·rename_i h0;rw[if_neg h0];exact b0S h e
theorem c0Y(h:Sub M H){t:TypeId}{o:Id}{i:Nat}{a:AV}(e:L7 P E M t o i=some a):L7 P E H t o i=some a:=by
 unfold L7 at e ⊢
 simp only[Option.bind_eq_bind,Option.bind_eq_some_iff]at e ⊢
 obtain⟨g,hg,e⟩:=e
 refine⟨g,hg, ?_⟩
 cases g with
 |true=>
  simp only[if_true,Option.bind_eq_some_iff]at e ⊢
  obtain⟨n,hn,as,has,e⟩:=e
  exact⟨n,hn,as,b0S h has,e⟩
 |false=>
  simp only[Bool.false_eq_true,if_false]at e ⊢
  exact d2m h e
theorem c7q(h:Sub M H){size n:Nat}{x:AV}{r:List AV}(e:a0Y E M size n x=some r):a0Y E H size n x=some r:=by
 unfold a0Y at e ⊢
 split at e
 ·exact e
 ·exact c4X h e
 ·exact e
 ·cases e
theorem d2B(h:Sub M H){x:AV}{r:List (AV×AV×Nat)}(e:b6D M x=some r):b6D H x=some r:=by
 unfold b6D at e ⊢
 split at e
 ·exact e
 ·split at e
  ·rename_i es c hk;rw[h.get _ _ hk];exact e
  ·cases e
 ·cases e
theorem b2O(h:Sub M H){t:TypeId}{x:a1N}{a:AV}(e:x.get P E M t=some a):x.get P E H t=some a:=by
 cases x with
 |val v=>exact e
 |var o i=>exact c0Y h e
theorem b0B(h:Sub M H):∀ {path:List FieldStep} {t:TypeId} {x:a1N} {r:TypeId×a1N},a0y P E M path t x=some r→a0y P E H path t x=some r
 | [],t,x,r,e=>e
 |s::rest,t,x,r,e=>by
  simp only[a0y,Option.bind_eq_bind,Option.bind_eq_some_iff]at e ⊢
  obtain⟨fd,hfd,e⟩:=e
  refine⟨fd,hfd, ?_⟩
  split at e
  ·rename_i hc
   rw[if_pos hc]
   split at e
   ·rename_i hd
    rw[if_pos hd]
    simp only[Option.bind_eq_some_iff]at e ⊢
    obtain⟨a,ha,e⟩:=e
    refine⟨a,b2O h ha, ?_⟩
    split at e
    ·exact b0B h e
    ·cases e
   ·rename_i hd
    rw[if_neg hd]
    split at e
    ·exact b0B h e
    ·simp only[Option.bind_eq_some_iff]at e ⊢
     obtain⟨y,hy,e⟩:=e
     exact⟨y,hy,b0B h e⟩
    ·cases e
  ·cases e
theorem c4B(h:Sub M H){t:TypeId}{v:AV}{name:String}{r:FuncId×AV}(e:a1Y P E M t v name=some r):a1Y P E H t v name=some r:=by
 unfold a1Y at e ⊢
 simp only[Option.bind_eq_bind,Option.bind_eq_some_iff]at e ⊢
 obtain⟨info,hi,m,hm,⟨xt,x⟩,hfo,⟨g,pr⟩,hfn,e⟩:=e
 refine⟨info,hi,m,hm,⟨xt,x⟩,b0B h hfo,⟨g,pr⟩,hfn, ?_⟩
 simp only at e ⊢
 split at e
 ·simp only[Option.map_eq_some_iff]at e ⊢
  obtain⟨y,hy,e⟩:=e
  exact⟨y,b2O h hy,e⟩
 ·cases e
 ·exact e
 ·cases e
 ·simp only[Option.map_eq_some_iff]at e ⊢
  obtain⟨y,hy,e⟩:=e
  exact⟨y,b2O h hy,e⟩
 ·cases e
theorem e1F(H:AHeap)(o:X7):H.new o=aps [.put H.next (some o) false, .next (H.next+1)] H:=rfl
theorem b9M:∀(ks:List Nat) (H:AHeap),H.killAll ks=aps (ks.map fun k=> .put k none true) H
 | [],_=>rfl
 |k::ks,H=>b9M ks (H.kill k)
theorem Wf.lt(h:Wf M){k:Nat}{o:X7}(e:M.get k=some o):k<M.next:=by
 rcases Nat.lt_or_ge k M.next with h'|h'
 ·exact h'
 ·rw[h.1 k h']at e;cases e
theorem c6M(hw:Wf M){k:Nat}{o o':X7}{pre:List Nat}(hk:M.get k=some o)(hp:∀p∈pre,p<M.next)(hp':∀p∈E8 o',p<M.next):
  ∃ts,(∀H:AHeap,(H.killAll pre).set k o'=aps ts H)∧a0f M ts∧Wf ((M.killAll pre).set k o'):=by
 refine⟨(pre.map fun p=>Tr.put p none true)++[.put k (some o') true],fun H=>by rw[a0t, ←b9M];rfl, ?_, ?_⟩
 ·have hn:(aps ((pre.map fun p=>Tr.put p none true)++[.put k (some o') true]) M).next=M.next:=by
   rw[a0t, ←b9M];exact AHeap.next_killAll pre M
  refine⟨by omega,fun j x lg hm=> ?_⟩
  rw[hn]
  simp only[List.mem_append,List.mem_map,List.mem_singleton,Tr.put.injEq]at hm
  rcases hm with ⟨p,hpp,rfl,_,rfl⟩|⟨rfl,_,rfl⟩
  ·exact⟨(fun e=>by cases e),hp _ hpp⟩
  ·exact⟨(fun e=>by cases e),hw.lt hk⟩
 ·refine⟨fun j hj=> ?_,fun j x hx p hpp=> ?_⟩
  ·simp only[AHeap.next_set,AHeap.next_killAll]at hj
   rw[AHeap.get_set,AHeap.get_killAll,if_neg (by have:=hw.lt hk;omega)]
   split
   ·rfl
   ·exact hw.1 j hj
  ·simp only[AHeap.next_set,AHeap.next_killAll]
   rw[AHeap.get_set,AHeap.get_killAll]at hx
   split at hx
   ·cases hx;exact hp' p hpp
   ·split at hx
    ·cases hx
    ·exact hw.2 j x hx p hpp
theorem b7t(hw:Wf M){o:X7}(hp:∀p∈E8 o,p<M.next):∃ts,(∀H,Sub M H→H.new o=aps ts H)∧a0f M ts∧Wf (M.new o):=by
 refine⟨[.put M.next (some o) false, .next (M.next+1)],fun H h=>by rw[e1F,h.next],⟨by simp[aps,Tr.ap],fun j x lg hm=> ?_⟩, ?_⟩
 ·simp only[List.mem_cons,Tr.put.injEq,List.not_mem_nil,or_false,reduceCtorEq]at hm
  obtain⟨rfl,_,rfl⟩:=hm
  exact⟨fun _=>Nat.le_refl _,by simp[aps,Tr.ap]⟩
 ·refine⟨fun j hj=> ?_,fun j x hx p hpp=> ?_⟩
  ·simp only[AHeap.next_new]at hj
   rw[AHeap.get_new,if_neg (by omega)]
   exact hw.1 j (by omega)
  ·simp only[AHeap.next_new]
   rw[AHeap.get_new]at hx
   split at hx
   ·cases hx;have:=hp p hpp;omega
   ·have:=hw.2 j x hx p hpp;omega
theorem a0f.append{ts us:List Tr}(h:a0f M ts)(h':a0f (aps ts M) us):a0f M (ts++us):=by
 refine⟨by rw[a0t];exact Nat.le_trans h.1 h'.1,fun k o lg hm=> ?_⟩
 rw[a0t]
 rcases List.mem_append.1 hm with hm|hm
 ·obtain⟨a,b⟩:=h.2 k o lg hm
  exact⟨a,Nat.lt_of_lt_of_le b h'.1⟩
 ·obtain⟨a,b⟩:=h'.2 k o lg hm
  exact⟨fun e=>Nat.le_trans h.1 (a e),b⟩
def c9q(P:Program)(E:j6)(T:List AV)(o:Oper)(M:AHeap)(r:a1u):Prop:=
 match r with
 | .val v M'=>∃ts,M'=aps ts M∧a0f M ts∧Wf M'∧∀H,Sub M H→opA P E T H o=some (.val v (aps ts H))
 | .call f args M'=>M'=M∧∀H,Sub M H→opA P E T H o=some (.call f args H)
theorem b5x(hw:Wf M){o:Id}{i:Nat}{vs:List AV}{M':AHeap}(h:F0 M o i vs=some M'):
  ∃ts,M'=aps ts M∧a0f M ts∧Wf M'∧∀H,Sub M H→F0 H o i vs=some (aps ts H):=by
 unfold F0 at h
 split at h
 ·cases h;exact⟨[],rfl,a0f.nil _,hw,fun H _=>rfl⟩
 ·rename_i hne
  split at h
  ·cases h
  ·rename_i k
   split at h
   ·rename_i cs pre hk
    split at h
    ·rename_i hc
     cases h
     obtain⟨ts,g1,g2,g3⟩:=c6M hw (pre:=pre) (o':= .cells (G3 cs i vs) true []) hk (hw.2 k _ hk) (by simp[E8])
     refine⟨ts,g1 M,g2,g3,fun H hs=> ?_⟩
     unfold F0
     split
     ·exact absurd rfl hne
     ·simp only[hs.get _ _ hk]
      rw[if_pos hc,g1 H]
    ·cases h
   ·cases h
theorem d1l(hw:Wf M){size bytes n:Nat}{s a:AV}{news:List AV}{M':AHeap}(h:Z2 E M size bytes s n news=some (a,M')):
  ∃ts,M'=aps ts M∧a0f M ts∧Wf M'∧∀H,Sub M H→Z2 E H size bytes s n news=some (a,aps ts H):=by
 unfold Z2 at h
 split at h
 ·rename_i hl
  split at h
  ·split at h
   ·rename_i hn
    cases h
    exact⟨[],rfl,a0f.nil _,hw,fun H _=>by unfold Z2;rw[if_pos hl];simp only;rw[if_pos hn];rfl⟩
   ·rename_i hn
    split at h
    ·rename_i hb
     cases h
     obtain⟨ts,g1,g2,g3⟩:=b7t hw (o:= .cells news true []) (by simp[E8])
     refine⟨ts,g1 M (Sub.refl M),g2,g3,fun H hs=> ?_⟩
     unfold Z2
     rw[if_pos hl];simp only;rw[if_neg hn,if_pos hb,hs.next,newCells,g1 H hs]
    ·cases h
  ·rename_i o i len cap ex sz
   split at h
   ·rename_i hn
    cases h
    exact⟨[],rfl,a0f.nil _,hw,fun H _=>by unfold Z2;rw[if_pos hl];simp only;rw[if_pos hn];rfl⟩
   ·rename_i hn
    split at h
    ·rename_i hb
     split at h
     ·rename_i hex
      split at h
      ·rename_i olds ho
       cases h
       obtain⟨ts,g1,g2,g3⟩:=b7t hw (o:= .cells (olds++news) true []) (by simp[E8])
       refine⟨ts,g1 M (Sub.refl M),g2,g3,fun H hs=> ?_⟩
       unfold Z2
       rw[if_pos hl];simp only;rw[if_neg hn,if_pos hb,if_pos hex,b0S hs ho]
       simp only
       rw[hs.next,newCells,g1 H hs]
      ·cases h
     ·rename_i hex
      split at h
      ·cases h
      ·rename_i k
       split at h
       ·rename_i cs pre hk
        have hkn:=hw.lt hk
        have hpl:∀p∈pre,p<M.next:=hw.2 k _ hk
        split at h
        ·rename_i hc
         split at h
         ·rename_i hlt
          cases h
          obtain⟨ts,g1,g2,g3⟩:=c6M hw (o':= .cells (cs.take (i+len*size)) false []) hk hpl (by simp[E8])
          have hnx:((M.killAll pre).set k (.cells (cs.take (i+len*size)) false [])).next=M.next:=by simp
          obtain⟨us,k1,k2,k3⟩:=b7t g3 (o:= .cells ((cs.take (i+len*size)).drop i++news) true [k]) (by simp[E8];exact hkn)
          refine⟨ts++us,by rw[a0t, ←g1, ←k1 _ (Sub.refl _)],g2.append (by rw[←g1];exact k2),k3,fun H hs=> ?_⟩
          unfold Z2
          rw[if_pos hl];simp only;rw[if_neg hn,if_pos hb,if_neg hex]
          simp only[hs.get _ _ hk]
          rw[if_pos hc,if_pos hlt,hs.next,g1 H,k1 _ (by rw[g1 M];exact hs.aps ts),a0t]
         ·rename_i hlt
          cases h
          obtain⟨ts,g1,g2,g3⟩:=c6M hw (o':= .cells cs false pre) (pre:=[]) hk (by simp) (by simpa [E8]using hpl)
          obtain⟨us,k1,k2,k3⟩:=b7t g3 (o:= .cells (cs.drop i++news) true (k::pre)) (by
           intro p hp
           simp only[E8,List.mem_cons]at hp
           rcases hp with rfl|hp
           ·exact hkn
           ·exact hpl p hp)
          refine⟨ts++us,by rw[a0t, ←g1, ←k1 _ (Sub.refl _)];rfl,g2.append (by rw[←g1];exact k2),k3,fun H hs=> ?_⟩
          unfold Z2
          rw[if_pos hl];simp only;rw[if_neg hn,if_pos hb,if_neg hex]
          simp only[hs.get _ _ hk]
          rw[if_pos hc,if_neg hlt,hs.next,a0t, ←g1, ←k1 _ (by rw[g1 M,g1 H];exact hs.aps ts)]
          rfl
        ·cases h
       ·cases h
    ·cases h
  ·cases h
 ·cases h
theorem a3S(hw:Wf M)(cs:List AV):∃ts,(∀H,Sub M H→newCells H cs=aps ts H)∧a0f M ts∧Wf (newCells M cs):=
 b7t hw (o:= .cells cs true []) (by simp[E8])
theorem d3R(hw:Wf M){sT xT:TypeId}{s x a:AV}{M':AHeap}(h:a1T P E M sT s xT x=some (a,M')):
  ∃ts,M'=aps ts M∧a0f M ts∧Wf M'∧∀H,Sub M H→a1T P E H sT s xT x=some (a,aps ts H):=by
 unfold a1T at h
 simp only[Option.bind_eq_bind,Option.bind_eq_some_iff]at h
 obtain⟨e,he,size,hs,bytes,hb,z,hz,h⟩:=h
 split at h
 ·rename_i hzs
  split at h
  ·rename_i k hu
   simp only[Option.bind_eq_some_iff]at h
   obtain⟨l,hl,h⟩:=h
   split at h
   ·rename_i hc
    obtain⟨ts,g1,g2,g3,g4⟩:=d1l hw h
    refine⟨ts,g1,g2,g3,fun H hsub=> ?_⟩
    unfold a1T
    simp only[Option.bind_eq_bind,he,hs,hb,hz,Option.bind_some,hzs,if_true,hu,hl]
    rw[if_pos hc,g4 H hsub]
   ·cases h
  ·rename_i d hd hu
   simp only[Option.bind_eq_some_iff]at h
   obtain⟨n,hn,nw,hnw,h⟩:=h
   obtain⟨ts,g1,g2,g3,g4⟩:=d1l hw h
   refine⟨ts,g1,g2,g3,fun H hsub=> ?_⟩
   unfold a1T
   simp only[Option.bind_eq_bind,he,hs,hb,hz,Option.bind_some,hzs,if_true,hu]
   have:(match some d with
    |some (.int _)=>(do
      let l←a1f x
      if IntKind.i64.wrap l=l∧0≤l∧l*bytes≤2^47 then Z2 E H size bytes s l.toNat (rep z.cells l.toNat) else none:Option (AV×AHeap))
    |some _=>(do
      let n←a5b x
      let news←a0Y E H size n x
      Z2 E H size bytes s n news)
    |none=>none)=some (a,aps ts H):=by
    cases d<;>first|exact(hd _ rfl).elim|(simp only[Option.bind_eq_bind,hn,Option.bind_some,c7q hsub hnw];exact g4 H hsub)
   simpa only[Option.bind_eq_bind]using this
  ·cases h
 ·cases h
theorem d7J(hw:Wf M){dT:TypeId}{d x a:AV}{M':AHeap}(h:b6T P E M dT d x=some (a,M')):
  ∃ts,M'=aps ts M∧a0f M ts∧Wf M'∧∀H,Sub M H→b6T P E H dT d x=some (a,aps ts H):=by
 unfold b6T at h
 simp only[Option.bind_eq_bind,Option.bind_eq_some_iff]at h
 obtain⟨e,he,size,hs,k,hk,h⟩:=h
 split at h
 ·cases h
  exact⟨[],rfl,a0f.nil _,hw,fun H _=>by unfold b6T;simp only[Option.bind_eq_bind,he,hs,hk,Option.bind_some];rfl⟩
 ·rename_i o i len cap ex sz
  simp only[Option.bind_eq_some_iff]at h
  obtain⟨nw,hnw,H1,hst,h⟩:=h
  cases h
  obtain⟨ts,g1,g2,g3,g4⟩:=b5x hw hst
  refine⟨ts,g1,g2,g3,fun H hsub=> ?_⟩
  unfold b6T
  simp only[Option.bind_eq_bind,he,hs,hk,Option.bind_some,c7q hsub hnw,g4 H hsub]
 ·cases h
theorem d7T(hw:Wf M){src dst:TypeId}{x a:AV}{M':AHeap}(h:U7 P E M src dst x=some (a,M')):
  ∃ts,M'=aps ts M∧a0f M ts∧Wf M'∧∀H,Sub M H→U7 P E H src dst x=some (a,aps ts H):=by
 unfold U7 at h
 split at h
 ·rename_i h1 h2
  cases h
  refine⟨[],rfl,a0f.nil _,hw,fun H _=> ?_⟩
  unfold U7;rw[h1,h2];rfl
 ·rename_i h1 h2
  cases h
  refine⟨[],rfl,a0f.nil _,hw,fun H _=> ?_⟩
  unfold U7;rw[h1,h2];rfl
 ·rename_i d e s h1 h2
  split at h
  ·rename_i he
   split at h
   ·rename_i hl
    cases h
    obtain⟨ts,g1,g2,g3⟩:=a3S hw (s.map fun b=>AV.int .u8 b.toNat)
    refine⟨ts,g1 M (Sub.refl M),g2,g3,fun H hs=> ?_⟩
    unfold U7;rw[h1,h2];simp only[he,hl,if_true,hs.next,g1 H hs]
   ·cases h
  ·cases h
 ·rename_i d e k i len cap ex sz h1 h2
  split at h
  ·rename_i he
   split at h
   ·rename_i hc
    cases h
    refine⟨[],rfl,a0f.nil _,hw,fun H hs=> ?_⟩
    obtain⟨cs,hcs⟩:=Option.isSome_iff_exists.1 hc.2.2
    have hc':src=dst∧len≠0∧(cellsOf E H (.new k)).isSome:=⟨hc.1,hc.2.1,by rw[b5w hs hcs];rfl⟩
    unfold U7;rw[h1,h2];simp only[he]
    rw[if_pos hc'];rfl
   ·cases h
  ·cases h
 ·rename_i e h1 h2 hno
  split at h
  ·rename_i he
   split at h
   ·cases h
    refine⟨[],rfl,a0f.nil _,hw,fun H _=> ?_⟩
    unfold U7;rw[h1,h2];simp only[he];rfl
   ·rename_i o i len cap ex sz _
    split at h
    ·rename_i cs hcs
     simp only[Option.map_eq_some_iff]at h
     obtain⟨bs,hbs,h⟩:=h
     cases h
     refine⟨[],rfl,a0f.nil _,hw,fun H hs=> ?_⟩
     unfold U7;rw[h1,h2];simp only[he,c4X hs hcs,hbs];rfl
    ·cases h
   ·cases h
  ·cases h
 ·cases h
theorem c2B(hw:Wf M){k:Nat}{es es':List (AV×AV×Nat)}{clock clock':Nat}(hk:M.get k=some (.map es clock)):
  ∃ts,(∀H:AHeap,H.set k (.map es' clock')=aps ts H)∧a0f M ts∧Wf (M.set k (.map es' clock')):=by
 obtain⟨ts,g1,g2,g3⟩:=c6M hw (pre:=[]) (o':= .map es' clock') hk (by simp) (by simp[E8])
 exact⟨ts,g1,g2,g3⟩
theorem c4z(hw:Wf M){t:TypeId}{m key v:AV}{M':AHeap}(h:a2a P M t m key v=some M'):
  ∃ts,M'=aps ts M∧a0f M ts∧Wf M'∧∀H,Sub M H→a2a P H t m key v=some (aps ts H):=by
 unfold a2a at h
 split at h
 ·rename_i kt e k hu
  split at h
  ·rename_i hf
   split at h
   ·rename_i es clock hk
    split at h
    ·rename_i hfa
     cases h
     obtain⟨ts,g1,g2,g3⟩:=c2B hw hk
     refine⟨ts,g1 M,g2,g3,fun H hs=> ?_⟩
     unfold a2a;rw[hu];simp only[hf,if_true,hs.get _ _ hk,hfa,g1 H]
    ·rename_i hfa
     cases h
     obtain⟨ts,g1,g2,g3⟩:=c2B hw hk
     refine⟨ts,g1 M,g2,g3,fun H hs=> ?_⟩
     unfold a2a;rw[hu];simp only[hf,if_true,hs.get _ _ hk,hfa,g1 H]
    ·cases h
   ·cases h
  ·cases h
 ·cases h
theorem d5M(hw:Wf M){t:TypeId}{m key a:AV}{M':AHeap}(h:b1v P M t m key=some (a,M')):
  ∃ts,M'=aps ts M∧a0f M ts∧Wf M'∧∀H,Sub M H→b1v P H t m key=some (a,aps ts H):=by
 unfold b1v at h
 split at h
 ·rename_i kt e k hu
  split at h
  ·rename_i hf
   split at h
   ·rename_i es clock hk
    split at h
    ·rename_i hfa
     cases h
     obtain⟨ts,g1,g2,g3⟩:=c2B hw hk
     refine⟨ts,g1 M,g2,g3,fun H hs=> ?_⟩
     unfold b1v;rw[hu];simp only[hf,if_true,hs.get _ _ hk,hfa,g1 H]
    ·rename_i hfa
     split at h
     ·rename_i z hz
      cases h
      obtain⟨ts,g1,g2,g3⟩:=c2B hw hk
      refine⟨ts,g1 M,g2,g3,fun H hs=> ?_⟩
      unfold b1v;rw[hu];simp only[hf,if_true,hs.get _ _ hk,hfa,hz,g1 H]
     ·cases h
    ·cases h
   ·cases h
  ·cases h
 ·cases h
theorem c6l(hw:Wf M){m stamp v:AV}{M':AHeap}(h:O7 M m stamp v=some M'):
  ∃ts,M'=aps ts M∧a0f M ts∧Wf M'∧∀H,Sub M H→O7 H m stamp v=some (aps ts H):=by
 unfold O7 at h
 split at h
 ·rename_i k ik n
  split at h
  ·rename_i es clock hk
   split at h
   ·rename_i i hi
    split at h
    ·rename_i ent hent
     cases h
     obtain⟨ts,g1,g2,g3⟩:=c2B hw hk
     refine⟨ts,g1 M,g2,g3,fun H hs=> ?_⟩
     unfold O7;simp only[hs.get _ _ hk,hi,hent,g1 H]
    ·cases h
   ·cases h
  ·cases h
 ·cases h
theorem d4d(h:Sub M H){t:TypeId}{x ix:AV}{ok:Bool}{a:AV}(e:b0v P M t x ix ok=some a):b0v P H t x ix ok=some a:=by
 unfold b0v at e ⊢
 split at e
 ·split at e
  ·rename_i hf
   rw[if_pos hf]
   simp only[Option.bind_eq_some_iff]at e ⊢
   obtain⟨es,hes,e⟩:=e
   exact⟨es,d2B h hes,e⟩
  ·cases e
 ·cases e
theorem d4n(h:Sub M H){t:TypeId}{x:AV}{n:Nat}(e:b0w P M t x=some n):b0w P H t x=some n:=by
 unfold b0w at e ⊢
 split at e
 ·exact e
 ·split at e
  ·rename_i es c hk;simp only[h.get _ _ hk];exact e
  ·cases e
 ·cases e
theorem d5C(h:Sub M H){t:TypeId}{x:AV}{lo hi mx:Option AV}{a:AV}(e:a2N P M t x lo hi mx=some a):a2N P H t x lo hi mx=some a:=by
 unfold a2N at e ⊢
 split at e
 ·exact e
 ·exact e
 ·exact e
 ·simp only[Option.bind_eq_bind,Option.bind_eq_some_iff]at e ⊢
  obtain⟨size,hs,r,hr,e⟩:=e
  refine⟨size,hs,r,hr, ?_⟩
  split at e
  ·rename_i cs wr pre hk;rw[h.get _ _ hk];exact e
  ·cases e
 ·cases e
theorem c5S(hw:Wf M){t:TypeId}{len:Nat}{ps:List (Nat×AV)}{a:AV}{M':AHeap}(h:R9 P M t len ps=some (a,M')):
  ∃ts,M'=aps ts M∧a0f M ts∧Wf M'∧∀H,Sub M H→R9 P H t len ps=some (a,aps ts H):=by
 unfold R9 at h
 simp only[Option.bind_eq_bind,Option.bind_eq_some_iff]at h
 obtain⟨e,he,size,hs,h⟩:=h
 split at h
 ·rename_i hn
  simp only[Option.bind_eq_some_iff]at h
  obtain⟨z,hz,h⟩:=h
  split at h
  ·rename_i hzs
   simp only[Option.bind_eq_some_iff]at h
   obtain⟨cs,hcs,h⟩:=h
   cases h
   obtain⟨ts,g1,g2,g3⟩:=a3S hw cs
   refine⟨ts,g1 M (Sub.refl M),g2,g3,fun H hsub=> ?_⟩
   unfold R9
   simp only[Option.bind_eq_bind,he,hs,Option.bind_some,hn,if_true,hz,hzs,hcs,hsub.next,g1 H hsub]
  ·cases h
 ·cases h
theorem c8D(hw:Wf M){t:TypeId}{len cap a:AV}{M':AHeap}(h:U0 P M t len cap=some (a,M')):
  ∃ts,M'=aps ts M∧a0f M ts∧Wf M'∧∀H,Sub M H→U0 P H t len cap=some (a,aps ts H):=by
 unfold U0 at h
 simp only[Option.bind_eq_bind,Option.bind_eq_some_iff]at h
 obtain⟨e,he,size,hs,b,hb,l,hl,c,hc,z,hz,h⟩:=h
 split at h
 ·rename_i hcond
  cases h
  obtain⟨ts,g1,g2,g3⟩:=a3S hw (rep z.cells c.toNat)
  refine⟨ts,g1 M (Sub.refl M),g2,g3,fun H hsub=> ?_⟩
  unfold U0
  simp only[Option.bind_eq_bind,he,hs,hb,hl,hc,hz,Option.bind_some]
  rw[if_pos hcond,hsub.next,g1 H hsub]
 ·cases h
end
end
section
section
variable{E:j6}{P:Program}{M:AHeap}{T:List AV}{o:Oper}
theorem a0H(hw:Wf M){v:AV}(h:∀H,Sub M H→opA P E T H o=some (.val v H)):c9q P E T o M (.val v M):=
 ⟨[],rfl,a0f.nil _,hw,h⟩
theorem d5O{f:FuncId}{args:List AV}{r:a1u}(h:Y2 P M f args=some r):r= .call f args M∧∀H,Y2 P H f args=some (.call f args H):=by
 unfold Y2 at h
 split at h
 ·rename_i hb
  cases h
  exact⟨rfl,fun H=>by unfold Y2;rw[if_pos hb]⟩
 ·cases h
theorem b7n{f:FuncId}{args:List AV}{r:a1u}(h:Y2 P M f args=some r)(ho:∀H,Sub M H→opA P E T H o=Y2 P H f args):c9q P E T o M r:=by
 obtain⟨rfl,h2⟩:=d5O h
 exact⟨rfl,fun H hs=>(ho H hs).trans (h2 H)⟩
theorem d8i(hw:Wf M){c:Call}(hop:o.op= .call c){r:a1u}(h:a1q P E M c (p8 T)=some r):c9q P E T o M r:=by
 have ho:∀H,opA P E T H o=a1q P E H c (p8 T):=fun H=>by unfold opA;simp only[hop]
 unfold a1q at h
 simp only at h
 split at h
 ·rename_i f hc
  split at h
  ·rename_i g first captured hf
   exact b7n h fun H _=>by rw[ho];unfold a1q;simp only[hc,hf]
  ·rename_i name first captured hf
   split at h
   ·rename_i t v rest _ hl
    simp only[Option.bind_eq_some_iff]at h
    obtain⟨⟨g,x⟩,hm,h⟩:=h
    refine b7n h fun H hs=> ?_
    rw[ho];unfold a1q;simp only[hc,hf,hl,c4B hs hm,Option.bind_some]
   ·cases h
  ·rename_i t path g pointer first captured hf
   split at h
   ·rename_i x rest _ hp hl hu
    split at h
    ·rename_i hptr
     refine b7n h fun H hs=> ?_
     rw[ho];unfold a1q;simp only[hc,hf,hl,hp,hu,hptr,if_true]
    ·cases h
   ·cases h
  ·cases h
 ·rename_i recv name hc
  split at h
  ·rename_i t v hf
   simp only[Option.bind_eq_some_iff]at h
   obtain⟨⟨g,x⟩,hm,h⟩:=h
   refine b7n h fun H hs=> ?_
   rw[ho];unfold a1q;simp only[hc,hf,c4B hs hm,Option.bind_some]
  ·cases h
 ·rename_i b hc
  split at h
  ·rename_i s x sT xT h1 h2
   simp only[Option.map_eq_some_iff]at h
   obtain⟨⟨a,M'⟩,ha,rfl⟩:=h
   obtain⟨ts,g1,g2,g3,g4⟩:=d3R hw ha
   exact⟨ts,g1,g2,g3,fun H hs=>by rw[ho];unfold a1q;simp only[hc,h1,h2,g4 H hs,Option.map_some]⟩
  ·rename_i x t h1 h2
   split at h
   ·rename_i n hn
    cases h
    exact a0H hw fun H hs=>by rw[ho];unfold a1q;simp only[hc,h1,h2,hn]
   ·rename_i hn
    simp only[Option.map_eq_some_iff]at h
    obtain⟨n,hm,rfl⟩:=h
    exact a0H hw fun H hs=>by rw[ho];unfold a1q;simp only[hc,h1,h2,hn,d4n hs hm,Option.map_some]
  ·rename_i x t h1 h2
   simp only[Option.map_eq_some_iff]at h
   obtain⟨n,hm,rfl⟩:=h
   exact a0H hw fun H hs=>by rw[ho];unfold a1q;simp only[hc,h1,h2,hm,Option.map_some]
  ·rename_i d x dT _ h1 h2
   simp only[Option.map_eq_some_iff]at h
   obtain⟨⟨a,M'⟩,ha,rfl⟩:=h
   obtain⟨ts,g1,g2,g3,g4⟩:=d7J hw ha
   exact⟨ts,g1,g2,g3,fun H hs=>by rw[ho];unfold a1q;simp only[hc,h1,h2,g4 H hs,Option.map_some]⟩
  ·simp only[Option.map_eq_some_iff]at h
   obtain⟨n,hm,rfl⟩:=h
   exact a0H hw fun H hs=>by rw[ho];unfold a1q;simp only[hc,hm,Option.map_some]
  ·simp only[Option.map_eq_some_iff]at h
   obtain⟨n,hm,rfl⟩:=h
   exact a0H hw fun H hs=>by rw[ho];unfold a1q;simp only[hc,hm,Option.map_some]
  ·cases h
theorem d2J(f:AHeap→Option (AV×AHeap)){r:a1u}(ho:∀H,opA P E T H o=(f H).map fun x=> .val x.1 x.2)(h:(f M).map (fun x=>a1u.val x.1 x.2)=some r)
  (ht:∀a M',f M=some (a,M')→∃ts,M'=aps ts M∧a0f M ts∧Wf M'∧∀H,Sub M H→f H=some (a,aps ts H)):c9q P E T o M r:=by
 simp only[Option.map_eq_some_iff]at h
 obtain⟨⟨a,M'⟩,ha,rfl⟩:=h
 obtain⟨ts,g1,g2,g3,g4⟩:=ht a M' ha
 exact⟨ts,g1,g2,g3,fun H hs=>by rw[ho,g4 H hs];rfl⟩
theorem d6S(f:AHeap→Option AHeap){r:a1u}(ho:∀H,opA P E T H o=(f H).map fun x=> .val A8 x)(h:(f M).map (fun x=>a1u.val A8 x)=some r)
  (ht:∀M',f M=some M'→∃ts,M'=aps ts M∧a0f M ts∧Wf M'∧∀H,Sub M H→f H=some (aps ts H)):c9q P E T o M r:=by
 simp only[Option.map_eq_some_iff]at h
 obtain⟨M',ha,rfl⟩:=h
 obtain⟨ts,g1,g2,g3,g4⟩:=ht M' ha
 exact⟨ts,g1,g2,g3,fun H hs=>by rw[ho,g4 H hs];rfl⟩
theorem b4t(hw:Wf M)(f:AHeap→Option AV){r:a1u}(ho:∀H,opA P E T H o=(f H).map fun x=> .val x H)(h:(f M).map (fun x=>a1u.val x M)=some r)
  (ht:∀a,f M=some a→∀H,Sub M H→f H=some a):c9q P E T o M r:=by
 simp only[Option.map_eq_some_iff]at h
 obtain⟨a,ha,rfl⟩:=h
 exact a0H hw fun H hs=>by rw[ho,ht a ha H hs];rfl
theorem d6s(hw:Wf M){r:a1u}(h:opA P E T M o=some r):c9q P E T o M r:=by
 unfold opA at h
 simp only at h
 split at h
 case h_1 x hop=>
  cases h;exact a0H hw fun H hs=>by unfold opA;simp only[hop]
 case h_2 x hop=>
  cases h;exact a0H hw fun H hs=>by unfold opA;simp only[hop]
 case h_3 c a b hop=>
  split at h
  ·rename_i t ht
   cases h;exact a0H hw fun H hs=>by unfold opA;simp only[hop,ht]
  ·cases h
 case h_4 e hop=>
  split at h
  ·rename_i z hz
   cases h
   obtain⟨ts,g1,g2,g3⟩:=a3S hw z.cells
   exact⟨ts,g1 M (Sub.refl M),g2,g3,fun H hs=>by unfold opA;simp only[hop,hz,hs.next,g1 H hs]⟩
  ·cases h
 case h_5 t x hop=>
  cases h
  obtain⟨ts,g1,g2,g3⟩:=a3S hw (p8 T x).cells
  exact⟨ts,g1 M (Sub.refl M),g2,g3,fun H hs=>by unfold opA;simp only[hop,hs.next,g1 H hs]⟩
 case h_6 t parts hop=>
  exact b4t hw (fun H=>b6w P t (parts.toList.map fun(p:Nat×Operand)=>(p.1,p8 T p.2))) (fun H=>by unfold opA;simp only[hop]) h fun a e H hs=>e
 case h_7 t len parts hop=>
  exact d2J (fun H=>R9 P H t len (parts.toList.map fun(p:Nat×Operand)=>(p.1,p8 T p.2))) (fun H=>by unfold opA;simp only[hop]) h fun a M' e=>c5S hw e
 case h_8 t a hop=>
  split at h
  ·rename_i o1 i ha
   exact b4t hw (fun H=>L7 P E H t o1 i) (fun H=>by unfold opA;simp only[hop,ha]) h fun a e H hs=>c0Y hs e
  ·cases h
 case h_9 t a x hop=>
  split at h
  ·rename_i o1 i ha
   split at h
   ·rename_i hsz
    exact d6S (fun H=>F0 H o1 i (p8 T x).cells) (fun H=>by unfold opA;simp only[hop,ha,hsz,if_true]) h fun M' e=>b5x hw e
   ·cases h
  ·cases h
 case h_10 x hop=>
  split at h
  all_goals first|(cases h;done)|skip
  rename_i g1 g2 g3 g4 g5
  cases h
  refine a0H hw fun H hs=> ?_
  unfold opA;simp only[hop]
 case h_11 op t x y _w hop=>
  split at h
  ·rename_i hg
   exact b4t hw (fun H=>b9K P op t (p8 T x) (p8 T y)) (fun H=>by unfold opA;simp only[hop,hg,if_true]) h fun a e H hs=>e
  ·cases h
 case h_12 op _t x hop=>
  exact b4t hw (fun H=>unA op (p8 T x)) (fun H=>by unfold opA;simp only[hop]) h fun a e H hs=>e
 case h_13 src dst x hop=>
  exact d2J (fun H=>U7 P E H src dst (p8 T x)) (fun H=>by unfold opA;simp only[hop]) h fun a M' e=>d7T hw e
 case h_14 t x hop=>
  split at h
  ·cases h
  ·rename_i u hne hu
   cases h;exact a0H hw fun H hs=>by unfold opA;simp only[hop,hu]
  ·cases h
 case h_15 fn first captured hop=>
  cases h;exact a0H hw fun H hs=>by unfold opA;simp only[hop]
 case h_16 _t r hop=>
  split at h
  ·cases h
   obtain⟨ts,g1,g2,g3⟩:=b7t hw (o:= .map [] 0) (by simp[E8])
   exact⟨ts,g1 M (Sub.refl M),g2,g3,fun H hs=>by unfold opA;simp only[hop,hs.next,g1 H hs]⟩
  ·cases h
 case h_17 t l c hop=>
  exact d2J (fun H=>U0 P H t (p8 T l) (p8 T c)) (fun H=>by unfold opA;simp only[hop]) h fun a M' e=>c8D hw e
 case h_18 t x lo hi mx hop=>
  exact b4t hw (fun H=>a2N P H t (p8 T x) (lo.map (p8 T)) (hi.map (p8 T)) (mx.map (p8 T))) (fun H=>by unfold opA;simp only[hop]) h fun a e H hs=>d5C hs e
 case h_19 s x f hop=>
  exact b4t hw (fun H=>a9o P s (p8 T x) f) (fun H=>by unfold opA;simp only[hop]) h fun a e H hs=>e
 case h_20 s x f hop=>
  exact b4t hw (fun H=>b9C P s (p8 T x) f) (fun H=>by unfold opA;simp only[hop]) h fun a e H hs=>e
 case h_21 t x ix hop=>
  exact b4t hw (fun H=>a2p P t (p8 T x) (p8 T ix)) (fun H=>by unfold opA;simp only[hop]) h fun a e H hs=>e
 case h_22 t x ix hop=>
  exact b4t hw (fun H=>b5t P t (p8 T x) (p8 T ix)) (fun H=>by unfold opA;simp only[hop]) h fun a e H hs=>e
 case h_23 t x ix ok hop=>
  exact b4t hw (fun H=>b0v P H t (p8 T x) (p8 T ix) ok) (fun H=>by unfold opA;simp only[hop]) h fun a e H hs=>d4d hs e
 case h_24 t m k x hop=>
  exact d6S (fun H=>a2a P H t (p8 T m) (p8 T k) (p8 T x)) (fun H=>by unfold opA;simp only[hop]) h fun M' e=>c4z hw e
 case h_25 t m k x hop=>
  exact d6S (fun H=>a2a P H t (p8 T m) (p8 T k) (p8 T x)) (fun H=>by unfold opA;simp only[hop]) h fun M' e=>c4z hw e
 case h_26 t m k hop=>
  exact d2J (fun H=>b1v P H t (p8 T m) (p8 T k)) (fun H=>by unfold opA;simp only[hop]) h fun a M' e=>d5M hw e
 case h_27 _t m s x hop=>
  exact d6S (fun H=>O7 H (p8 T m) (p8 T s) (p8 T x)) (fun H=>by unfold opA;simp only[hop]) h fun M' e=>c6l hw e
 case h_28 x _t asserted ok hop=>
  exact b4t hw (fun H=>b2C P (p8 T x) asserted ok) (fun H=>by unfold opA;simp only[hop]) h fun a e H hs=>e
 case h_29 t ix hop=>
  split at h
  ·rename_i vs hv
   exact b4t hw (fun H=>vs[ix]?) (fun H=>by unfold opA;simp only[hop,hv]) h fun a e H hs=>e
  ·cases h
 case h_30 c hop=>exact d8i hw hop h
 case h_31=>cases h
end
end
section
section
variable{E:j6}{P:Program}
theorem d3L{T T':List AV}{H:AHeap}(c:Call)(h:∀x∈c.operands,p8 T x=p8 T' x):a1q P E H c (p8 T)=a1q P E H c (p8 T'):=by
 have hargs:c.args.toList.map (p8 T)=c.args.toList.map (p8 T'):=List.map_congr_left fun x hx=>h x (by
  have:x∈c.args:=by simpa using hx
  simp[Call.operands,this])
 unfold a1q
 simp only[hargs]
 cases hc:c.callee with
 |value f=>have hf:p8 T f=p8 T' f:=h f (by simp[Call.operands,hc]);simp only[hf]
 |invoke r m=>have hr:p8 T r=p8 T' r:=h r (by simp[Call.operands,hc]);simp only[hr]
 |builtin b=>rfl
theorem d7X{T T':List AV}{H:AHeap}(o:Oper)(h:∀x∈o.op.operands,p8 T x=p8 T' x):opA P E T H o=opA P E T' H o:=by
 obtain⟨dst,op,type,pos,after,guard⟩:=o
 have pairs:∀ps:Array (Nat×Operand),(∀x∈ps.map (·.2),p8 T x=p8 T' x)→
   (ps.toList.map fun(p:Nat×Operand)=>(p.1,p8 T p.2))=(ps.toList.map fun(p:Nat×Operand)=>(p.1,p8 T' p.2)):=fun ps hp=>
  List.map_congr_left fun p hm=>by
   obtain⟨i,x⟩:=p
   simp only[hp x (Array.mem_map.2 ⟨(i,x),by simpa using hm,rfl⟩)]
 cases op<;>simp only[Op.operands]at h<;>simp only[opA]
 case build t ps=>rw[pairs ps fun x hx=>h x (by simpa using hx)]
 case buildSlice t n ps=>rw[pairs ps fun x hx=>h x (by simpa using hx)]
 case makeFunc fn first captured=>
  rw[List.map_congr_left (l:=first.toList) fun x hx=>h x (by have:x∈first:=by simpa using hx
                                                             simp[this]),List.map_congr_left (l:=captured.toList) fun x hx=>h x (by have:x∈captured:=by simpa using hx
                                                                                                                                    simp[this])]
 case call c=>rw[d3L c h]
 case slice t x lo hi mx=>cases lo<;>cases hi<;>cases mx<;>simp_all
 all_goals (first|rfl|(simp_all;done))
def c4x(ops:Array Oper)(o:Oper)(T T':List AV):Prop:=∀t∈o.looksAt ops,T[t]? =T'[t]?
theorem c4x.eval{ops:Array Oper}{o:Oper}{T T':List AV}(h:c4x ops o T T'):∀x∈o.op.operands,p8 T x=p8 T' x:=by
 intro x hx
 cases x with
 |tmp t=>
  have:=h t (List.mem_append_left _ (List.mem_filterMap.2 ⟨.tmp t,by simpa using hx,rfl⟩))
  simp only[p8,List.getD_eq_getElem?_getD,this]
 |_=>rfl
theorem c4x.wanted{ops:Array Oper}{o:Oper}{T T':List AV}(h:c4x ops o T T'):a0w ops T o=a0w ops T' o:=by
 unfold a0w
 cases hg:o.guard with
 |none=>rfl
 |some gw=>
  obtain⟨g,want⟩:=gw
  simp only
  cases ht:(ops[g]?).bind (·.dst) with
  |none=>rfl
  |some t=>
   have:=h t (by simp[Oper.looksAt,hg,ht])
   simp only[this]
variable{call:b8j}
def d4p(H:AHeap)(a b:Nat):Prop:=∀k,a≤k→k<b→H.get k=none
def d6Y(call:b8j):Prop:=∀f args M v M',Wf M→call f args M=some (v,M')→
 ∃ts,M'=aps ts M∧a0f M ts∧Wf M'∧∀H,Sub M H→d4p H M.next M'.next→call f args H=some (v,aps ts H)
theorem e1J(t:Tr)(H:AHeap)(k:Nat):(t.ap H).get k=match t with
  | .put j o _=>if j=k then o else H.get k
  | .next _=>H.get k:=by
 cases t with
 |put j o lg=>simp only[Tr.ap,AHeap.get,Trie.get_set]
 |next n=>rfl
theorem b8y:∀(ts:List Tr) (H:AHeap) (k:Nat),(∀o lg,Tr.put k o lg ∉ ts)→(aps ts H).get k=H.get k
 | [],H,k,_=>rfl
 |t::ts,H,k,h=>by
  rw[aps,b8y ts _ k fun o lg hm=>h o lg (List.mem_cons_of_mem _ hm),e1J]
  cases t with
  |put j o lg=>
   simp only
   split
   ·rename_i e;subst e;exact(h o lg List.mem_cons_self).elim
   ·rfl
  |next n=>rfl
theorem c4w:∀(ts:List Tr) {A B:AHeap},A.next=B.next→(aps ts A).next=(aps ts B).next
 | [],_,_,h=>h
 |t::ts,A,B,h=>c4w ts (by cases t<;>first|exact h|rfl)
theorem d6j:∀(ts:List Tr) (A:AHeap) (k:Nat),k∈(aps ts A).log↔k∈A.log∨∃o,Tr.put k o true∈ts
 | [],A,k=>by simp[aps]
 |t::ts,A,k=>by
  rw[aps,d6j ts]
  cases t with
  |put j o lg=>
   cases lg with
   |true=>
    simp only[Tr.ap,if_true,List.mem_cons]
    constructor
    ·rintro((rfl|h)|⟨x,h⟩)
     ·exact .inr ⟨o, .inl rfl⟩
     ·exact .inl h
     ·exact .inr ⟨x, .inr h⟩
    ·rintro(h|⟨x,h|h⟩)
     ·exact .inl (.inr h)
     ·cases h;exact .inl (.inl rfl)
     ·exact .inr ⟨x,h⟩
   |false=>simp[Tr.ap]
  |next n=>simp[Tr.ap]
theorem d4p.sub{M H:AHeap}(_:Wf M){a b c d:Nat}(h:d4p H a b)(h1:a≤c)(h2:d≤b):d4p H c d:=fun k x y=>h k (by omega) (by omega)
theorem a0f.free{M H:AHeap}{ts:List Tr}(ht:a0f M ts){a b:Nat}(h1:(aps ts M).next≤a)(h:d4p H a b):d4p (aps ts H) a b:=by
 intro k hk1 hk2
 rw[b8y ts H k fun o lg hm=> ?_,h k hk1 hk2]
 have:=(ht.2 k o lg hm).2
 omega
theorem d7U(hc:d6Y call){ops:Array Oper}{T:List AV}{o:Oper}{M M':AHeap}{v:AV}(hw:Wf M)(h:c2z P E call ops T M o=some (v,M')):
  ∃ts,M'=aps ts M∧a0f M ts∧Wf M'∧∀H,Sub M H→d4p H M.next M'.next→c2z P E call ops T H o=some (v,aps ts H):=by
 unfold c2z at h
 split at h
 ·rename_i hwt
  split at h
  ·rename_i v1 H1 h1
   cases h
   obtain⟨ts,g1,g2,g3,g4⟩:=d6s hw h1
   exact⟨ts,g1,g2,g3,fun H hs _=>by unfold c2z;simp only[hwt,g4 H hs]⟩
  ·rename_i f args H1 h1
   obtain⟨rfl,g4⟩:=d6s hw h1
   obtain⟨ts,k1,k2,k3,k4⟩:=hc _ _ _ _ _ hw h
   exact⟨ts,k1,k2,k3,fun H hs hf=>by unfold c2z;simp only[hwt,g4 H hs];exact k4 H hs hf⟩
  ·cases h
 ·rename_i hwt
  cases h
  exact⟨[],rfl,a0f.nil _,hw,fun H hs _=>by unfold c2z;simp only[hwt];rfl⟩
 ·cases h
end
end
section
mutual
theorem c7H:∀(a b:AV),a3A a b=true→a=b
 | .bool a,b,h=>by cases b<;>simp_all [a3A]
 | .int j a,b,h=>by cases b<;>simp_all [a3A]
 | .str a,b,h=>by cases b<;>simp_all [a3A]
 | .nilPtr,b,h=>by cases b<;>simp_all [a3A]
 | .ptr o i,b,h=>by cases b<;>simp_all [a3A]
 | .nilSlc,b,h=>by cases b<;>simp_all [a3A]
 | .slc ..,b,h=>by cases b<;>simp_all [a3A]
 | .nilMap,b,h=>by cases b<;>simp_all [a3A]
 | .map k,b,h=>by cases b<;>simp_all [a3A]
 | .fn f x y,b,h=>by
  cases b<;>simp only[a3A,Bool.and_eq_true,decide_eq_true_eq]at h<;>try (cases h;done)
  obtain⟨⟨rfl,h1⟩,h2⟩:=h
  rw[b2l x _ h1,b2l y _ h2]
 | .nilFn,b,h=>by cases b<;>simp_all [a3A]
 | .ifc t v,b,h=>by
  cases b<;>simp only[a3A,Bool.and_eq_true,beq_iff_eq]at h<;>try (cases h;done)
  obtain⟨rfl,h2⟩:=h
  rw[c7H v _ h2]
 | .nilIfc,b,h=>by cases b<;>simp_all [a3A]
 | .agg x,b,h=>by
  cases b<;>simp only[a3A]at h<;>try (cases h;done)
  rw[b2l x _ h]
 | .tup x,b,h=>by
  cases b<;>simp only[a3A]at h<;>try (cases h;done)
  rw[b2l x _ h]
 | .opq v,b,h=>by cases b<;>simp_all [a3A]
theorem b2l:∀(a b:List AV),c2k a b=true→a=b
 | [],b,h=>by cases b<;>simp_all [c2k]
 |x::l,b,h=>by
  cases b<;>simp only[c2k,Bool.and_eq_true]at h<;>try (cases h;done)
  rw[c7H x _ h.1,b2l l _ h.2]
end
theorem d8C{a b:Option X7}(h:d8N a b=true):a=b:=by
 unfold d8N at h
 split at h
 ·rfl
 ·simp only[Bool.and_eq_true,beq_iff_eq]at h
  obtain⟨⟨h1,rfl⟩,rfl⟩:=h
  rw[b2l _ _ h1]
 ·simp only[beq_iff_eq]at h;rw[h]
 ·cases h
theorem d1n:∀ {a b:List (Nat×Option X7)},c8l a b=true→a=b
 | [],b,h=>by cases b<;>simp_all [c8l]
 |x::l,b,h=>by
  cases b<;>simp only[c8l,Bool.and_eq_true,beq_iff_eq]at h<;>try (cases h;done)
  obtain⟨⟨h1,h2⟩,h3⟩:=h
  rw[d1n h3,show x=_ from Prod.ext h1 (d8C h2)]
theorem a3u{p:Nat→r5→Bool}:∀ {ds:List r5} {j:Nat},b2h p j ds=true→∀(i:Nat) (d:r5),ds[i]? =some d→p (j+i) d=true
 | [],j,_,i,d,e=>by simp at e
 |x::ds,j,h,i,d,e=>by
  simp only[b2h,Bool.and_eq_true]at h
  cases i with
  |zero=>simp at e;subst e;exact h.1
  |succ i=>
   have:=a3u h.2 i d (by simpa using e)
   rwa [show j+(i+1)=j+1+i by omega]
theorem d4M{lo hi:Nat}{H:AHeap}:∀x∈b7T lo hi H,x.2=H.get x.1:=by
 intro x hx
 simp only[b7T,List.mem_map]at hx
 obtain⟨k,_,rfl⟩:=hx
 rfl
theorem d4h{lo hi:Nat}{H:AHeap}{k:Nat}:k∈(b7T lo hi H).map (·.1)↔(k∈H.log∧k<lo)∨(lo≤k∧k<hi∧(H.get k).isSome=true):=by
 simp only[b7T,List.map_map,Function.comp_def,List.map_id',List.mem_append,List.mem_filter,decide_eq_true_eq,List.mem_range'_1]
 constructor
 ·rintro(h|⟨⟨h1,h2⟩,h3⟩)
  ·exact .inl h
  ·exact .inr ⟨h1,by omega,h3⟩
 ·rintro(h|⟨h1,h2,h3⟩)
  ·exact .inl h
  ·exact .inr ⟨⟨h1,by omega⟩,h3⟩
theorem d4D(H:AHeap)(lg:List Nat)(k j:Nat)(x:Option X7):({ H with objs:=H.objs.set k x,log:=lg }:AHeap).get j=if k=j then x else H.get j:=by
 simp only[AHeap.get,Trie.get_set]
theorem d7P{lim:Nat}{x:Option X7}{o:X7}(h:d9w lim x=some o):x=some o∧∀p∈E8 o,p<lim:=by
 cases x with
 |none=>cases h
 |some y=>
  simp only[d9w]at h
  split at h
  ·rename_i hp
   cases h
   exact⟨rfl,fun p hm=>by simpa using List.all_eq_true.1 hp p hm⟩
  ·cases h
theorem c4Z{lim:Nat}:∀(kv:List (Nat×Option X7)) {A:AHeap} {k:Nat},lim≤k→(d1t lim kv A).get k=A.get k
 | [],A,k,_=>rfl
 |x::l,A,k,h=>by
  rw[d1t,c4Z l h]
  split
  ·rw[show({ A with objs:=A.objs.set x.1 (d9w lim x.2) }:AHeap).get k=_ from d4D A A.log x.1 k _,if_neg (by omega)]
  ·rfl
theorem c4r{lim:Nat}{p:Nat→r5→Bool}:∀(ds:List r5) (j:Nat) {A:AHeap} {k:Nat},lim≤k→(a8H lim p j ds A).get k=A.get k
 | [],_,A,k,_=>rfl
 |d::ds,j,A,k,h=>by
  rw[a8H,c4r ds _ h]
  split
  ·exact c4Z _ h
  ·rfl
theorem d1p{lim:Nat}:∀(kv:List (Nat×Option X7)) {A:AHeap},(∀k o,A.get k=some o→∀p∈E8 o,p<lim)→∀k o,(d1t lim kv A).get k=some o→∀p∈E8 o,p<lim
 | [],A,h=>h
 |x::l,A,h=>by
  simp only[d1t]
  refine d1p l ?_
  split
  ·intro k o hk
   rw[show({ A with objs:=A.objs.set x.1 (d9w lim x.2) }:AHeap).get k=_ from d4D A A.log x.1 k _]at hk
   split at hk
   ·exact(d7P hk).2
   ·exact h k o hk
  ·exact h
theorem d0I{lim:Nat}{p:Nat→r5→Bool}:∀(ds:List r5) (j:Nat) {A:AHeap},(∀k o,A.get k=some o→∀p∈E8 o,p<lim)→∀k o,(a8H lim p j ds A).get k=some o→∀p∈E8 o,p<lim
 | [],_,A,h=>h
 |d::ds,j,A,h=>by
  simp only[a8H]
  refine d0I ds (j+1) ?_
  split
  ·exact d1p _ h
  ·exact h
theorem d9X{M:AHeap}(hw:Wf M){lim:Nat}(hl:M.next≤lim)(p:Nat→r5→Bool)(j:Nat)(ds:List r5):Wf (atN (a8H lim p j ds M) lim):=
 ⟨fun k hk=>by
  show(a8H lim p j ds M).get k=none
  have hk':lim≤k:=hk
  rw[c4r ds j hk']
  exact hw.1 k (Nat.le_trans hl hk),
  fun k o hk=>d0I ds j (fun k o e q hq=>Nat.lt_of_lt_of_le (hw.2 k o e q hq) hl) k o hk⟩
structure Ok (d:r5):Prop where
 le:d.lo≤d.hi
 val:∃g:Nat→Option X7,∀x∈d.kv,x.2=g x.1
 key:∀k∈d.kv.map (·.1),k<d.hi
 new:d.wr=false→∀k∈d.kv.map (·.1),d.lo≤k
 pre:∀k o,(k,some o)∈d.kv→∀p∈E8 o,p<d.hi
def Ch:Nat→List r5→Nat→Prop
 |a,[],n=>a=n
 |a,d::ds,n=>d.lo=a∧Ok d∧Ch d.hi ds n
theorem Ch.le:∀ {ds:List r5} {a n:Nat},Ch a ds n→a≤n
 | [],a,n,h=>by simp only[Ch]at h;omega
 |d::ds,a,n,h=>by
  obtain⟨h1,h2,h3⟩:=h
  have:=h3.le;have:=h2.le;omega
theorem Ch.snoc:∀ {ds:List r5} {a:Nat} {d:r5},Ch a ds d.lo→Ok d→Ch a (ds++[d]) d.hi
 | [],a,d,h,hd=>by simp only[Ch]at h;exact⟨h.symm,hd,rfl⟩
 |e::ds,a,d,h,hd=>⟨h.1,h.2.1,Ch.snoc h.2.2 hd⟩
theorem Ch.at:∀ {ds:List r5} {a n:Nat},Ch a ds n→∀(i:Nat) (d:r5),ds[i]? =some d→Ok d∧a≤d.lo∧d.hi≤n
 | [],a,n,h,i,d,e=>by simp at e
 |x::ds,a,n,h,i,d,e=>by
  obtain⟨h1,h2,h3⟩:=h
  cases i with
  |zero=>simp at e;subst e;exact⟨h2,by omega,h3.le⟩
  |succ i=>
   obtain⟨g1,g2,g3⟩:=h3.at i d (by simpa using e)
   exact⟨g1,by have:=h2.le;omega,g3⟩
theorem Ch.lt:∀ {ds:List r5} {a n:Nat},Ch a ds n→∀(i j:Nat) (d e:r5),i<j→ds[i]? =some d→ds[j]? =some e→d.hi≤e.lo
 | [],a,n,h,i,j,d,e,_,hd,_=>by simp at hd
 |x::ds,a,n,h,i,j,d,e,hij,hd,he=>by
  obtain⟨h1,h2,h3⟩:=h
  cases j with
  |zero=>omega
  |succ j=>
   cases i with
   |zero=>simp at hd;subst hd;exact(h3.at j e (by simpa using he)).2.1
   |succ i=>exact h3.lt i j d e (by omega) (by simpa using hd) (by simpa using he)
end
section
def A9(D:Nat→Bool):Nat→List r5→List AV→List AV
 |_,[],T=>T
 |j,d::ds,T=>A9 D (j+1) ds (if D j then K1 T d.o.dst d.v else T)
theorem a3B{D D':Nat→Bool}:∀(ds:List r5) (j:Nat) (T:List AV),(∀m,j≤m→m<j+ds.length→D m=D' m)→A9 D j ds T=A9 D' j ds T
 | [],_,_,_=>rfl
 |d::ds,j,H,h=>by
  simp only[A9]
  rw[h j (Nat.le_refl _) (by simp),a3B ds (j+1) _ fun m h1 h2=>h m (by omega) (by simp only[List.length_cons];omega)]
theorem d7q{a b:Option Tmp}{v u:AV}(T:List AV)(h:∀x,a=some x→b≠some x):K1 (K1 T a v) b u=K1 (K1 T b u) a v:=by
 cases a with
 |none=>rfl
 |some x=>
  cases b with
  |none=>rfl
  |some y=>
   simp only[K1]
   exact List.set_comm _ _ (fun e=>h x rfl (by rw[e]))
theorem d0K{D:Nat→Bool}{dst:Option Tmp}{v:AV}:∀(ds:List r5) (j:Nat) (T:List AV),(∀(i:Nat) (d:r5),ds[i]? =some d→D (j+i)=true→∀x,dst=some x→d.o.dst≠some x)→
  A9 D j ds (K1 T dst v)=K1 (A9 D j ds T) dst v
 | [],_,_,_=>rfl
 |d::ds,j,T,h=>by
  simp only[A9]
  rw[←d0K ds (j+1) _ fun i e he hD=>h (i+1) e (by simpa using he) (by rwa [show j+(i+1)=j+1+i by omega])]
  split
  ·rename_i hj
   rw[d7q T (h 0 d rfl (by simpa using hj))]
  ·rfl
theorem b2A{D:Nat→Bool}{d:r5}:∀(ds:List r5) (j i:Nat) (T:List AV),ds[i]? =some d→D (j+i)=false→
  (∀(m:Nat) (e:r5),i<m→ds[m]? =some e→D (j+m)=true→∀x,d.o.dst=some x→e.o.dst≠some x)→
  A9 (fun x=>x==j+i||D x) j ds T=K1 (A9 D j ds T) d.o.dst d.v
 | [],_,_,_,h,_,_=>by simp at h
 |x::ds,j,0,T,h,hD,hdis=>by
  simp at h
  subst h
  have hD':D j=false:=hD
  simp only[A9,Nat.add_zero,beq_self_eq_true,Bool.true_or,if_true,hD',Bool.false_eq_true,if_false]
  rw[a3B (D:=fun x=>x==j||D x) (D':=D) ds (j+1) _ (fun m h1 h2=>by
   have:(m==j)=false:=by simp;omega
   simp only[this,Bool.false_or])]
  exact d0K ds (j+1) _ (fun i e he hDi=>hdis (i+1) e (by omega) (by simpa using he) (by rwa [show j+(i+1)=j+1+i by omega]))
 |x::ds,j,i+1,T,h,hD,hdis=>by
  simp only[A9]
  have e0:(j==j+(i+1)||D j)=D j:=by
   have:(j==j+(i+1))=false:=by simp
   rw[this,Bool.false_or]
  simp only[e0]
  rw[show j+(i+1)=j+1+i by omega]
  exact b2A ds (j+1) i _ (by simpa using h) (by rwa [show j+1+i=j+(i+1) by omega])
   (fun m e hm he hDm=>hdis (m+1) e (by omega) (by simpa using he) (by rwa [show j+(m+1)=j+1+m by omega]))
theorem d0x{T U:List AV}{t:Nat}(h:T[t]? =U[t]?)(dst:Option Tmp)(v:AV):(K1 T dst v)[t]? =(K1 U dst v)[t]? :=by
 cases dst with
 |none=>exact h
 |some d=>
  simp only[K1,List.getElem?_set]
  by_cases e:d=t
  ·subst e
   have:d<T.length↔d<U.length:=by
    constructor
    ·intro e;refine Nat.lt_of_not_le fun e'=> ?_
     rw[List.getElem?_eq_getElem e,List.getElem?_eq_none e']at h;cases h
    ·intro e;refine Nat.lt_of_not_le fun e'=> ?_
     rw[List.getElem?_eq_getElem e,List.getElem?_eq_none e']at h;cases h
   simp only[if_true,this]
  ·simp only[e,if_false,h]
theorem b1Y{T:List AV}{t:Nat}{dst:Option Tmp}(v:AV)(h:dst≠some t):(K1 T dst v)[t]? =T[t]? :=by
 cases dst with
 |none=>rfl
 |some d=>simp only[K1];rw[List.getElem?_set_ne (fun e=>h (by rw[e]))]
theorem b0F{D D':Nat→Bool}{t:Nat}:∀(ds:List r5) (j:Nat) (A B:List AV),(∀(i:Nat) (d:r5),ds[i]? =some d→D (j+i)≠D' (j+i)→d.o.dst≠some t)→A[t]? =B[t]? →
  (A9 D j ds A)[t]? =(A9 D' j ds B)[t]?
 | [],_,_,_,_,h=>h
 |d::ds,j,A,B,hd,h=>by
  simp only[A9]
  refine b0F ds (j+1) _ _ (fun i e he hne=>hd (i+1) e (by simpa using he) (by rwa [show j+(i+1)=j+1+i by omega])) ?_
  have h0:=hd 0 d rfl
  simp only[Nat.add_zero]at h0
  cases h1:D j<;>cases h2:D' j
  ·exact h
  ·simp only[Bool.false_eq_true,if_false,if_true]
   rw[b1Y _ (h0 (by rw[h1,h2];decide)),h]
  ·simp only[Bool.false_eq_true,if_false,if_true]
   rw[b1Y _ (h0 (by rw[h1,h2];decide)),h]
  ·exact d0x h _ _
theorem a7W{D:Nat→Bool}:∀(ds:List r5) (j:Nat) (T:List AV),(∀m,j≤m→D m=false)→A9 D j ds T=T
 | [],_,_,_=>rfl
 |d::ds,j,T,h=>by
  simp only[A9,h j (Nat.le_refl _),Bool.false_eq_true,if_false]
  exact a7W ds (j+1) T fun m hm=>h m (by omega)
theorem a9K:∀(ds:List r5) (i j:Nat) (T:List AV),A9 (fun _=>true) j (ds.take i) T=A9 (fun x=>decide (x<j+i)) j ds T
 | [],i,j,T=>by simp[A9]
 |d::ds,0,j,T=>by
  simp only[List.take_zero,A9.eq_1]
  exact(a7W (d::ds) j T fun m hm=>by simp;omega).symm
 |d::ds,i+1,j,T=>by
  have e1:decide (j<j+(i+1))=true:=by simp
  simp only[List.take_succ_cons,A9,if_true,e1]
  rw[a9K ds i (j+1),show j+1+i=j+(i+1) by omega]
theorem c4v{lim:Nat}{p q:Nat→r5→Bool}:∀(ds:List r5) (j:Nat) (A:AHeap),(∀(i:Nat) (d:r5),ds[i]? =some d→p (j+i) d=q (j+i) d)→a8H lim p j ds A=a8H lim q j ds A
 | [],_,_,_=>rfl
 |d::ds,j,A,h=>by
  simp only[a8H]
  rw[show p j d=q j d from h 0 d rfl]
  exact c4v ds (j+1) _ fun i e he=>by
   have:=h (i+1) e (by simpa using he)
   rwa [show j+(i+1)=j+1+i by omega]at this
end
section
section
variable(P:Program)(E:j6)(call:b8j)(ops:Array Oper)
def Ev(M:AHeap)(d:r5):Prop:=∃H',c2z P E call ops d.T (atN M d.lo) d.o=some (d.v,H')∧H'.next=d.hi∧b7T d.lo d.hi H'=d.kv
structure a6k (H:AHeap) (T0:List AV) (ds:List r5) (T:List AV) (n:Nat):Prop where
 ch:Ch H.next ds n
 row:T=A9 (fun _=>true) 0 ds T0
 op:∀(i:Nat) (d:r5),ds[i]? =some d→ops[i]? =some d.o
 anc:∀(i:Nat) (d:r5),ds[i]? =some d→a1A (ds.take i) d.o.after.toList 0=some d.anc
 old:∀(i:Nat) (d:r5),ds[i]? =some d→d.T=A9 (fun _=>true) 0 (ds.take i) T0
 apart:∀(i j:Nat) (d e:r5),j<i→ds[i]? =some d→ds[j]? =some e→d.anc.testBit j=true∨d.o.apart ops e.o=true
 ev:∀(i:Nat) (d:r5),ds[i]? =some d→Ev P E call ops (a8H d.lo (fun j _=>d.anc.testBit j) 0 (ds.take i) H) d
 wrs:∀(i m:Nat) (d e:r5),ds[i]? =some d→ds[m]? =some e→e.wr=true→m≠i→d.anc.testBit m=false→(i<m→e.anc.testBit i=false)→
  d.wr=false∧Ev P E call ops (a8H d.lo (fun x f=>d.anc.testBit x||(f.wr&&decide (x≤m))) 0 (ds.take (max i (m+1))) H) d∧(i<m→∀k∈e.kv.map (·.1),k<d.lo∨d.hi≤k)
end
section
variable{P:Program}{E:j6}{call:b8j}{ops:Array Oper}
theorem d0H{M:AHeap}{d:r5}(h:d2W P E call ops M d=true):Ev P E call ops M d:=by
 unfold d2W at h
 split at h
 ·rename_i v H' h1
  simp only[Bool.and_eq_true,beq_iff_eq]at h
  obtain⟨⟨⟨a,b⟩,c⟩,e⟩:=h
  rw[←c7H _ _ a]at h1
  exact⟨H',h1,b,(d1n e).symm⟩
 ·cases h
theorem y8{α:Type}{ds:List α}{d x:α}{i:Nat}(h:(ds++[d])[i]? =some x):(i<ds.length∧ds[i]? =some x)∨(i=ds.length∧x=d):=by
 rw[List.getElem?_append]at h
 split at h
 ·rename_i hl;exact .inl ⟨hl,h⟩
 ·rename_i hl
  right
  by_cases e:i=ds.length
  ·subst e;simp at h;exact⟨rfl,h.symm⟩
  ·rw[List.getElem?_eq_none (by simp;omega)]at h;cases h
theorem a9P{D:Nat→Bool}:∀(ds:List r5) (j:Nat) (d:r5) (T:List AV),A9 D j (ds++[d]) T=(if D (j+ds.length) then K1 (A9 D j ds T) d.o.dst d.v else A9 D j ds T)
 | [],j,d,T=>by simp[A9]
 |e::ds,j,d,T=>by
  simp only[List.cons_append,A9,List.length_cons]
  rw[a9P ds,show j+1+ds.length=j+(ds.length+1) by omega]
theorem a6k.snoc{H:AHeap}{T0:List AV}{ds:List r5}{T:List AV}{n:Nat}(hw:Wf H)(hc:d6Y call)(G:a6k P E call ops H T0 ds T n){o:Oper}(ho:ops[ds.length]? =some o){anc:Nat}
  (hanc:a1A ds o.after.toList 0=some anc) (hap:b2h (fun j e=>anc.testBit j||o.apart ops e.o) 0 ds=true) {v:AV} {H':AHeap}
  (hst:c2z P E call ops T (atN (a8H n (fun j _=>anc.testBit j) 0 ds H) n) o=some (v,H')) {d:r5}
  (hd:d=⟨o,anc,T,v,n,H'.next, !(H'.log.all fun k=>decide (n≤k)),b7T n H'.next H'⟩) (hchk:d1F P E call ops H ds d=true):
  a6k P E call ops H T0 (ds++[d]) (K1 T o.dst v) H'.next:=by
 have hle:=G.ch.le
 have hwm:=d9X hw hle (fun j _=>anc.testBit j) 0 ds
 obtain⟨ts,e1,e2,e3,_⟩:=d7U hc hwm hst
 have hn:n≤H'.next:=by rw[e1];exact e2.1
 have hlog:∀k∈H'.log,k<H'.next:=by
  intro k hk
  rw[e1,d6j]at hk
  rcases hk with hk|⟨x,hk⟩
  ·simp[atN]at hk
  ·rw[e1];exact(e2.2 _ _ _ hk).2
 have hkeys:∀k∈(b7T n H'.next H').map (·.1),k<H'.next:=by
  intro k hk
  rcases d4h.1 hk with hk|hk
  ·exact hlog k hk.1
  ·exact hk.2.1
 have okd:Ok d:=by
  subst hd
  refine⟨hn,⟨H'.get,d4M⟩,hkeys, ?_, ?_⟩
  ·intro hwr k hk
   simp only[Bool.not_eq_false']at hwr
   rcases d4h.1 hk with hk|hk
   ·exact of_decide_eq_true (List.all_eq_true.1 hwr k hk.1)
   ·exact hk.1
  ·intro k x hx p hp
   have:=d4M _ hx
   exact e3.2 k x this.symm p hp
 have hlo:d.lo=n:=by rw[hd]
 have hhi:d.hi=H'.next:=by rw[hd]
 have hdo:d.o=o:=by rw[hd]
 have hdv:d.v=v:=by rw[hd]
 have hdanc:d.anc=anc:=by rw[hd]
 have hdT:d.T=T:=by rw[hd]
 refine⟨?_, ?_, ?_, ?_, ?_, ?_, ?_, ?_⟩
 ·rw[←hhi];exact Ch.snoc (by rw[hlo];exact G.ch) okd
 ·rw[a9P,if_pos rfl, ←G.row,hdo,hdv]
 ·intro i x hx
  rcases y8 hx with ⟨_,h⟩|⟨rfl,rfl⟩
  ·exact G.op i x h
  ·rw[hdo];exact ho
 ·intro i x hx
  rcases y8 hx with ⟨hl,h⟩|⟨rfl,rfl⟩
  ·rw[List.take_append_of_le_length (by omega)];exact G.anc i x h
  ·rw[List.take_append_of_le_length (Nat.le_refl _),List.take_length,hdo,hdanc];exact hanc
 ·intro i x hx
  rcases y8 hx with ⟨hl,h⟩|⟨rfl,rfl⟩
  ·rw[List.take_append_of_le_length (by omega)];exact G.old i x h
  ·rw[List.take_append_of_le_length (Nat.le_refl _),List.take_length,hdT];exact G.row
 ·intro i j x y hij hx hy
  rcases y8 hx with ⟨hl,h⟩|⟨rfl,rfl⟩
  ·rcases y8 hy with ⟨hl',h'⟩|⟨rfl,rfl⟩
   ·exact G.apart i j x y hij h h'
   ·omega
  ·rcases y8 hy with ⟨hl',h'⟩|⟨rfl,rfl⟩
   ·have:=a3u hap j y h'
    simp only[Nat.zero_add,Bool.or_eq_true]at this
    rw[hdanc,hdo];exact this
   ·omega
 ·intro i x hx
  rcases y8 hx with ⟨hl,h⟩|⟨rfl,rfl⟩
  ·rw[List.take_append_of_le_length (by omega)];exact G.ev i x h
  ·rw[List.take_append_of_le_length (Nat.le_refl _),List.take_length,hlo,hdanc]
   refine⟨H', ?_,hhi.symm, ?_⟩
   ·rw[hdT,hlo,hdo,hdv];exact hst
   ·rw[hlo,hhi,hd]
 ·intro i m x y hx hy hyw hmi hanx hany
  rcases y8 hx with ⟨hl,h⟩|⟨rfl,rfl⟩
  ·rcases y8 hy with ⟨hl',h'⟩|⟨rfl,rfl⟩
   ·rw[List.take_append_of_le_length (by omega)];exact G.wrs i m x y h h' hyw hmi hanx hany
   ·have hany':=hany hl
    unfold d1F at hchk
    rw[if_pos hyw]at hchk
    have:=a3u hchk i x h
    simp only[Nat.zero_add,Bool.or_eq_true,Bool.and_eq_true,Bool.not_eq_true',hany',Bool.false_eq_true,false_or]at this
    obtain⟨⟨a1,a2⟩,a3⟩:=this
    refine⟨a1, ?_,fun _ k hk=> ?_⟩
    ·have hmax:max i (ds.length+1)=ds.length+1:=by omega
     have htake:(ds++[y]).take (ds.length+1)=ds++[y]:=List.take_of_length_le (by simp)
     rw[hmax,htake]
     rw[c4v (p:=fun x_1 f=>x.anc.testBit x_1||(f.wr&&decide (x_1≤ds.length))) (q:=fun x_1 f=>x.anc.testBit x_1||f.wr)]
     ·exact d0H a3
     ·intro i' e' he'
      have hi':i'≤ds.length:=by
       rcases y8 he' with ⟨q,_⟩|⟨q,_⟩<;>omega
      simp[hi']
    ·simp only[List.mem_map]at hk
     obtain⟨z,hz,rfl⟩:=hk
     have:=List.all_eq_true.1 a2 z hz
     simpa using this
  ·rcases y8 hy with ⟨hl',h'⟩|⟨rfl,rfl⟩
   ·cases hxw:x.wr with
    |true=>
     unfold d1F at hchk
     rw[if_pos hxw]at hchk
     have:=a3u hchk m y h'
     simp only[Nat.zero_add,Bool.or_eq_true,Bool.and_eq_true,Bool.not_eq_true',hanx,hyw,Bool.false_eq_true,false_or,Bool.true_eq_false,false_and]at this
    |false=>
     unfold d1F at hchk
     rw[if_neg (by rw[hxw];exact Bool.false_ne_true)]at hchk
     have:=a3u hchk m y h'
     simp only[Nat.zero_add,Bool.or_eq_true,Bool.not_eq_true',hanx,hyw,Bool.false_eq_true,Bool.true_eq_false,false_or]at this
     refine⟨rfl, ?_,fun q=>by omega⟩
     have hmax:max ds.length (m+1)=ds.length:=by omega
     rw[hmax,List.take_append_of_le_length (Nat.le_refl _),List.take_length]
     exact d0H this
   ·exact(hmi rfl).elim
end
end
section
section
variable{P:Program}{E:j6}{call:b8j}
theorem a6k.nil{ops:Array Oper}(H:AHeap)(T:List AV):a6k P E call ops H T [] T H.next:=by
 refine⟨rfl,rfl, ?_, ?_, ?_, ?_, ?_, ?_⟩<;>intros<;>simp_all
end
end
section
section
variable{E:j6}{w0:World}{P:Program}
theorem c3G{ρ:B7}{T:List AV}{vs:Array Value}(h:w5 ρ T vs.toList)(t:Nat):rel ρ (T.getD t A8) (vs.getD t undef):=by
 have hl:=B2 h
 simp only[Array.length_toList]at hl
 by_cases ht:t<T.length
 ·obtain⟨v,h1,h2⟩:=a8b h t (List.getElem?_eq_getElem ht)
  have h1':vs[t]? =some v:=by simpa using h1
  rw[List.getD_eq_getElem?_getD,List.getElem?_eq_getElem ht]
  rw[Array.getD_eq_getD_getElem?,h1']
  exact h2
 ·rw[List.getD_eq_getElem?_getD,List.getElem?_eq_none (by omega),Array.getD_eq_getD_getElem?,Array.getElem?_eq_none (by omega)]
  exact a5g
theorem a8a{ρ:B7}{T:List AV}{a:Act}(h:w5 ρ T a.tmps.toList):∀x,rel ρ (p8 T x) (a.eval x)
 | .tmp t=>c3G h t
 | .const v=>c3V v
 | .global g=>by simp only[p8,Act.eval,rel,Q3];exact⟨g,0,rfl,rfl⟩
 | .func f=>by
  simp only[p8,Act.eval,rel]
  exact⟨#[], #[],rfl,u9.2 rfl,u9.2 rfl⟩
theorem a5C{ρ:B7}{T:List AV}{a:Act}{dst:Option Tmp}{v:AV}{vv:Value}(h:w5 ρ T a.tmps.toList)(hv:rel ρ v vv):w5 ρ (K1 T dst v) (a.put dst vv).tmps.toList:=by
 cases dst with
 |none=>exact h
 |some d=>
  simp only[K1,Act.put,Array.toList_setIfInBounds]
  exact d3C h d hv
theorem c9E{ρ:B7}{ops:Array Oper}{T:List AV}{tmps:Array Value}{o:Oper}{b:Bool}(h:a0w ops T o=some b)(hr:w5 ρ T tmps.toList):
  Region.wanted o (yielded ops tmps)=b:=by
 have hl:=B2 hr
 simp only[Array.length_toList]at hl
 unfold a0w at h
 unfold Region.wanted
 split at h
 ·rename_i hg;rw[hg];cases h;rfl
 ·rename_i j want hg
  rw[hg]
  simp only
  split at h
  ·rename_i hd
   cases h
   simp[yielded,hd]
  ·rename_i d hd
   have hy:yielded ops tmps j=(match tmps[d]? with|some (.bool b)=>some b|_=>none):=by
    unfold yielded
    rw[hd]
    rfl
   rw[hy]
   split at h
   ·rename_i b' hb
    cases h
    obtain⟨v,h1,h2⟩:=a8b hr d hb
    simp only[rel]at h2;subst h2
    rw[show tmps[d]? =some (.bool b') by simpa using h1]
    simp only
    cases b'<;>cases want<;>rfl
   ·cases h
   ·rename_i h1 h2
    cases h
    cases hT:T[d]? with
    |none=>
     have:tmps[d]? =none:=by
      rw[Array.getElem?_eq_none_iff]
      have:=List.getElem?_eq_none_iff.1 hT
      omega
     rw[this];cases want<;>rfl
    |some x=>
     obtain⟨v,g1,g2⟩:=a8b hr d hT
     rw[show tmps[d]? =some v by simpa using g1]
     cases v with
     |bool bb=>
      cases x<;>simp[rel]at g2
      ·subst g2;exact(h1 _ hT).elim
      ·subst g2;exact(h2 _ hT).elim
     |_=>cases want<;>rfl
structure Und (M H:AHeap) (n:Nat):Prop where
 wf:Wf M
 sub:Sub M H
 free:d4p H M.next n
theorem Und.head{M H:AHeap}{m n:Nat}(h:Und M H n)(hm:m≤n):Und M H m:=⟨h.wf,h.sub,h.free.sub h.wf (Nat.le_refl _) hm⟩
theorem Und.step{M H:AHeap}{n:Nat}{ts:List Tr}(h:Und M H n)(ht:a0f M ts)(hw:Wf (aps ts M)):Und (aps ts M) (aps ts H) n:=
 ⟨hw,h.sub.aps ts,ht.free (Nat.le_refl _) (h.free.sub h.wf ht.1 (Nat.le_refl _))⟩
theorem Und.le{M H:AHeap}{n:Nat}{ts:List Tr}(h:Und M H n)(ht:a0f M ts):H.next≤(aps ts H).next:=by
 rw[c4w ts h.sub.next,h.sub.next];exact ht.1
variable{call:b8j}
def St(E:j6)(w0:World)(H0:AHeap)(ρ0:B7)(ds:List Deferred)(T:List AV)(H:AHeap)(a:Act)(w:World):Prop:=
 ∃ρ,Ext ρ0 ρ∧(∀k,¬(H0.next≤k∧k<H.next)→ρ k=ρ0 k)∧w5 ρ T a.tmps.toList∧K9 E w0 H w ρ∧H0.next≤H.next∧a.defers=ds
theorem St.trans{H0 H1 H2:AHeap}{ρ0 ρ1:B7}{ds:List Deferred}{T:List AV}{a:Act}{w:World}(h1:Ext ρ0 ρ1)(h2:∀k,¬(H0.next≤k∧k<H1.next)→ρ1 k=ρ0 k)(h3:H0.next≤H1.next)
  (h:St E w0 H1 ρ1 ds T H2 a w):St E w0 H0 ρ0 ds T H2 a w:=by
 obtain⟨ρ,g1,g2,g3,g4,g5,g6⟩:=h
 refine⟨ρ,h1.trans g1,fun k hk=> ?_,g3,g4,by omega,g6⟩
 rw[g2 k (by omega),h2 k (by omega)]
theorem a4P.tail{H0 H1 H2:AHeap}{ρ0 ρ1:B7}(h:a4P ρ0 H0 H2)(h2:∀k,¬(H0.next≤k∧k<H1.next)→ρ1 k=ρ0 k)(h3:H0.next≤H1.next):a4P ρ1 H1 H2:=by
 intro k hk1 hk2
 rw[h2 k (by omega)]
 exact h k (by omega) hk2
theorem a4P.head{H0 H1 H2:AHeap}{ρ0:B7}(h:a4P ρ0 H0 H2)(h3:H1.next≤H2.next):a4P ρ0 H0 H1:=fun k hk1 hk2=>h k hk1 (by omega)
theorem b3I(a:Act)(dst:Option Tmp)(v:Value):(a.put dst v).defers=a.defers:=by cases dst<;>rfl
end
end
section
section
variable{E:j6}{w0:World}{P:Program}
def e0s:o6→Exit
 | .normal=> .normal
 | .exit id=> .exit id
 | .ret=> .ret
variable{call:b8j}
theorem St.log{H0 H H':AHeap}{ρ:B7}{ds:List Deferred}{T:List AV}{a:Act}{w:World}(h:St E w0 H0 ρ ds T H a w)(ho:H'.objs=H.objs)(hn:H'.next=H.next):St E w0 H0 ρ ds T H' a w:=by
 obtain⟨ρ',g1,g2,g3,g4,g5,g6⟩:=h
 exact⟨ρ',g1,by rw[hn];exact g2,g3,g4.log_eq ho,by omega,g6⟩
theorem d1b{α:Type}{f:α→Option AV}{g:α→Sem Value}{w:World}{ρ:B7}(hfg:∀x a,f x=some a→∃v,(g x).run P w= .ok v w∧rel ρ a v):∀ {l:List α} {r:List AV},l.mapM f=some r→
  ∃vs,(l.mapM g).run P w= .ok vs w∧w5 ρ r vs
 | [],r,h=>by simp at h;subst h;exact⟨[],rfl,u9.2 rfl⟩
 |x::l,r,h=>by
  simp only[List.mapM_cons,Option.bind_eq_bind,Option.bind_eq_some_iff]at h
  obtain⟨a,ha,as,has,h⟩:=h
  cases h
  obtain⟨v,h1,h2⟩:=hfg x a ha
  obtain⟨vs,g1,g2⟩:=d1b hfg has
  exact⟨v::vs,by simp[List.mapM_cons,h1,g1],r7.2 ⟨h2,g2⟩⟩
theorem c8g{H:AHeap}{w:World}{ρ:B7}(R:K9 E w0 H w ρ){fn:Func}{T:List AV}{v:AV}{tmps:Array Value}(h:c1P P E H fn T=some v)(hT:w5 ρ T tmps.toList):
  ∃u,(results fn tmps).run P w= .ok u w∧rel ρ v u:=by
 unfold c1P at h
 simp only[Option.bind_eq_bind,Option.bind_eq_some_iff]at h
 obtain⟨r,hr,h⟩:=h
 obtain⟨vs,g1,g2⟩:=d1b (P:=P) (w:=w) (ρ:=ρ) (g:=fun
  | .tmp t=>pure (tmps.getD t undef)
  | .cell a t=>do loadVar t (←asAddr (tmps.getD a undef))) (by
   intro x a hx
   cases x with
   |tmp t=>simp only at hx;cases hx;exact⟨_,rfl,c3G hT t⟩
   |cell a t=>
    simp only at hx
    split at hx
    ·rename_i o i ha
     have hr:=c3G hT a
     rw[ha]at hr
     simp only[rel]at hr
     obtain⟨b,d,hb,hv⟩:=hr
     obtain⟨b',d',u,k1,k2,k3⟩:=a8Q (P:=P) R hx
     rw[hb]at k1;cases k1
     refine⟨u, ?_,k3⟩
     simp only[hv,asAddr,Sem.run_bind,Sem.run_pure,Result.andThen_ok,k2]
    ·cases hx) hr
 have hm:(fn.results.mapM (fun
  | .tmp t=>pure (tmps.getD t undef)
  | .cell a t=>do loadVar t (←asAddr (tmps.getD a undef)):ResultVar→Sem Value)).run P w= .ok ⟨vs⟩ w:=by
  rw[Array.mapM_eq_mapM_toList]
  simp only[Sem.run_map,g1,Result.andThen_ok]
 have hl:=B2 g2
 have hrun:(results fn tmps).run P w= .ok (if h:(⟨vs⟩:Array Value).size=1 then(⟨vs⟩:Array Value)[0]else .tuple ⟨vs⟩) w:=by
  unfold results
  rw[Sem.run_bind]
  erw [hm]
  rfl
 refine⟨_,hrun, ?_⟩
 split at h
 ·rename_i v'
  cases h
  obtain⟨x,rfl,hx⟩:=d1E g2
  simpa using hx
 ·rename_i hne
  cases h
  have:vs.length≠1:=by
   intro e
   rw[e]at hl
   obtain⟨x,rfl⟩:=List.length_eq_one_iff.1 hl
   exact hne x rfl
  rw[dif_neg (by simpa using this)]
  simp only[rel]
  exact⟨_,rfl,g2⟩
end
end
section
theorem b5C{ds:List r5}:∀(es:List Edge) (m r:Nat),a1A ds es m=some r→∀e∈es,Region.binds .any e=true→e.on<ds.length
 | [],m,r,h,e,he,_=>by cases he
 |x::es,m,r,h,e,he,hb=>by
  simp only[a1A]at h
  split at h
  ·rename_i hx
   split at h
   ·rename_i d hd
    rcases List.mem_cons.1 he with rfl|he
    ·exact(List.getElem?_eq_some_iff.1 hd).1
    ·exact b5C es _ _ h e he hb
   ·cases h
  ·rename_i hx
   rcases List.mem_cons.1 he with rfl|he
   ·exact(hx hb).elim
   ·exact b5C es _ _ h e he hb
theorem b2e{ds:List r5}{S:Nat→Prop}:∀(es:List Edge) (m r:Nat),a1A ds es m=some r→(∀j,m.testBit j=true→S j)→
  (∀e∈es,Region.binds .any e=true→S e.on∧∀d,ds[e.on]? =some d→∀j,d.anc.testBit j=true→S j)→∀j,r.testBit j=true→S j
 | [],m,r,h,hm,_=>by simp only[a1A]at h;cases h;exact hm
 |x::es,m,r,h,hm,he=>by
  simp only[a1A]at h
  split at h
  ·rename_i hx
   split at h
   ·rename_i d hd
    refine b2e es _ _ h ?_ fun e hm=>he e (List.mem_cons_of_mem _ hm)
    obtain⟨h1,h2⟩:=he x List.mem_cons_self hx
    intro j hj
    rw[Nat.testBit_or,Nat.testBit_or,Nat.testBit_two_pow,Bool.or_eq_true,Bool.or_eq_true,decide_eq_true_eq]at hj
    rcases hj with (hj|rfl)|hj
    ·exact hm j hj
    ·exact h1
    ·exact h2 d hd j hj
   ·cases h
  ·exact b2e es _ _ h hm fun e hm=>he e (List.mem_cons_of_mem _ hm)
section
variable{E:j6}{w0:World}{P:Program}{call:b8j}{ops:Array Oper}
def J7(L:Array Bool)(x:Nat):Bool:=L.getD x false
def b6u(ds:List r5)(L:Array Bool):Prop:=∀(i:Nat) (d:r5),ds[i]? =some d→J7 L i=true→∀j,d.anc.testBit j=true→J7 L j=true
theorem a6k.ready_anc{H:AHeap}{T0 T:List AV}{ds:List r5}{n:Nat}(G:a6k P E call ops H T0 ds T n){L:Array Bool}(hcl:b6u ds L){i:Nat}{d:r5}(hd:ds[i]? =some d)
  (ha:∀e∈d.o.after,Region.binds .any e=true→L.getD e.on false=true):∀j,d.anc.testBit j=true→J7 L j=true:=by
 refine b2e (S:=fun j=>J7 L j=true) _ _ _ (G.anc i d hd) (fun j hj=>by simp at hj) ?_
 intro e he hb
 have h1:J7 L e.on=true:=ha e (by simpa using he) hb
 refine⟨h1,fun d' hd' j hj=> ?_⟩
 rw[List.getElem?_take]at hd'
 split at hd'
 ·exact hcl _ _ hd' h1 j hj
 ·cases hd'
theorem a6k.agree{M:AHeap}{T0 T:List AV}{ds:List r5}{n:Nat}(G:a6k P E call ops M T0 ds T n){L:Array Bool}(hcl:b6u ds L){i:Nat}{d:r5}(hd:ds[i]? =some d)
  (hi:J7 L i=false) (ha:∀j,d.anc.testBit j=true→J7 L j=true):c4x ops d.o (A9 (J7 L) 0 ds T0) d.T:=by
 intro t ht
 rw[G.old i d hd,a9K]
 refine b0F ds 0 T0 T0 ?_ rfl
 intro x e he hne hdst
 simp only[Nat.zero_add]at hne
 by_cases hxi:x<i
 ·have:J7 L x=false:=by
   cases hb:J7 L x with
   |false=>rfl
   |true=>rw[hb]at hne;exact(hne (by simp[hxi])).elim
  rcases G.apart i x d e hxi hd he with h|h
  ·have:=ha x h;simp_all
  ·exact(Oper.apart_spec h).2.2 t hdst ht
 ·have hx:J7 L x=true:=by
   cases hb:J7 L x with
   |true=>rfl
   |false=>rw[hb]at hne;exact(hne (by simp[hxi])).elim
  have hix:i<x:=by
   have:x≠i:=by rintro rfl;rw[hi]at hx;cases hx
   omega
  rcases G.apart x i e d hix he hd with h|h
  ·have:=hcl x e he hx i h;rw[hi]at this;cases this
  ·exact(Oper.apart_spec h).1 t hdst ht
theorem a4k{L:Array Bool}{i:Nat}(h:i<L.size)(x:Nat):J7 (L.setIfInBounds i true) x=(x==i||J7 L x):=by
 unfold J7
 by_cases e:x=i
 ·subst e
  simp[h]
 ·have:(x==i)=false:=by simp[e]
  rw[this,Bool.false_or,getD_set_ne _ (Ne.symm e)]
end
end
section
section
variable{E:j6}{w0:World}{P:Program}{call:b8j}{ops:Array Oper}
def unl(n:Nat)(L:Array Bool):Nat:=(List.range n).countP fun x=> !J7 L x
theorem c4M{p q:Nat→Bool}{i:Nat}:∀(l:List Nat),(∀x∈l,q x=true→p x=true)→i∈l→p i=true→q i=false→l.countP q<l.countP p
 | [],_,h,_,_=>by cases h
 |x::l,h,hm,hp,hq=>by
  have hmono:l.countP q≤l.countP p:=List.countP_mono_left fun y hy=>h y (List.mem_cons_of_mem _ hy)
  by_cases hxi:x=i
  ·subst hxi
   rw[List.countP_cons_of_pos hp,List.countP_cons_of_neg (by rw[hq];exact Bool.false_ne_true)]
   omega
  ·have hm':i∈l:=by
    rcases List.mem_cons.1 hm with e|e
    ·exact(hxi e.symm).elim
    ·exact e
   have:=c4M l (fun y hy=>h y (List.mem_cons_of_mem _ hy)) hm' hp hq
   have hx:=h x List.mem_cons_self
   rw[List.countP_cons,List.countP_cons]
   cases hqx:q x
   ·simp;omega
   ·rw[hx hqx];simp;omega
theorem c1M{n i:Nat}{L:Array Bool}(hn:i<n)(hs:i<L.size)(h:J7 L i=false):unl n (L.setIfInBounds i true)<unl n L:=by
 refine c4M (i:=i) _ ?_ (List.mem_range.2 hn) (by rw[h];rfl) (by rw[a4k hs];simp)
 intro x _ hx
 rw[a4k hs]at hx
 simp only[Bool.not_eq_true',Bool.or_eq_false_iff]at hx
 rw[hx.2];rfl
theorem b5A{n:Nat}{L:Array Bool}(h:unl n L=0)(i:Nat)(hi:i<n):J7 L i=true:=by
 have:=List.countP_eq_zero.1 h i (List.mem_range.2 hi)
 simpa using this
theorem all_listed{M:AHeap}{T0 T:List AV}{ds:List r5}{n:Nat}(G:a6k P E call ops M T0 ds T n)(hlen:ds.length=ops.size){L:Array Bool}(hsz:L.size=ops.size)(h:Region.ready .any ops L=[]):∀(N j:Nat),j<N→j<ops.size→J7 L j=true
 |0,j,h,_=>by omega
 |N+1,j,hj,hjs=>by
  cases hb:J7 L j with
  |true=>rfl
  |false=>
   have hm:j∈Region.ready .any ops L:=by
    rw[mem_ready]
    refine⟨?_,ops[j],Array.getElem?_eq_getElem hjs,fun e he hbn=> ?_⟩
    ·unfold J7 at hb
     rw[Array.getD_eq_getD_getElem?]at hb ⊢
     rw[Array.getElem?_eq_getElem (by omega)]at hb ⊢
     exact hb
    ·have hd:ds[j]? =some (ds[j]'(by omega)):=List.getElem?_eq_getElem (by omega)
     have hop:=G.op j _ hd
     rw[Array.getElem?_eq_getElem hjs]at hop
     rw[Option.some.inj hop]at he
     have hon:=b5C _ _ _ (G.anc j _ hd) e (by simpa using he) hbn
     rw[List.length_take]at hon
     exact all_listed G hlen hsz h N e.on (by omega) (by omega)
   rw[h]at hm
   cases hm
end
end
section
open Go.ChangeShapes Go.WideShapes Go.ChangeAt Go.RowKit
def c6f(W w:World):Prop:=w.os=W.os∧w.output=W.output∧∀b,b<W.heap.size→w.heap[b]? =W.heap[b]?
theorem c6f.but{W w:World}(h:c6f W w)(may:MemPlace→Prop):W.keptBut w may:=by
 refine⟨h.1,h.2.1,fun i hi=> ?_⟩
 rw[h.2.2 i hi]
 cases e:W.heap[i]? with
 |none=>simp
 |some o=>cases o<;>simp
theorem c6f.frozen{W w:World}(h:c6f W w)(a:Addr)(ha:a.block<W.heap.size):w.frozen? a=W.frozen? a:=by
 unfold World.frozen?
 rw[h.2.2 a.block ha]
theorem Wf.empty:Wf AHeap.empty:=by
 refine⟨fun k _=> ?_,fun k o e=> ?_⟩
 ·simp[AHeap.empty,AHeap.get,Trie.get]
 ·simp[AHeap.empty,AHeap.get,Trie.get]at e
theorem K9.start(E:j6)(W:World)(hE:∀b cs,E b=some cs→b<W.heap.size∧∃arr el fr,W.heap[b]? =some (.cells arr el fr)∧w5 (fun _=>none) cs arr.toList):K9 E W AHeap.empty W (fun _=>none):=by
 have hg:∀k o,AHeap.empty.get k=some o→False:=fun k o e=>by simp[AHeap.empty,AHeap.get,Trie.get]at e
 exact⟨Nat.le_refl _,fun _ _=>rfl,hE,⟨rfl,rfl⟩,fun k o e=>(hg k o e).elim,fun k _ o _ _ _ e=>(hg k o e).elim,fun k o e=>(hg k o e).elim,fun k _ o _ _ _ e=>(hg k o e).elim⟩
variable{P:Program}{H:Type}{enc:TypeId×Value→H}
theorem d3b{f:Func}{s:ChangeSpec}{apart fresh handsOn again:Bool}{W W':World}{args:Array Value}{v:Value}{ds gs:List (DataW H)}{before pa pv:List MemPlace}
  (hW:DataW.Whole enc P f.params.toList s.vars apart W args.toList ds gs before)
  (hres:∀(b:Nat) (sp:Nat→Bool) (hd:Bool),DataW.TrodAll enc P W' b sp hd f.resultTypes.toList (v.resultList f.resultTypes.size) (s.fn H (ds++gs)).results [])
  (hargs:∀sp:Nat→Bool,(∀p∈before,sp p.block=true)→DataW.TrodAll enc P W' 0 sp true f.params.toList args.toList (s.fn H (ds++gs)).args pa)
  (hvars:∀sp:Nat→Bool,(∀p∈before,sp p.block=true)→DataW.TrodVars enc P W' sp s.vars (s.fn H (ds++gs)).vars pv)
  (hps:before=pa++pv) (hk:c6f W W')
  (hok:∀(j:Nat) (t:TypeId) (r:Value),f.resultTypes[j]? =some t→(v.resultList f.resultTypes.size)[j]? =some r→Value.okWide P W' .any 0 t r):
  s.post enc P f apart fresh handsOn again W args v W':=by
 have hlt:∀p∈before,p.block<W.heap.size:=fun p hp=>hW.lt p hp
 have hold:∀p∈before,(fun b=>decide (b<W.heap.size)) p.block=true:=fun p hp=>by simpa using hlt p hp
 subst hps
 have hW0:=hW
 obtain⟨_,_,_,_,_,hz,hn⟩:=hW0
 refine⟨ds,gs,pa++pv,[],pa,pv,hW,hres _ _ _,hargs _ hold,hvars _ hold,hk.but _,fun _=>⟨hok,_,_,([]++pa)++pv,⟨[]++pa,pv,trodAll_append (hargs _ fun _ _=>rfl) (hres _ _ _),hvars _ fun _ _=>rfl,rfl, ?_, ?_⟩, ?_⟩⟩
 ·intro b off hp
  have hp':MemPlace.cell b off∈pa++pv:=by simpa using hp
  rw[hk.frozen _ (hlt _ hp')]
  exact hz b off hp'
 ·intro ha
  simpa using hn ha
 ·intro p hp _
  simpa using hp
end
end Go.Am
end
