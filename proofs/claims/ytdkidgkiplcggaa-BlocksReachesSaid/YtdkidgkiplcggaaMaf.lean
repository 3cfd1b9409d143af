/-
  BlocksReachesSaid: part Maf of its proof.
-/
import Derived.Test.YtdkidgkiplcggaaMae
import Derived.LoopN
set_option linter.unusedVariables false
set_option linter.unusedSimpArgs false
set_option maxRecDepth 100000
section
namespace Go.Am
section
inductive Tr where
 |put (k:Nat) (o:Option D4) (lg:Bool)
 |next (n:Nat)
def Tr.ap:Tr→AHeap→AHeap
 | .put k o lg,H=> { H with objs:=H.objs.set k o,log:=if lg then k::H.log else H.log }
 | .next n,H=> { H with next:=n }
def aps:List Tr→AHeap→AHeap
 | [],H=>H
 |t::ts,H=>aps ts (t.ap H)
theorem L0:∀(a b:List Tr) (H:AHeap),aps (a++b) H=aps b (aps a H)
 | [],_,_=>rfl
 |t::a,b,H=>L0 a b (t.ap H)
structure Sub (M H:AHeap):Prop where
 get:∀k o,M.get k=some o→H.get k=some o
 next:H.next=M.next
 log:H.log=M.log
theorem Sub.refl(H:AHeap):Sub H H:=⟨fun _ _ h=>h,rfl,rfl⟩
theorem Sub.ap{M H:AHeap}(h:Sub M H)(t:Tr):Sub (t.ap M) (t.ap H):=by
 cases t with
 |put k o lg=>
  refine⟨fun j x hx=> ?_,h.next,by simp only[Tr.ap,h.log]⟩
  simp only[Tr.ap,AHeap.get,Trie.get_set]at hx ⊢
  split
  ·rename_i e;rwa [if_pos e]at hx
  ·rename_i e;rw[if_neg e]at hx;exact h.get j x hx
 |next n=>exact⟨h.get,rfl,h.log⟩
theorem Sub.aps{M H:AHeap}:∀(ts:List Tr),Sub M H→Sub (aps ts M) (aps ts H)
 | [],h=>h
 |t::ts,h=>Sub.aps ts (h.ap t)
def K2(M:AHeap)(ts:List Tr):Prop:=M.next≤(aps ts M).next∧∀k o lg,Tr.put k o lg∈ts→(lg=false→M.next≤k)∧k<(aps ts M).next
def Wf(M:AHeap):Prop:=(∀k,M.next≤k→M.get k=none)∧∀k o,M.get k=some o→∀p∈p8 o,p<M.next
theorem K2.nil(M:AHeap):K2 M []:=⟨Nat.le_refl _,by simp⟩
section
variable{E:d6}{P:Program}{M H:AHeap}
theorem a5I(h:Sub M H){o:Id}{cs:List AV}(e:cellsOf E M o=some cs):cellsOf E H o=some cs:=by
 cases o with
 |old b=>exact e
 |new k=>
  simp only[cellsOf]at e ⊢
  split at e
  ·rename_i cs' wr pre hk;rw[h.get _ _ hk];exact e
  ·cases e
theorem b6N(h:Sub M H){o:Id}{i:Nat}{a:AV}(e:a2p E M o i=some a):a2p E H o i=some a:=by
 unfold a2p at e ⊢
 split at e
 ·rename_i cs hc;rw[a5I h hc];exact e
 ·cases e
theorem a3G(h:Sub M H){o:Id}{i n:Nat}{a:List AV}(e:A2 E M o i n=some a):A2 E H o i n=some a:=by
 unfold A2 at e ⊢
 split at e
 ·rename_i cs hc;rw[a5I h hc];exact e
 ·cases e
theorem b1Z(h:Sub M H){o:Id}{i n:Nat}{a:List AV}(e:C8 E M o i n=some a):C8 E H o i n=some a:=by
 unfold C8 at e ⊢
 split at e
 ·rename_i h0;rw[if_pos h0];exact e
 ·rename_i h0;rw[if_neg h0];exact a3G h e
theorem a9i(h:Sub M H){t:TypeId}{o:Id}{i:Nat}{a:AV}(e:E2 P E M t o i=some a):E2 P E H t o i=some a:=by
 unfold E2 at e ⊢
 simp only[Option.bind_eq_bind,Option.bind_eq_some_iff]at e ⊢
 obtain⟨g,hg,e⟩:=e
 refine⟨g,hg, ?_⟩
 cases g with
 |true=>
  simp only[if_true,Option.bind_eq_some_iff]at e ⊢
  obtain⟨n,hn,as,has,e⟩:=e
  exact⟨n,hn,as,a3G h has,e⟩
 |false=>
  simp only[Bool.false_eq_true,if_false]at e ⊢
  exact b6N h e
theorem b3B(h:Sub M H){size n:Nat}{x:AV}{r:List AV}(e:M3 E M size n x=some r):M3 E H size n x=some r:=by
 unfold M3 at e ⊢
 split at e
 ·exact e
 ·exact b1Z h e
 ·exact e
 ·cases e
theorem b7k(h:Sub M H){x:AV}{r:List (AV×AV×Nat)}(e:a1d M x=some r):a1d H x=some r:=by
 unfold a1d at e ⊢
 split at e
 ·exact e
 ·split at e
  ·rename_i es c hk;rw[h.get _ _ hk];exact e
  ·cases e
 ·cases e
theorem a4W(h:Sub M H){t:TypeId}{x:P3}{a:AV}(e:x.get P E M t=some a):x.get P E H t=some a:=by
 cases x with
 |val v=>exact e
 |var o i=>exact a9i h e
theorem a3s(h:Sub M H):∀ {path:List FieldStep} {t:TypeId} {x:P3} {r:TypeId×P3},L2 P E M path t x=some r→L2 P E H path t x=some r
 | [],t,x,r,e=>e
 |s::rest,t,x,r,e=>by
  simp only[L2,Option.bind_eq_bind,Option.bind_eq_some_iff]at e ⊢
  obtain⟨fd,hfd,e⟩:=e
  refine⟨fd,hfd, ?_⟩
  split at e
  ·rename_i hc
   rw[if_pos hc]
   split at e
   ·rename_i hd
    rw[if_pos hd]
    simp only[Option.bind_eq_some_iff]at e ⊢
    obtain⟨a,ha,e⟩:=e
    refine⟨a,a4W h ha, ?_⟩
    split at e
    ·exact a3s h e
    ·cases e
   ·rename_i hd
    rw[if_neg hd]
    split at e
    ·exact a3s h e
    ·simp only[Option.bind_eq_some_iff]at e ⊢
     obtain⟨y,hy,e⟩:=e
     exact⟨y,hy,a3s h e⟩
    ·cases e
  ·cases e
theorem b2b(h:Sub M H){t:TypeId}{v:AV}{name:String}{r:FuncId×AV}(e:Q1 P E M t v name=some r):Q1 P E H t v name=some r:=by
 unfold Q1 at e ⊢
 simp only[Option.bind_eq_bind,Option.bind_eq_some_iff]at e ⊢
 obtain⟨info,hi,m,hm,⟨xt,x⟩,hfo,⟨g,pr⟩,hfn,e⟩:=e
 refine⟨info,hi,m,hm,⟨xt,x⟩,a3s h hfo,⟨g,pr⟩,hfn, ?_⟩
 simp only at e ⊢
 split at e
 ·simp only[Option.map_eq_some_iff]at e ⊢
  obtain⟨y,hy,e⟩:=e
  exact⟨y,a4W h hy,e⟩
 ·cases e
 ·exact e
 ·cases e
 ·simp only[Option.map_eq_some_iff]at e ⊢
  obtain⟨y,hy,e⟩:=e
  exact⟨y,a4W h hy,e⟩
 ·cases e
theorem c6f(H:AHeap)(o:D4):H.new o=aps [.put H.next (some o) false, .next (H.next+1)] H:=rfl
theorem a7V:∀(ks:List Nat) (H:AHeap),H.killAll ks=aps (ks.map fun k=> .put k none true) H
 | [],_=>rfl
 |k::ks,H=>a7V ks (H.kill k)
theorem Wf.lt(h:Wf M){k:Nat}{o:D4}(e:M.get k=some o):k<M.next:=by
 rcases Nat.lt_or_ge k M.next with h'|h'
 ·exact h'
 ·rw[h.1 k h']at e;cases e
theorem b2L(hw:Wf M){k:Nat}{o o':D4}{pre:List Nat}(hk:M.get k=some o)(hp:∀p∈pre,p<M.next)(hp':∀p∈p8 o',p<M.next):
  ∃ts,(∀H:AHeap,(H.killAll pre).set k o'=aps ts H)∧K2 M ts∧Wf ((M.killAll pre).set k o'):=by
 refine⟨(pre.map fun p=>Tr.put p none true)++[.put k (some o') true],fun H=>by rw[L0, ←a7V];rfl, ?_, ?_⟩
 ·have hn:(aps ((pre.map fun p=>Tr.put p none true)++[.put k (some o') true]) M).next=M.next:=by
   rw[L0, ←a7V];exact AHeap.next_killAll pre M
  refine⟨by omega,fun j x lg hm=> ?_⟩
  rw[hn]
  simp only[List.mem_append,List.mem_map,List.mem_singleton,Tr.put.injEq]at hm
  rcases hm with ⟨p,hpp,rfl,_,rfl⟩|⟨rfl,_,rfl⟩
  ·exact⟨(fun e=>by cases e),hp _ hpp⟩
  ·exact⟨(fun e=>by cases e),hw.lt hk⟩
 ·refine⟨fun j hj=> ?_,fun j x hx p hpp=> ?_⟩
  ·simp only[AHeap.next_set,AHeap.next_killAll]at hj
   rw[AHeap.get_set,AHeap.get_killAll,if_neg (by have:=hw.lt hk;omega)]
   split
   ·rfl
   ·exact hw.1 j hj
  ·simp only[AHeap.next_set,AHeap.next_killAll]
   rw[AHeap.get_set,AHeap.get_killAll]at hx
   split at hx
   ·cases hx;exact hp' p hpp
   ·split at hx
    ·cases hx
    ·exact hw.2 j x hx p hpp
theorem a6Z(hw:Wf M){o:D4}(hp:∀p∈p8 o,p<M.next):∃ts,(∀H,Sub M H→H.new o=aps ts H)∧K2 M ts∧Wf (M.new o):=by
 refine⟨[.put M.next (some o) false, .next (M.next+1)],fun H h=>by rw[c6f,h.next],⟨by simp[aps,Tr.ap],fun j x lg hm=> ?_⟩, ?_⟩
 ·simp only[List.mem_cons,Tr.put.injEq,List.not_mem_nil,or_false,reduceCtorEq]at hm
  obtain⟨rfl,_,rfl⟩:=hm
  exact⟨fun _=>Nat.le_refl _,by simp[aps,Tr.ap]⟩
 ·refine⟨fun j hj=> ?_,fun j x hx p hpp=> ?_⟩
  ·simp only[AHeap.next_new]at hj
   rw[AHeap.get_new,if_neg (by omega)]
   exact hw.1 j (by omega)
  ·simp only[AHeap.next_new]
   rw[AHeap.get_new]at hx
   split at hx
   ·cases hx;have:=hp p hpp;omega
   ·have:=hw.2 j x hx p hpp;omega
theorem K2.append{ts us:List Tr}(h:K2 M ts)(h':K2 (aps ts M) us):K2 M (ts++us):=by
 refine⟨by rw[L0];exact Nat.le_trans h.1 h'.1,fun k o lg hm=> ?_⟩
 rw[L0]
 rcases List.mem_append.1 hm with hm|hm
 ·obtain⟨a,b⟩:=h.2 k o lg hm
  exact⟨a,Nat.lt_of_lt_of_le b h'.1⟩
 ·obtain⟨a,b⟩:=h'.2 k o lg hm
  exact⟨fun e=>Nat.le_trans h.1 (a e),b⟩
def b3R(P:Program)(E:d6)(T:List AV)(o:Oper)(M:AHeap)(r:P8):Prop:=
 match r with
 | .val v M'=>∃ts,M'=aps ts M∧K2 M ts∧Wf M'∧∀H,Sub M H→O4 P E T H o=some (.val v (aps ts H))
 | .call f args M'=>M'=M∧∀H,Sub M H→O4 P E T H o=some (.call f args H)
theorem a5E(hw:Wf M){o:Id}{i:Nat}{vs:List AV}{M':AHeap}(h:s7 M o i vs=some M'):
  ∃ts,M'=aps ts M∧K2 M ts∧Wf M'∧∀H,Sub M H→s7 H o i vs=some (aps ts H):=by
 unfold s7 at h
 split at h
 ·cases h;exact⟨[],rfl,K2.nil _,hw,fun H _=>rfl⟩
 ·rename_i hne
  split at h
  ·cases h
  ·rename_i k
   split at h
   ·rename_i cs pre hk
    split at h
    ·rename_i hc
     cases h
     obtain⟨ts,g1,g2,g3⟩:=b2L hw (pre:=pre) (o':= .cells (s5 cs i vs) true []) hk (hw.2 k _ hk) (by simp[p8])
     refine⟨ts,g1 M,g2,g3,fun H hs=> ?_⟩
     unfold s7
     split
     ·exact absurd rfl hne
     ·simp only[hs.get _ _ hk]
      rw[if_pos hc,g1 H]
    ·cases h
   ·cases h
theorem b6j(hw:Wf M){size bytes n:Nat}{s a:AV}{news:List AV}{M':AHeap}(h:G3 E M size bytes s n news=some (a,M')):
  ∃ts,M'=aps ts M∧K2 M ts∧Wf M'∧∀H,Sub M H→G3 E H size bytes s n news=some (a,aps ts H):=by
 unfold G3 at h
 split at h
 ·rename_i hl
  split at h
  ·split at h
   ·rename_i hn
    cases h
    exact⟨[],rfl,K2.nil _,hw,fun H _=>by unfold G3;rw[if_pos hl];simp only;rw[if_pos hn];rfl⟩
   ·rename_i hn
    split at h
    ·rename_i hb
     cases h
     obtain⟨ts,g1,g2,g3⟩:=a6Z hw (o:= .cells news true []) (by simp[p8])
     refine⟨ts,g1 M (Sub.refl M),g2,g3,fun H hs=> ?_⟩
     unfold G3
     rw[if_pos hl];simp only;rw[if_neg hn,if_pos hb,hs.next,newCells,g1 H hs]
    ·cases h
  ·rename_i o i len cap ex sz
   split at h
   ·rename_i hn
    cases h
    exact⟨[],rfl,K2.nil _,hw,fun H _=>by unfold G3;rw[if_pos hl];simp only;rw[if_pos hn];rfl⟩
   ·rename_i hn
    split at h
    ·rename_i hb
     split at h
     ·rename_i hex
      split at h
      ·rename_i olds ho
       cases h
       obtain⟨ts,g1,g2,g3⟩:=a6Z hw (o:= .cells (olds++news) true []) (by simp[p8])
       refine⟨ts,g1 M (Sub.refl M),g2,g3,fun H hs=> ?_⟩
       unfold G3
       rw[if_pos hl];simp only;rw[if_neg hn,if_pos hb,if_pos hex,a3G hs ho]
       simp only
       rw[hs.next,newCells,g1 H hs]
      ·cases h
     ·rename_i hex
      split at h
      ·cases h
      ·rename_i k
       split at h
       ·rename_i cs pre hk
        have hkn:=hw.lt hk
        have hpl:∀p∈pre,p<M.next:=hw.2 k _ hk
        split at h
        ·rename_i hc
         split at h
         ·rename_i hlt
          cases h
          obtain⟨ts,g1,g2,g3⟩:=b2L hw (o':= .cells (cs.take (i+len*size)) false []) hk hpl (by simp[p8])
          have hnx:((M.killAll pre).set k (.cells (cs.take (i+len*size)) false [])).next=M.next:=by simp
          obtain⟨us,k1,k2,k3⟩:=a6Z g3 (o:= .cells ((cs.take (i+len*size)).drop i++news) true [k]) (by simp[p8];exact hkn)
          refine⟨ts++us,by rw[L0, ←g1, ←k1 _ (Sub.refl _)],g2.append (by rw[←g1];exact k2),k3,fun H hs=> ?_⟩
          unfold G3
          rw[if_pos hl];simp only;rw[if_neg hn,if_pos hb,if_neg hex]
          simp only[hs.get _ _ hk]
          rw[if_pos hc,if_pos hlt,hs.next,g1 H,k1 _ (by rw[g1 M];exact hs.aps ts),L0]
         ·rename_i hlt
          cases h
          obtain⟨ts,g1,g2,g3⟩:=b2L hw (o':= .cells cs false pre) (pre:=[]) hk (by simp) (by simpa [p8]using hpl)
          obtain⟨us,k1,k2,k3⟩:=a6Z g3 (o:= .cells (cs.drop i++news) true (k::pre)) (by
           intro p hp
           simp only[p8,List.mem_cons]at hp
           rcases hp with rfl|hp
           ·exact hkn
           ·exact hpl p hp)
          refine⟨ts++us,by rw[L0, ←g1, ←k1 _ (Sub.refl _)];rfl,g2.append (by rw[←g1];exact k2),k3,fun H hs=> ?_⟩
          unfold G3
          rw[if_pos hl];simp only;rw[if_neg hn,if_pos hb,if_neg hex]
          simp only[hs.get _ _ hk]
          rw[if_pos hc,if_neg hlt,hs.next,L0, ←g1, ←k1 _ (by rw[g1 M,g1 H];exact hs.aps ts)]
          rfl
        ·cases h
       ·cases h
    ·cases h
  ·cases h
 ·cases h
theorem a0m(hw:Wf M)(cs:List AV):∃ts,(∀H,Sub M H→newCells H cs=aps ts H)∧K2 M ts∧Wf (newCells M cs):=
 a6Z hw (o:= .cells cs true []) (by simp[p8])
theorem b7T(hw:Wf M){sT xT:TypeId}{s x a:AV}{M':AHeap}(h:Q5 P E M sT s xT x=some (a,M')):
  ∃ts,M'=aps ts M∧K2 M ts∧Wf M'∧∀H,Sub M H→Q5 P E H sT s xT x=some (a,aps ts H):=by
 unfold Q5 at h
 simp only[Option.bind_eq_bind,Option.bind_eq_some_iff]at h
 obtain⟨e,he,size,hs,bytes,hb,z,hz,h⟩:=h
 split at h
 ·rename_i hzs
  split at h
  ·rename_i k hu
   simp only[Option.bind_eq_some_iff]at h
   obtain⟨l,hl,h⟩:=h
   split at h
   ·rename_i hc
    obtain⟨ts,g1,g2,g3,g4⟩:=b6j hw h
    refine⟨ts,g1,g2,g3,fun H hsub=> ?_⟩
    unfold Q5
    simp only[Option.bind_eq_bind,he,hs,hb,hz,Option.bind_some,hzs,if_true,hu,hl]
    rw[if_pos hc,g4 H hsub]
   ·cases h
  ·rename_i d hd hu
   simp only[Option.bind_eq_some_iff]at h
   obtain⟨n,hn,nw,hnw,h⟩:=h
   obtain⟨ts,g1,g2,g3,g4⟩:=b6j hw h
   refine⟨ts,g1,g2,g3,fun H hsub=> ?_⟩
   unfold Q5
   simp only[Option.bind_eq_bind,he,hs,hb,hz,Option.bind_some,hzs,if_true,hu]
   have:(match some d with
    |some (.int _)=>(do
      let l←M5 x
      if IntKind.i64.wrap l=l∧0≤l∧l*bytes≤2^47 then G3 E H size bytes s l.toNat (rep z.cells l.toNat) else none:Option (AV×AHeap))
    |some _=>(do
      let n←a0M x
      let news←M3 E H size n x
      G3 E H size bytes s n news)
    |none=>none)=some (a,aps ts H):=by
    cases d<;>first|exact(hd _ rfl).elim|(simp only[Option.bind_eq_bind,hn,Option.bind_some,b3B hsub hnw];exact g4 H hsub)
   simpa only[Option.bind_eq_bind]using this
  ·cases h
 ·cases h
theorem c2h(hw:Wf M){dT:TypeId}{d x a:AV}{M':AHeap}(h:a5Z P E M dT d x=some (a,M')):
  ∃ts,M'=aps ts M∧K2 M ts∧Wf M'∧∀H,Sub M H→a5Z P E H dT d x=some (a,aps ts H):=by
 unfold a5Z at h
 simp only[Option.bind_eq_bind,Option.bind_eq_some_iff]at h
 obtain⟨e,he,size,hs,k,hk,h⟩:=h
 split at h
 ·cases h
  exact⟨[],rfl,K2.nil _,hw,fun H _=>by unfold a5Z;simp only[Option.bind_eq_bind,he,hs,hk,Option.bind_some];rfl⟩
 ·rename_i o i len cap ex sz
  simp only[Option.bind_eq_some_iff]at h
  obtain⟨nw,hnw,H1,hst,h⟩:=h
  cases h
  obtain⟨ts,g1,g2,g3,g4⟩:=a5E hw hst
  refine⟨ts,g1,g2,g3,fun H hsub=> ?_⟩
  unfold a5Z
  simp only[Option.bind_eq_bind,he,hs,hk,Option.bind_some,b3B hsub hnw,g4 H hsub]
 ·cases h
theorem c1W(hw:Wf M){src dst:TypeId}{x a:AV}{M':AHeap}(h:F8 P E M src dst x=some (a,M')):
  ∃ts,M'=aps ts M∧K2 M ts∧Wf M'∧∀H,Sub M H→F8 P E H src dst x=some (a,aps ts H):=by
 unfold F8 at h
 split at h
 ·rename_i h1 h2
  cases h
  refine⟨[],rfl,K2.nil _,hw,fun H _=> ?_⟩
  unfold F8;rw[h1,h2];rfl
 ·rename_i h1 h2
  cases h
  refine⟨[],rfl,K2.nil _,hw,fun H _=> ?_⟩
  unfold F8;rw[h1,h2];rfl
 ·rename_i d e s h1 h2
  split at h
  ·rename_i he
   split at h
   ·rename_i hl
    cases h
    obtain⟨ts,g1,g2,g3⟩:=a0m hw (s.map fun b=>AV.int .u8 b.toNat)
    refine⟨ts,g1 M (Sub.refl M),g2,g3,fun H hs=> ?_⟩
    unfold F8;rw[h1,h2];simp only[he,hl,if_true,hs.next,g1 H hs]
   ·cases h
  ·cases h
 ·rename_i d e k i len cap ex sz h1 h2
  split at h
  ·rename_i he
   split at h
   ·rename_i hc
    cases h
    refine⟨[],rfl,K2.nil _,hw,fun H hs=> ?_⟩
    obtain⟨cs,hcs⟩:=Option.isSome_iff_exists.1 hc.2.2
    have hc':src=dst∧len≠0∧(cellsOf E H (.new k)).isSome:=⟨hc.1,hc.2.1,by rw[a5I hs hcs];rfl⟩
    unfold F8;rw[h1,h2];simp only[he]
    rw[if_pos hc'];rfl
   ·cases h
  ·cases h
 ·rename_i e h1 h2 hno
  split at h
  ·rename_i he
   split at h
   ·cases h
    refine⟨[],rfl,K2.nil _,hw,fun H _=> ?_⟩
    unfold F8;rw[h1,h2];simp only[he];rfl
   ·rename_i o i len cap ex sz _
    split at h
    ·rename_i cs hcs
     simp only[Option.map_eq_some_iff]at h
     obtain⟨bs,hbs,h⟩:=h
     cases h
     refine⟨[],rfl,K2.nil _,hw,fun H hs=> ?_⟩
     unfold F8;rw[h1,h2];simp only[he,b1Z hs hcs,hbs];rfl
    ·cases h
   ·cases h
  ·cases h
 ·cases h
theorem a9T(hw:Wf M){k:Nat}{es es':List (AV×AV×Nat)}{clock clock':Nat}(hk:M.get k=some (.map es clock)):
  ∃ts,(∀H:AHeap,H.set k (.map es' clock')=aps ts H)∧K2 M ts∧Wf (M.set k (.map es' clock')):=by
 obtain⟨ts,g1,g2,g3⟩:=b2L hw (pre:=[]) (o':= .map es' clock') hk (by simp) (by simp[p8])
 exact⟨ts,g1,g2,g3⟩
theorem b1L(hw:Wf M){t:TypeId}{m key v:AV}{M':AHeap}(h:L1 P M t m key v=some M'):
  ∃ts,M'=aps ts M∧K2 M ts∧Wf M'∧∀H,Sub M H→L1 P H t m key v=some (aps ts H):=by
 unfold L1 at h
 split at h
 ·rename_i kt e k hu
  split at h
  ·rename_i hf
   split at h
   ·rename_i es clock hk
    split at h
    ·rename_i hfa
     cases h
     obtain⟨ts,g1,g2,g3⟩:=a9T hw hk
     refine⟨ts,g1 M,g2,g3,fun H hs=> ?_⟩
     unfold L1;rw[hu];simp only[hf,if_true,hs.get _ _ hk,hfa,g1 H]
    ·rename_i hfa
     cases h
     obtain⟨ts,g1,g2,g3⟩:=a9T hw hk
     refine⟨ts,g1 M,g2,g3,fun H hs=> ?_⟩
     unfold L1;rw[hu];simp only[hf,if_true,hs.get _ _ hk,hfa,g1 H]
    ·cases h
   ·cases h
  ·cases h
 ·cases h
theorem c0u(hw:Wf M){t:TypeId}{m key a:AV}{M':AHeap}(h:a1m P M t m key=some (a,M')):
  ∃ts,M'=aps ts M∧K2 M ts∧Wf M'∧∀H,Sub M H→a1m P H t m key=some (a,aps ts H):=by
 unfold a1m at h
 split at h
 ·rename_i kt e k hu
  split at h
  ·rename_i hf
   split at h
   ·rename_i es clock hk
    split at h
    ·rename_i hfa
     cases h
     obtain⟨ts,g1,g2,g3⟩:=a9T hw hk
     refine⟨ts,g1 M,g2,g3,fun H hs=> ?_⟩
     unfold a1m;rw[hu];simp only[hf,if_true,hs.get _ _ hk,hfa,g1 H]
    ·rename_i hfa
     split at h
     ·rename_i z hz
      cases h
      obtain⟨ts,g1,g2,g3⟩:=a9T hw hk
      refine⟨ts,g1 M,g2,g3,fun H hs=> ?_⟩
      unfold a1m;rw[hu];simp only[hf,if_true,hs.get _ _ hk,hfa,hz,g1 H]
     ·cases h
    ·cases h
   ·cases h
  ·cases h
 ·cases h
theorem b2C(hw:Wf M){m stamp v:AV}{M':AHeap}(h:A9 M m stamp v=some M'):
  ∃ts,M'=aps ts M∧K2 M ts∧Wf M'∧∀H,Sub M H→A9 H m stamp v=some (aps ts H):=by
 unfold A9 at h
 split at h
 ·rename_i k ik n
  split at h
  ·rename_i es clock hk
   split at h
   ·rename_i i hi
    split at h
    ·rename_i ent hent
     cases h
     obtain⟨ts,g1,g2,g3⟩:=a9T hw hk
     refine⟨ts,g1 M,g2,g3,fun H hs=> ?_⟩
     unfold A9;simp only[hs.get _ _ hk,hi,hent,g1 H]
    ·cases h
   ·cases h
  ·cases h
 ·cases h
theorem b8b(h:Sub M H){t:TypeId}{x ix:AV}{ok:Bool}{a:AV}(e:Z4 P M t x ix ok=some a):Z4 P H t x ix ok=some a:=by
 unfold Z4 at e ⊢
 split at e
 ·split at e
  ·rename_i hf
   rw[if_pos hf]
   simp only[Option.bind_eq_some_iff]at e ⊢
   obtain⟨es,hes,e⟩:=e
   exact⟨es,b7k h hes,e⟩
  ·cases e
 ·cases e
theorem b9b(h:Sub M H){t:TypeId}{x:AV}{n:Nat}(e:a1a P M t x=some n):a1a P H t x=some n:=by
 unfold a1a at e ⊢
 split at e
 ·exact e
 ·split at e
  ·rename_i es c hk;simp only[h.get _ _ hk];exact e
  ·cases e
 ·cases e
theorem b9H(h:Sub M H){t:TypeId}{x:AV}{lo hi mx:Option AV}{a:AV}(e:Y2 P M t x lo hi mx=some a):Y2 P H t x lo hi mx=some a:=by
 unfold Y2 at e ⊢
 split at e
 ·exact e
 ·exact e
 ·exact e
 ·simp only[Option.bind_eq_bind,Option.bind_eq_some_iff]at e ⊢
  obtain⟨size,hs,r,hr,e⟩:=e
  refine⟨size,hs,r,hr, ?_⟩
  split at e
  ·rename_i cs wr pre hk;rw[h.get _ _ hk];exact e
  ·cases e
 ·cases e
theorem b2o(hw:Wf M){t:TypeId}{len:Nat}{ps:List (Nat×AV)}{a:AV}{M':AHeap}(h:F5 P M t len ps=some (a,M')):
  ∃ts,M'=aps ts M∧K2 M ts∧Wf M'∧∀H,Sub M H→F5 P H t len ps=some (a,aps ts H):=by
 unfold F5 at h
 simp only[Option.bind_eq_bind,Option.bind_eq_some_iff]at h
 obtain⟨e,he,size,hs,h⟩:=h
 split at h
 ·rename_i hn
  simp only[Option.bind_eq_some_iff]at h
  obtain⟨z,hz,h⟩:=h
  split at h
  ·rename_i hzs
   simp only[Option.bind_eq_some_iff]at h
   obtain⟨cs,hcs,h⟩:=h
   cases h
   obtain⟨ts,g1,g2,g3⟩:=a0m hw cs
   refine⟨ts,g1 M (Sub.refl M),g2,g3,fun H hsub=> ?_⟩
   unfold F5
   simp only[Option.bind_eq_bind,he,hs,Option.bind_some,hn,if_true,hz,hzs,hcs,hsub.next,g1 H hsub]
  ·cases h
 ·cases h
theorem b2R(hw:Wf M){t:TypeId}{len cap a:AV}{M':AHeap}(h:F6 P M t len cap=some (a,M')):
  ∃ts,M'=aps ts M∧K2 M ts∧Wf M'∧∀H,Sub M H→F6 P H t len cap=some (a,aps ts H):=by
 unfold F6 at h
 simp only[Option.bind_eq_bind,Option.bind_eq_some_iff]at h
 obtain⟨e,he,size,hs,b,hb,l,hl,c,hc,z,hz,h⟩:=h
 split at h
 ·rename_i hcond
  cases h
  obtain⟨ts,g1,g2,g3⟩:=a0m hw (rep z.cells c.toNat)
  refine⟨ts,g1 M (Sub.refl M),g2,g3,fun H hsub=> ?_⟩
  unfold F6
  simp only[Option.bind_eq_bind,he,hs,hb,hl,hc,hz,Option.bind_some]
  rw[if_pos hcond,hsub.next,g1 H hsub]
 ·cases h
end
end
section
section
variable{E:d6}{P:Program}{M:AHeap}{T:List AV}{o:Oper}
theorem M1(hw:Wf M){v:AV}(h:∀H,Sub M H→O4 P E T H o=some (.val v H)):b3R P E T o M (.val v M):=
 ⟨[],rfl,K2.nil _,hw,h⟩
theorem b9X{f:FuncId}{args:List AV}{r:P8}(h:G4 P M f args=some r):r= .call f args M∧∀H,G4 P H f args=some (.call f args H):=by
 unfold G4 at h
 split at h
 ·rename_i hb
  cases h
  exact⟨rfl,fun H=>by unfold G4;rw[if_pos hb]⟩
 ·cases h
theorem a6I{f:FuncId}{args:List AV}{r:P8}(h:G4 P M f args=some r)(ho:∀H,Sub M H→O4 P E T H o=G4 P H f args):b3R P E T o M r:=by
 obtain⟨rfl,h2⟩:=b9X h
 exact⟨rfl,fun H hs=>(ho H hs).trans (h2 H)⟩
theorem c1K(hw:Wf M){c:Call}(hop:o.op= .call c){r:P8}(h:L7 P E M c (c8 T)=some r):b3R P E T o M r:=by
 have ho:∀H,O4 P E T H o=L7 P E H c (c8 T):=fun H=>by unfold O4;simp only[hop]
 unfold L7 at h
 simp only at h
 split at h
 ·rename_i f hc
  split at h
  ·rename_i g first captured hf
   exact a6I h fun H _=>by rw[ho];unfold L7;simp only[hc,hf]
  ·rename_i name first captured hf
   split at h
   ·rename_i t v rest _ hl
    simp only[Option.bind_eq_some_iff]at h
    obtain⟨⟨g,x⟩,hm,h⟩:=h
    refine a6I h fun H hs=> ?_
    rw[ho];unfold L7;simp only[hc,hf,hl,b2b hs hm,Option.bind_some]
   ·cases h
  ·rename_i t path g pointer first captured hf
   split at h
   ·rename_i x rest _ hp hl hu
    split at h
    ·rename_i hptr
     refine a6I h fun H hs=> ?_
     rw[ho];unfold L7;simp only[hc,hf,hl,hp,hu,hptr,if_true]
    ·cases h
   ·cases h
  ·cases h
 ·rename_i recv name hc
  split at h
  ·rename_i t v hf
   simp only[Option.bind_eq_some_iff]at h
   obtain⟨⟨g,x⟩,hm,h⟩:=h
   refine a6I h fun H hs=> ?_
   rw[ho];unfold L7;simp only[hc,hf,b2b hs hm,Option.bind_some]
  ·cases h
 ·rename_i b hc
  split at h
  ·rename_i s x sT xT h1 h2
   simp only[Option.map_eq_some_iff]at h
   obtain⟨⟨a,M'⟩,ha,rfl⟩:=h
   obtain⟨ts,g1,g2,g3,g4⟩:=b7T hw ha
   exact⟨ts,g1,g2,g3,fun H hs=>by rw[ho];unfold L7;simp only[hc,h1,h2,g4 H hs,Option.map_some]⟩
  ·rename_i x t h1 h2
   split at h
   ·rename_i n hn
    cases h
    exact M1 hw fun H hs=>by rw[ho];unfold L7;simp only[hc,h1,h2,hn]
   ·rename_i hn
    simp only[Option.map_eq_some_iff]at h
    obtain⟨n,hm,rfl⟩:=h
    exact M1 hw fun H hs=>by rw[ho];unfold L7;simp only[hc,h1,h2,hn,b9b hs hm,Option.map_some]
  ·rename_i x t h1 h2
   simp only[Option.map_eq_some_iff]at h
   obtain⟨n,hm,rfl⟩:=h
   exact M1 hw fun H hs=>by rw[ho];unfold L7;simp only[hc,h1,h2,hm,Option.map_some]
  ·rename_i d x dT _ h1 h2
   simp only[Option.map_eq_some_iff]at h
   obtain⟨⟨a,M'⟩,ha,rfl⟩:=h
   obtain⟨ts,g1,g2,g3,g4⟩:=c2h hw ha
   exact⟨ts,g1,g2,g3,fun H hs=>by rw[ho];unfold L7;simp only[hc,h1,h2,g4 H hs,Option.map_some]⟩
  ·simp only[Option.map_eq_some_iff]at h
   obtain⟨n,hm,rfl⟩:=h
   exact M1 hw fun H hs=>by rw[ho];unfold L7;simp only[hc,hm,Option.map_some]
  ·simp only[Option.map_eq_some_iff]at h
   obtain⟨n,hm,rfl⟩:=h
   exact M1 hw fun H hs=>by rw[ho];unfold L7;simp only[hc,hm,Option.map_some]
  ·cases h
theorem b6H(f:AHeap→Option (AV×AHeap)){r:P8}(ho:∀H,O4 P E T H o=(f H).map fun x=> .val x.1 x.2)(h:(f M).map (fun x=>P8.val x.1 x.2)=some r)
  (ht:∀a M',f M=some (a,M')→∃ts,M'=aps ts M∧K2 M ts∧Wf M'∧∀H,Sub M H→f H=some (a,aps ts H)):b3R P E T o M r:=by
 simp only[Option.map_eq_some_iff]at h
 obtain⟨⟨a,M'⟩,ha,rfl⟩:=h
 obtain⟨ts,g1,g2,g3,g4⟩:=ht a M' ha
 exact⟨ts,g1,g2,g3,fun H hs=>by rw[ho,g4 H hs];rfl⟩
theorem c0Z(f:AHeap→Option AHeap){r:P8}(ho:∀H,O4 P E T H o=(f H).map fun x=> .val p4 x)(h:(f M).map (fun x=>P8.val p4 x)=some r)
  (ht:∀M',f M=some M'→∃ts,M'=aps ts M∧K2 M ts∧Wf M'∧∀H,Sub M H→f H=some (aps ts H)):b3R P E T o M r:=by
 simp only[Option.map_eq_some_iff]at h
 obtain⟨M',ha,rfl⟩:=h
 obtain⟨ts,g1,g2,g3,g4⟩:=ht M' ha
 exact⟨ts,g1,g2,g3,fun H hs=>by rw[ho,g4 H hs];rfl⟩
theorem a5m(hw:Wf M)(f:AHeap→Option AV){r:P8}(ho:∀H,O4 P E T H o=(f H).map fun x=> .val x H)(h:(f M).map (fun x=>P8.val x M)=some r)
  (ht:∀a,f M=some a→∀H,Sub M H→f H=some a):b3R P E T o M r:=by
 simp only[Option.map_eq_some_iff]at h
 obtain⟨a,ha,rfl⟩:=h
 exact M1 hw fun H hs=>by rw[ho,ht a ha H hs];rfl
theorem c1y(hw:Wf M){r:P8}(h:O4 P E T M o=some r):b3R P E T o M r:=by
 unfold O4 at h
 simp only at h
 split at h
 case h_1 x hop=>
  cases h;exact M1 hw fun H hs=>by unfold O4;simp only[hop]
 case h_2 x hop=>
  cases h;exact M1 hw fun H hs=>by unfold O4;simp only[hop]
 case h_3 c a b hop=>
  split at h
  ·rename_i t ht
   cases h;exact M1 hw fun H hs=>by unfold O4;simp only[hop,ht]
  ·cases h
 case h_4 e hop=>
  split at h
  ·rename_i z hz
   cases h
   obtain⟨ts,g1,g2,g3⟩:=a0m hw z.cells
   exact⟨ts,g1 M (Sub.refl M),g2,g3,fun H hs=>by unfold O4;simp only[hop,hz,hs.next,g1 H hs]⟩
  ·cases h
 case h_5 t x hop=>
  cases h
  obtain⟨ts,g1,g2,g3⟩:=a0m hw (c8 T x).cells
  exact⟨ts,g1 M (Sub.refl M),g2,g3,fun H hs=>by unfold O4;simp only[hop,hs.next,g1 H hs]⟩
 case h_6 t parts hop=>
  exact a5m hw (fun H=>a6y P t (parts.toList.map fun(p:Nat×Operand)=>(p.1,c8 T p.2))) (fun H=>by unfold O4;simp only[hop]) h fun a e H hs=>e
 case h_7 t len parts hop=>
  exact b6H (fun H=>F5 P H t len (parts.toList.map fun(p:Nat×Operand)=>(p.1,c8 T p.2))) (fun H=>by unfold O4;simp only[hop]) h fun a M' e=>b2o hw e
 case h_8 t a hop=>
  split at h
  ·rename_i o1 i ha
   exact a5m hw (fun H=>E2 P E H t o1 i) (fun H=>by unfold O4;simp only[hop,ha]) h fun a e H hs=>a9i hs e
  ·cases h
 case h_9 t a x hop=>
  split at h
  ·rename_i o1 i ha
   split at h
   ·rename_i hsz
    exact c0Z (fun H=>s7 H o1 i (c8 T x).cells) (fun H=>by unfold O4;simp only[hop,ha,hsz,if_true]) h fun M' e=>a5E hw e
   ·cases h
  ·cases h
 case h_10 x hop=>
  split at h
  all_goals first|(cases h;done)|skip
  rename_i g1 g2 g3 g4 g5
  cases h
  refine M1 hw fun H hs=> ?_
  unfold O4;simp only[hop]
 case h_11 op t x y _w hop=>
  split at h
  ·rename_i hg
   exact a5m hw (fun H=>a8G P op t (c8 T x) (c8 T y)) (fun H=>by unfold O4;simp only[hop,hg,if_true]) h fun a e H hs=>e
  ·cases h
 case h_12 op _t x hop=>
  exact a5m hw (fun H=>unA op (c8 T x)) (fun H=>by unfold O4;simp only[hop]) h fun a e H hs=>e
 case h_13 src dst x hop=>
  exact b6H (fun H=>F8 P E H src dst (c8 T x)) (fun H=>by unfold O4;simp only[hop]) h fun a M' e=>c1W hw e
 case h_14 t x hop=>
  split at h
  ·cases h
  ·rename_i u hne hu
   cases h;exact M1 hw fun H hs=>by unfold O4;simp only[hop,hu]
  ·cases h
 case h_15 fn first captured hop=>
  cases h;exact M1 hw fun H hs=>by unfold O4;simp only[hop]
 case h_16 _t r hop=>
  split at h
  ·cases h
   obtain⟨ts,g1,g2,g3⟩:=a6Z hw (o:= .map [] 0) (by simp[p8])
   exact⟨ts,g1 M (Sub.refl M),g2,g3,fun H hs=>by unfold O4;simp only[hop,hs.next,g1 H hs]⟩
  ·cases h
 case h_17 t l c hop=>
  exact b6H (fun H=>F6 P H t (c8 T l) (c8 T c)) (fun H=>by unfold O4;simp only[hop]) h fun a M' e=>b2R hw e
 case h_18 t x lo hi mx hop=>
  exact a5m hw (fun H=>Y2 P H t (c8 T x) (lo.map (c8 T)) (hi.map (c8 T)) (mx.map (c8 T))) (fun H=>by unfold O4;simp only[hop]) h fun a e H hs=>b9H hs e
 case h_19 s x f hop=>
  exact a5m hw (fun H=>a2L P s (c8 T x) f) (fun H=>by unfold O4;simp only[hop]) h fun a e H hs=>e
 case h_20 s x f hop=>
  exact a5m hw (fun H=>a7U P s (c8 T x) f) (fun H=>by unfold O4;simp only[hop]) h fun a e H hs=>e
 case h_21 t x ix hop=>
  exact a5m hw (fun H=>W0 P t (c8 T x) (c8 T ix)) (fun H=>by unfold O4;simp only[hop]) h fun a e H hs=>e
 case h_22 t x ix hop=>
  exact a5m hw (fun H=>a6w P t (c8 T x) (c8 T ix)) (fun H=>by unfold O4;simp only[hop]) h fun a e H hs=>e
 case h_23 t x ix ok hop=>
  exact a5m hw (fun H=>Z4 P H t (c8 T x) (c8 T ix) ok) (fun H=>by unfold O4;simp only[hop]) h fun a e H hs=>b8b hs e
 case h_24 t m k x hop=>
  exact c0Z (fun H=>L1 P H t (c8 T m) (c8 T k) (c8 T x)) (fun H=>by unfold O4;simp only[hop]) h fun M' e=>b1L hw e
 case h_25 t m k x hop=>
  exact c0Z (fun H=>L1 P H t (c8 T m) (c8 T k) (c8 T x)) (fun H=>by unfold O4;simp only[hop]) h fun M' e=>b1L hw e
 case h_26 t m k hop=>
  exact b6H (fun H=>a1m P H t (c8 T m) (c8 T k)) (fun H=>by unfold O4;simp only[hop]) h fun a M' e=>c0u hw e
 case h_27 _t m s x hop=>
  exact c0Z (fun H=>A9 H (c8 T m) (c8 T s) (c8 T x)) (fun H=>by unfold O4;simp only[hop]) h fun M' e=>b2C hw e
 case h_28 x _t asserted ok hop=>
  exact a5m hw (fun H=>a4V P (c8 T x) asserted ok) (fun H=>by unfold O4;simp only[hop]) h fun a e H hs=>e
 case h_29 t ix hop=>
  split at h
  ·rename_i vs hv
   exact a5m hw (fun H=>vs[ix]?) (fun H=>by unfold O4;simp only[hop,hv]) h fun a e H hs=>e
  ·cases h
 case h_30 c hop=>exact c1K hw hop h
 case h_31=>cases h
end
end
section
section
variable{E:d6}{P:Program}
theorem b8g{T T':List AV}{H:AHeap}(c:Call)(h:∀x∈c.operands,c8 T x=c8 T' x):L7 P E H c (c8 T)=L7 P E H c (c8 T'):=by
 have hargs:c.args.toList.map (c8 T)=c.args.toList.map (c8 T'):=List.map_congr_left fun x hx=>h x (by
  have:x∈c.args:=by simpa using hx
  simp[Call.operands,this])
 unfold L7
 simp only[hargs]
 cases hc:c.callee with
 |value f=>have hf:c8 T f=c8 T' f:=h f (by simp[Call.operands,hc]);simp only[hf]
 |invoke r m=>have hr:c8 T r=c8 T' r:=h r (by simp[Call.operands,hc]);simp only[hr]
 |builtin b=>rfl
theorem c2w{T T':List AV}{H:AHeap}(o:Oper)(h:∀x∈o.op.operands,c8 T x=c8 T' x):O4 P E T H o=O4 P E T' H o:=by
 obtain⟨dst,op,type,pos,after,guard⟩:=o
 have pairs:∀ps:Array (Nat×Operand),(∀x∈ps.map (·.2),c8 T x=c8 T' x)→
   (ps.toList.map fun(p:Nat×Operand)=>(p.1,c8 T p.2))=(ps.toList.map fun(p:Nat×Operand)=>(p.1,c8 T' p.2)):=fun ps hp=>
  List.map_congr_left fun p hm=>by
   obtain⟨i,x⟩:=p
   simp only[hp x (Array.mem_map.2 ⟨(i,x),by simpa using hm,rfl⟩)]
 cases op<;>simp only[Op.operands]at h<;>simp only[O4]
 case build t ps=>rw[pairs ps fun x hx=>h x (by simpa using hx)]
 case buildSlice t n ps=>rw[pairs ps fun x hx=>h x (by simpa using hx)]
 case makeFunc fn first captured=>
  rw[List.map_congr_left (l:=first.toList) fun x hx=>h x (by have:x∈first:=by simpa using hx
                                                             simp[this]),List.map_congr_left (l:=captured.toList) fun x hx=>h x (by have:x∈captured:=by simpa using hx
                                                                                                                                    simp[this])]
 case call c=>rw[b8g c h]
 case slice t x lo hi mx=>cases lo<;>cases hi<;>cases mx<;>simp_all
 all_goals (first|rfl|(simp_all;done))
def b4x(ops:Array Oper)(o:Oper)(T T':List AV):Prop:=∀t∈o.looksAt ops,T[t]? =T'[t]?
theorem b4x.eval{ops:Array Oper}{o:Oper}{T T':List AV}(h:b4x ops o T T'):∀x∈o.op.operands,c8 T x=c8 T' x:=by
 intro x hx
 cases x with
 |tmp t=>
  have:=h t (List.mem_append_left _ (List.mem_filterMap.2 ⟨.tmp t,by simpa using hx,rfl⟩))
  simp only[c8,List.getD_eq_getElem?_getD,this]
 |_=>rfl
theorem b4x.wanted{ops:Array Oper}{o:Oper}{T T':List AV}(h:b4x ops o T T'):O1 ops T o=O1 ops T' o:=by
 unfold O1
 cases hg:o.guard with
 |none=>rfl
 |some gw=>
  obtain⟨g,want⟩:=gw
  simp only
  cases ht:(ops[g]?).bind (·.dst) with
  |none=>rfl
  |some t=>
   have:=h t (by simp[Oper.looksAt,hg,ht])
   simp only[this]
variable{call:a7K}
def b8U(H:AHeap)(a b:Nat):Prop:=∀k,a≤k→k<b→H.get k=none
def c0Q(call:a7K):Prop:=∀f args M v M',Wf M→call f args M=some (v,M')→
 ∃ts,M'=aps ts M∧K2 M ts∧Wf M'∧∀H,Sub M H→b8U H M.next M'.next→call f args H=some (v,aps ts H)
theorem c6a(t:Tr)(H:AHeap)(k:Nat):(t.ap H).get k=match t with
  | .put j o _=>if j=k then o else H.get k
  | .next _=>H.get k:=by
 cases t with
 |put j o lg=>simp only[Tr.ap,AHeap.get,Trie.get_set]
 |next n=>rfl
theorem a7D:∀(ts:List Tr) (H:AHeap) (k:Nat),(∀o lg,Tr.put k o lg ∉ ts)→(aps ts H).get k=H.get k
 | [],H,k,_=>rfl
 |t::ts,H,k,h=>by
  rw[aps,a7D ts _ k fun o lg hm=>h o lg (List.mem_cons_of_mem _ hm),c6a]
  cases t with
  |put j o lg=>
   simp only
   split
   ·rename_i e;subst e;exact(h o lg List.mem_cons_self).elim
   ·rfl
  |next n=>rfl
theorem b1W:∀(ts:List Tr) {A B:AHeap},A.next=B.next→(aps ts A).next=(aps ts B).next
 | [],_,_,h=>h
 |t::ts,A,B,h=>b1W ts (by cases t<;>first|exact h|rfl)
theorem c0G:∀(ts:List Tr) (A:AHeap) (k:Nat),k∈(aps ts A).log↔k∈A.log∨∃o,Tr.put k o true∈ts
 | [],A,k=>by simp[aps]
 |t::ts,A,k=>by
  rw[aps,c0G ts]
  cases t with
  |put j o lg=>
   cases lg with
   |true=>
    simp only[Tr.ap,if_true,List.mem_cons]
    constructor
    ·rintro((rfl|h)|⟨x,h⟩)
     ·exact .inr ⟨o, .inl rfl⟩
     ·exact .inl h
     ·exact .inr ⟨x, .inr h⟩
    ·rintro(h|⟨x,h|h⟩)
     ·exact .inl (.inr h)
     ·cases h;exact .inl (.inl rfl)
     ·exact .inr ⟨x,h⟩
   |false=>simp[Tr.ap]
  |next n=>simp[Tr.ap]
theorem b8U.sub{M H:AHeap}(_:Wf M){a b c d:Nat}(h:b8U H a b)(h1:a≤c)(h2:d≤b):b8U H c d:=fun k x y=>h k (by omega) (by omega)
theorem K2.free{M H:AHeap}{ts:List Tr}(ht:K2 M ts){a b:Nat}(h1:(aps ts M).next≤a)(h:b8U H a b):b8U (aps ts H) a b:=by
 intro k hk1 hk2
 rw[a7D ts H k fun o lg hm=> ?_,h k hk1 hk2]
 have:=(ht.2 k o lg hm).2
 omega
theorem c2y(hc:c0Q call){ops:Array Oper}{T:List AV}{o:Oper}{M M':AHeap}{v:AV}(hw:Wf M)(h:a8W P E call ops T M o=some (v,M')):
  ∃ts,M'=aps ts M∧K2 M ts∧Wf M'∧∀H,Sub M H→b8U H M.next M'.next→a8W P E call ops T H o=some (v,aps ts H):=by
 unfold a8W at h
 split at h
 ·rename_i hwt
  split at h
  ·rename_i v1 H1 h1
   cases h
   obtain⟨ts,g1,g2,g3,g4⟩:=c1y hw h1
   exact⟨ts,g1,g2,g3,fun H hs _=>by unfold a8W;simp only[hwt,g4 H hs]⟩
  ·rename_i f args H1 h1
   obtain⟨rfl,g4⟩:=c1y hw h1
   obtain⟨ts,k1,k2,k3,k4⟩:=hc _ _ _ _ _ hw h
   exact⟨ts,k1,k2,k3,fun H hs hf=>by unfold a8W;simp only[hwt,g4 H hs];exact k4 H hs hf⟩
  ·cases h
 ·rename_i hwt
  cases h
  exact⟨[],rfl,K2.nil _,hw,fun H hs _=>by unfold a8W;simp only[hwt];rfl⟩
 ·cases h
end
end
section
mutual
theorem b2S:∀(a b:AV),Y8 a b=true→a=b
 | .bool a,b,h=>by cases b<;>simp_all [Y8]
 | .int j a,b,h=>by cases b<;>simp_all [Y8]
 | .str a,b,h=>by cases b<;>simp_all [Y8]
 | .nilPtr,b,h=>by cases b<;>simp_all [Y8]
 | .ptr o i,b,h=>by cases b<;>simp_all [Y8]
 | .nilSlc,b,h=>by cases b<;>simp_all [Y8]
 | .slc ..,b,h=>by cases b<;>simp_all [Y8]
 | .nilMap,b,h=>by cases b<;>simp_all [Y8]
 | .map k,b,h=>by cases b<;>simp_all [Y8]
 | .fn f x y,b,h=>by
  cases b<;>simp only[Y8,Bool.and_eq_true,decide_eq_true_eq]at h<;>try (cases h;done)
  obtain⟨⟨rfl,h1⟩,h2⟩:=h
  rw[a3U x _ h1,a3U y _ h2]
 | .nilFn,b,h=>by cases b<;>simp_all [Y8]
 | .ifc t v,b,h=>by
  cases b<;>simp only[Y8,Bool.and_eq_true,beq_iff_eq]at h<;>try (cases h;done)
  obtain⟨rfl,h2⟩:=h
  rw[b2S v _ h2]
 | .nilIfc,b,h=>by cases b<;>simp_all [Y8]
 | .agg x,b,h=>by
  cases b<;>simp only[Y8]at h<;>try (cases h;done)
  rw[a3U x _ h]
 | .tup x,b,h=>by
  cases b<;>simp only[Y8]at h<;>try (cases h;done)
  rw[a3U x _ h]
 | .opq v,b,h=>by cases b<;>simp_all [Y8]
theorem a3U:∀(a b:List AV),a9F a b=true→a=b
 | [],b,h=>by cases b<;>simp_all [a9F]
 |x::l,b,h=>by
  cases b<;>simp only[a9F,Bool.and_eq_true]at h<;>try (cases h;done)
  rw[b2S x _ h.1,a3U l _ h.2]
end
theorem c3s{a b:Option D4}(h:c3y a b=true):a=b:=by
 unfold c3y at h
 split at h
 ·rfl
 ·simp only[Bool.and_eq_true,beq_iff_eq]at h
  obtain⟨⟨h1,rfl⟩,rfl⟩:=h
  rw[a3U _ _ h1]
 ·simp only[beq_iff_eq]at h;rw[h]
 ·cases h
theorem b6b:∀ {a b:List (Nat×Option D4)},b3Z a b=true→a=b
 | [],b,h=>by cases b<;>simp_all [b3Z]
 |x::l,b,h=>by
  cases b<;>simp only[b3Z,Bool.and_eq_true,beq_iff_eq]at h<;>try (cases h;done)
  obtain⟨⟨h1,h2⟩,h3⟩:=h
  rw[b6b h3,show x=_ from Prod.ext h1 (c3s h2)]
theorem a1Z{p:Nat→l7→Bool}:∀ {ds:List l7} {j:Nat},b9L p j ds=true→∀(i:Nat) (d:l7),ds[i]? =some d→p (j+i) d=true
 | [],j,_,i,d,e=>by simp at e
 |x::ds,j,h,i,d,e=>by
  simp only[b9L,Bool.and_eq_true]at h
  cases i with
  |zero=>simp at e;subst e;exact h.1
  |succ i=>
   have:=a1Z h.2 i d (by simpa using e)
   rwa [show j+(i+1)=j+1+i by omega]
theorem b8m{lo hi:Nat}{H:AHeap}:∀x∈b4r lo hi H,x.2=H.get x.1:=by
 intro x hx
 simp only[b4r,List.mem_map]at hx
 obtain⟨k,_,rfl⟩:=hx
 rfl
theorem b8n{lo hi:Nat}{H:AHeap}{k:Nat}:k∈(b4r lo hi H).map (·.1)↔(k∈H.log∧k<lo)∨(lo≤k∧k<hi∧(H.get k).isSome=true):=by
 simp only[b4r,List.map_map,Function.comp_def,List.map_id',List.mem_append,List.mem_filter,decide_eq_true_eq,List.mem_range'_1]
 constructor
 ·rintro(h|⟨⟨h1,h2⟩,h3⟩)
  ·exact .inl h
  ·exact .inr ⟨h1,by omega,h3⟩
 ·rintro(h|⟨h1,h2,h3⟩)
  ·exact .inl h
  ·exact .inr ⟨⟨h1,by omega⟩,h3⟩
theorem b9d(H:AHeap)(lg:List Nat)(k j:Nat)(x:Option D4):({ H with objs:=H.objs.set k x,log:=lg }:AHeap).get j=if k=j then x else H.get j:=by
 simp only[AHeap.get,Trie.get_set]
theorem c1S{lim:Nat}{x:Option D4}{o:D4}(h:c3D lim x=some o):x=some o∧∀p∈p8 o,p<lim:=by
 cases x with
 |none=>cases h
 |some y=>
  simp only[c3D]at h
  split at h
  ·rename_i hp
   cases h
   exact⟨rfl,fun p hm=>by simpa using List.all_eq_true.1 hp p hm⟩
  ·cases h
theorem b1Q{lim:Nat}:∀(kv:List (Nat×Option D4)) {A:AHeap} {k:Nat},lim≤k→(b5W lim kv A).get k=A.get k
 | [],A,k,_=>rfl
 |x::l,A,k,h=>by
  rw[b5W,b1Q l h]
  split
  ·rw[show({ A with objs:=A.objs.set x.1 (c3D lim x.2) }:AHeap).get k=_ from b9d A A.log x.1 k _,if_neg (by omega)]
  ·rfl
theorem b1R{lim:Nat}{p:Nat→l7→Bool}:∀(ds:List l7) (j:Nat) {A:AHeap} {k:Nat},lim≤k→(a2A lim p j ds A).get k=A.get k
 | [],_,A,k,_=>rfl
 |d::ds,j,A,k,h=>by
  rw[a2A,b1R ds _ h]
  split
  ·exact b1Q _ h
  ·rfl
theorem b5F{lim:Nat}:∀(kv:List (Nat×Option D4)) {A:AHeap},(∀k o,A.get k=some o→∀p∈p8 o,p<lim)→∀k o,(b5W lim kv A).get k=some o→∀p∈p8 o,p<lim
 | [],A,h=>h
 |x::l,A,h=>by
  simp only[b5W]
  refine b5F l ?_
  split
  ·intro k o hk
   rw[show({ A with objs:=A.objs.set x.1 (c3D lim x.2) }:AHeap).get k=_ from b9d A A.log x.1 k _]at hk
   split at hk
   ·exact(c1S hk).2
   ·exact h k o hk
  ·exact h
theorem b6g{lim:Nat}{p:Nat→l7→Bool}:∀(ds:List l7) (j:Nat) {A:AHeap},(∀k o,A.get k=some o→∀p∈p8 o,p<lim)→∀k o,(a2A lim p j ds A).get k=some o→∀p∈p8 o,p<lim
 | [],_,A,h=>h
 |d::ds,j,A,h=>by
  simp only[a2A]
  refine b6g ds (j+1) ?_
  split
  ·exact b5F _ h
  ·exact h
theorem c4Z{M:AHeap}(hw:Wf M){lim:Nat}(hl:M.next≤lim)(p:Nat→l7→Bool)(j:Nat)(ds:List l7):Wf (atN (a2A lim p j ds M) lim):=
 ⟨fun k hk=>by
  show(a2A lim p j ds M).get k=none
  have hk':lim≤k:=hk
  rw[b1R ds j hk']
  exact hw.1 k (Nat.le_trans hl hk),
  fun k o hk=>b6g ds j (fun k o e q hq=>Nat.lt_of_lt_of_le (hw.2 k o e q hq) hl) k o hk⟩
structure Ok (d:l7):Prop where
 le:d.lo≤d.hi
 val:∃g:Nat→Option D4,∀x∈d.kv,x.2=g x.1
 key:∀k∈d.kv.map (·.1),k<d.hi
 new:d.wr=false→∀k∈d.kv.map (·.1),d.lo≤k
 pre:∀k o,(k,some o)∈d.kv→∀p∈p8 o,p<d.hi
def Ch:Nat→List l7→Nat→Prop
 |a,[],n=>a=n
 |a,d::ds,n=>d.lo=a∧Ok d∧Ch d.hi ds n
theorem Ch.le:∀ {ds:List l7} {a n:Nat},Ch a ds n→a≤n
 | [],a,n,h=>by simp only[Ch]at h;omega
 |d::ds,a,n,h=>by
  obtain⟨h1,h2,h3⟩:=h
  have:=h3.le;have:=h2.le;omega
theorem Ch.snoc:∀ {ds:List l7} {a:Nat} {d:l7},Ch a ds d.lo→Ok d→Ch a (ds++[d]) d.hi
 | [],a,d,h,hd=>by simp only[Ch]at h;exact⟨h.symm,hd,rfl⟩
 |e::ds,a,d,h,hd=>⟨h.1,h.2.1,Ch.snoc h.2.2 hd⟩
theorem Ch.at:∀ {ds:List l7} {a n:Nat},Ch a ds n→∀(i:Nat) (d:l7),ds[i]? =some d→Ok d∧a≤d.lo∧d.hi≤n
 | [],a,n,h,i,d,e=>by simp at e
 |x::ds,a,n,h,i,d,e=>by
  obtain⟨h1,h2,h3⟩:=h
  cases i with
  |zero=>simp at e;subst e;exact⟨h2,by omega,h3.le⟩
  |succ i=>
   obtain⟨g1,g2,g3⟩:=h3.at i d (by simpa using e)
   exact⟨g1,by have:=h2.le;omega,g3⟩
theorem Ch.lt:∀ {ds:List l7} {a n:Nat},Ch a ds n→∀(i j:Nat) (d e:l7),i<j→ds[i]? =some d→ds[j]? =some e→d.hi≤e.lo
 | [],a,n,h,i,j,d,e,_,hd,_=>by simp at hd
 |x::ds,a,n,h,i,j,d,e,hij,hd,he=>by
  obtain⟨h1,h2,h3⟩:=h
  cases j with
  |zero=>omega
  |succ j=>
   cases i with
   |zero=>simp at hd;subst hd;exact(h3.at j e (by simpa using he)).2.1
   |succ i=>exact h3.lt i j d e (by omega) (by simpa using hd) (by simpa using he)
end
section
def t7(D:Nat→Bool):Nat→List l7→List AV→List AV
 |_,[],T=>T
 |j,d::ds,T=>t7 D (j+1) ds (if D j then Z2 T d.o.dst d.v else T)
theorem a3u{D D':Nat→Bool}:∀(ds:List l7) (j:Nat) (T:List AV),(∀m,j≤m→m<j+ds.length→D m=D' m)→t7 D j ds T=t7 D' j ds T
 | [],_,_,_=>rfl
 |d::ds,j,H,h=>by
  simp only[t7]
  rw[h j (Nat.le_refl _) (by simp),a3u ds (j+1) _ fun m h1 h2=>h m (by omega) (by simp only[List.length_cons];omega)]
theorem c2k{a b:Option Tmp}{v u:AV}(T:List AV)(h:∀x,a=some x→b≠some x):Z2 (Z2 T a v) b u=Z2 (Z2 T b u) a v:=by
 cases a with
 |none=>rfl
 |some x=>
  cases b with
  |none=>rfl
  |some y=>
   simp only[Z2]
   exact List.set_comm _ _ (fun e=>h x rfl (by rw[e]))
theorem b6i{D:Nat→Bool}{dst:Option Tmp}{v:AV}:∀(ds:List l7) (j:Nat) (T:List AV),(∀(i:Nat) (d:l7),ds[i]? =some d→D (j+i)=true→∀x,dst=some x→d.o.dst≠some x)→
  t7 D j ds (Z2 T dst v)=Z2 (t7 D j ds T) dst v
 | [],_,_,_=>rfl
 |d::ds,j,T,h=>by
  simp only[t7]
  rw[←b6i ds (j+1) _ fun i e he hD=>h (i+1) e (by simpa using he) (by rwa [show j+(i+1)=j+1+i by omega])]
  split
  ·rename_i hj
   rw[c2k T (h 0 d rfl (by simpa using hj))]
  ·rfl
theorem a9r{D:Nat→Bool}{d:l7}:∀(ds:List l7) (j i:Nat) (T:List AV),ds[i]? =some d→D (j+i)=false→
  (∀(m:Nat) (e:l7),i<m→ds[m]? =some e→D (j+m)=true→∀x,d.o.dst=some x→e.o.dst≠some x)→
  t7 (fun x=>x==j+i||D x) j ds T=Z2 (t7 D j ds T) d.o.dst d.v
 | [],_,_,_,h,_,_=>by simp at h
 |x::ds,j,0,T,h,hD,hdis=>by
  simp at h
  subst h
  have hD':D j=false:=hD
  simp only[t7,Nat.add_zero,beq_self_eq_true,Bool.true_or,if_true,hD',Bool.false_eq_true,if_false]
  rw[a3u (D:=fun x=>x==j||D x) (D':=D) ds (j+1) _ (fun m h1 h2=>by
   have:(m==j)=false:=by simp;omega
   simp only[this,Bool.false_or])]
  exact b6i ds (j+1) _ (fun i e he hDi=>hdis (i+1) e (by omega) (by simpa using he) (by rwa [show j+(i+1)=j+1+i by omega]))
 |x::ds,j,i+1,T,h,hD,hdis=>by
  simp only[t7]
  have e0:(j==j+(i+1)||D j)=D j:=by
   have:(j==j+(i+1))=false:=by simp
   rw[this,Bool.false_or]
  simp only[e0]
  rw[show j+(i+1)=j+1+i by omega]
  exact a9r ds (j+1) i _ (by simpa using h) (by rwa [show j+1+i=j+(i+1) by omega])
   (fun m e hm he hDm=>hdis (m+1) e (by omega) (by simpa using he) (by rwa [show j+(m+1)=j+1+m by omega]))
theorem b5b{T U:List AV}{t:Nat}(h:T[t]? =U[t]?)(dst:Option Tmp)(v:AV):(Z2 T dst v)[t]? =(Z2 U dst v)[t]? :=by
 cases dst with
 |none=>exact h
 |some d=>
  simp only[Z2,List.getElem?_set]
  by_cases e:d=t
  ·subst e
   have:d<T.length↔d<U.length:=by
    constructor
    ·intro e;refine Nat.lt_of_not_le fun e'=> ?_
     rw[List.getElem?_eq_getElem e,List.getElem?_eq_none e']at h;cases h
    ·intro e;refine Nat.lt_of_not_le fun e'=> ?_
     rw[List.getElem?_eq_getElem e,List.getElem?_eq_none e']at h;cases h
   simp only[if_true,this]
  ·simp only[e,if_false,h]
theorem a4l{T:List AV}{t:Nat}{dst:Option Tmp}(v:AV)(h:dst≠some t):(Z2 T dst v)[t]? =T[t]? :=by
 cases dst with
 |none=>rfl
 |some d=>simp only[Z2];rw[List.getElem?_set_ne (fun e=>h (by rw[e]))]
theorem a6u{D D':Nat→Bool}{t:Nat}:∀(ds:List l7) (j:Nat) (A B:List AV),(∀(i:Nat) (d:l7),ds[i]? =some d→D (j+i)≠D' (j+i)→d.o.dst≠some t)→A[t]? =B[t]? →
  (t7 D j ds A)[t]? =(t7 D' j ds B)[t]?
 | [],_,_,_,_,h=>h
 |d::ds,j,A,B,hd,h=>by
  simp only[t7]
  refine a6u ds (j+1) _ _ (fun i e he hne=>hd (i+1) e (by simpa using he) (by rwa [show j+(i+1)=j+1+i by omega])) ?_
  have h0:=hd 0 d rfl
  simp only[Nat.add_zero]at h0
  cases h1:D j<;>cases h2:D' j
  ·exact h
  ·simp only[Bool.false_eq_true,if_false,if_true]
   rw[a4l _ (h0 (by rw[h1,h2];decide)),h]
  ·simp only[Bool.false_eq_true,if_false,if_true]
   rw[a4l _ (h0 (by rw[h1,h2];decide)),h]
  ·exact b5b h _ _
theorem a4L{D:Nat→Bool}:∀(ds:List l7) (j:Nat) (T:List AV),(∀m,j≤m→D m=false)→t7 D j ds T=T
 | [],_,_,_=>rfl
 |d::ds,j,T,h=>by
  simp only[t7,h j (Nat.le_refl _),Bool.false_eq_true,if_false]
  exact a4L ds (j+1) T fun m hm=>h m (by omega)
theorem b4l:∀(ds:List l7) (i j:Nat) (T:List AV),t7 (fun _=>true) j (ds.take i) T=t7 (fun x=>decide (x<j+i)) j ds T
 | [],i,j,T=>by simp[t7]
 |d::ds,0,j,T=>by
  simp only[List.take_zero,t7.eq_1]
  exact(a4L (d::ds) j T fun m hm=>by simp;omega).symm
 |d::ds,i+1,j,T=>by
  have e1:decide (j<j+(i+1))=true:=by simp
  simp only[List.take_succ_cons,t7,if_true,e1]
  rw[b4l ds i (j+1),show j+1+i=j+(i+1) by omega]
theorem b1U{lim:Nat}{p q:Nat→l7→Bool}:∀(ds:List l7) (j:Nat) (A:AHeap),(∀(i:Nat) (d:l7),ds[i]? =some d→p (j+i) d=q (j+i) d)→a2A lim p j ds A=a2A lim q j ds A
 | [],_,_,_=>rfl
 |d::ds,j,A,h=>by
  simp only[a2A]
  rw[show p j d=q j d from h 0 d rfl]
  exact b1U ds (j+1) _ fun i e he=>by
   have:=h (i+1) e (by simpa using he)
   rwa [show j+(i+1)=j+1+i by omega]at this
end
end Go.Am
end
