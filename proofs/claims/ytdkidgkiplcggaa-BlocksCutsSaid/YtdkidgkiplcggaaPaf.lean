/-
  BlocksCutsSaid: part Paf of its proof.
-/
import Derived.Test.YtdkidgkiplcggaaPae
import Derived.LoopN
set_option linter.unusedVariables false
set_option linter.unusedSimpArgs false
set_option maxRecDepth 100000
section
namespace Go.Am
section
inductive Tr where
 |put (k:Nat) (o:Option G3) (lg:Bool)
 |next (n:Nat)
def Tr.ap:Tr→AHeap→AHeap
 | .put k o lg,H=> { H with objs:=H.objs.set k o,log:=if lg then k::H.log else H.log }
 | .next n,H=> { H with next:=n }
def aps:List Tr→AHeap→AHeap
 | [],H=>H
 |t::ts,H=>aps ts (t.ap H)
theorem P7:∀(a b:List Tr) (H:AHeap),aps (a++b) H=aps b (aps a H)
 | [],_,_=>rfl
 |t::a,b,H=>P7 a b (t.ap H)
structure Sub (M H:AHeap):Prop where
 get:∀k o,M.get k=some o→H.get k=some o
 next:H.next=M.next
 log:H.log=M.log
theorem Sub.refl(H:AHeap):Sub H H:=⟨fun _ _ h=>h,rfl,rfl⟩
theorem Sub.ap{M H:AHeap}(h:Sub M H)(t:Tr):Sub (t.ap M) (t.ap H):=by
 cases t with
 |put k o lg=>
  refine⟨fun j x hx=> ?_,h.next,by simp only[Tr.ap,h.log]⟩
  simp only[Tr.ap,AHeap.get,Trie.get_set]at hx ⊢
  split
  ·rename_i e;rwa [if_pos e]at hx
  ·rename_i e;rw[if_neg e]at hx;exact h.get j x hx
 |next n=>exact⟨h.get,rfl,h.log⟩
theorem Sub.aps{M H:AHeap}:∀(ts:List Tr),Sub M H→Sub (aps ts M) (aps ts H)
 | [],h=>h
 |t::ts,h=>Sub.aps ts (h.ap t)
def O5(M:AHeap)(ts:List Tr):Prop:=M.next≤(aps ts M).next∧∀k o lg,Tr.put k o lg∈ts→(lg=false→M.next≤k)∧k<(aps ts M).next
def Wf(M:AHeap):Prop:=(∀k,M.next≤k→M.get k=none)∧∀k o,M.get k=some o→∀p∈s9 o,p<M.next
theorem O5.nil(M:AHeap):O5 M []:=⟨Nat.le_refl _,by simp⟩
section
variable{E:g8}{P:Program}{M H:AHeap}
theorem a7L(h:Sub M H){o:Id}{cs:List AV}(e:cellsOf E M o=some cs):cellsOf E H o=some cs:=by
 cases o with
 |old b=>exact e
 |new k=>
  simp only[cellsOf]at e ⊢
  split at e
  ·rename_i cs' wr pre hk;rw[h.get _ _ hk];exact e
  ·cases e
theorem b9Y(h:Sub M H){o:Id}{i:Nat}{a:AV}(e:a3c E M o i=some a):a3c E H o i=some a:=by
 unfold a3c at e ⊢
 split at e
 ·rename_i cs hc;rw[a7L h hc];exact e
 ·cases e
theorem a4K(h:Sub M H){o:Id}{i n:Nat}{a:List AV}(e:B5 E M o i n=some a):B5 E H o i n=some a:=by
 unfold B5 at e ⊢
 split at e
 ·rename_i cs hc;rw[a7L h hc];exact e
 ·cases e
theorem b4d(h:Sub M H){o:Id}{i n:Nat}{a:List AV}(e:F4 E M o i n=some a):F4 E H o i n=some a:=by
 unfold F4 at e ⊢
 split at e
 ·rename_i h0;rw[if_pos h0];exact e
 ·rename_i h0;rw[if_neg h0];exact a4K h e
theorem b1W(h:Sub M H){t:TypeId}{o:Id}{i:Nat}{a:AV}(e:H4 P E M t o i=some a):H4 P E H t o i=some a:=by
 unfold H4 at e ⊢
 simp only[Option.bind_eq_bind,Option.bind_eq_some_iff]at e ⊢
 obtain⟨g,hg,e⟩:=e
 refine⟨g,hg, ?_⟩
 cases g with
 |true=>
  simp only[if_true,Option.bind_eq_some_iff]at e ⊢
  obtain⟨n,hn,as,has,e⟩:=e
  exact⟨n,hn,as,a4K h has,e⟩
 |false=>
  simp only[Bool.false_eq_true,if_false]at e ⊢
  exact b9Y h e
theorem b5Y(h:Sub M H){size n:Nat}{x:AV}{r:List AV}(e:U5 E M size n x=some r):U5 E H size n x=some r:=by
 unfold U5 at e ⊢
 split at e
 ·exact e
 ·exact b4d h e
 ·exact e
 ·cases e
theorem c0A(h:Sub M H){x:AV}{r:List (AV×AV×Nat)}(e:a2b M x=some r):a2b H x=some r:=by
 unfold a2b at e ⊢
 split at e
 ·exact e
 ·split at e
  ·rename_i es c hk;rw[h.get _ _ hk];exact e
  ·cases e
 ·cases e
theorem a6f(h:Sub M H){t:TypeId}{x:X4}{a:AV}(e:x.get P E M t=some a):x.get P E H t=some a:=by
 cases x with
 |val v=>exact e
 |var o i=>exact b1W h e
theorem a4p(h:Sub M H):∀ {path:List FieldStep} {t:TypeId} {x:X4} {r:TypeId×X4},P3 P E M path t x=some r→P3 P E H path t x=some r
 | [],t,x,r,e=>e
 |s::rest,t,x,r,e=>by
  simp only[P3,Option.bind_eq_bind,Option.bind_eq_some_iff]at e ⊢
  obtain⟨fd,hfd,e⟩:=e
  refine⟨fd,hfd, ?_⟩
  split at e
  ·rename_i hc
   rw[if_pos hc]
   split at e
   ·rename_i hd
    rw[if_pos hd]
    simp only[Option.bind_eq_some_iff]at e ⊢
    obtain⟨a,ha,e⟩:=e
    refine⟨a,a6f h ha, ?_⟩
    split at e
    ·exact a4p h e
    ·cases e
   ·rename_i hd
    rw[if_neg hd]
    split at e
    ·exact a4p h e
    ·simp only[Option.bind_eq_some_iff]at e ⊢
     obtain⟨y,hy,e⟩:=e
     exact⟨y,hy,a4p h e⟩
    ·cases e
  ·cases e
theorem b3I(h:Sub M H){t:TypeId}{v:AV}{name:String}{r:FuncId×AV}(e:Z3 P E M t v name=some r):Z3 P E H t v name=some r:=by
 unfold Z3 at e ⊢
 simp only[Option.bind_eq_bind,Option.bind_eq_some_iff]at e ⊢
 obtain⟨info,hi,m,hm,⟨xt,x⟩,hfo,⟨g,pr⟩,hfn,e⟩:=e
 refine⟨info,hi,m,hm,⟨xt,x⟩,a4p h hfo,⟨g,pr⟩,hfn, ?_⟩
 simp only at e ⊢
 split at e
 ·simp only[Option.map_eq_some_iff]at e ⊢
  obtain⟨y,hy,e⟩:=e
  exact⟨y,a6f h hy,e⟩
 ·cases e
 ·exact e
 ·cases e
 ·simp only[Option.map_eq_some_iff]at e ⊢
  obtain⟨y,hy,e⟩:=e
  exact⟨y,a6f h hy,e⟩
 ·cases e
theorem c9i(H:AHeap)(o:G3):H.new o=aps [.put H.next (some o) false, .next (H.next+1)] H:=rfl
theorem b0H:∀(ks:List Nat) (H:AHeap),H.killAll ks=aps (ks.map fun k=> .put k none true) H
 | [],_=>rfl
 |k::ks,H=>b0H ks (H.kill k)
theorem Wf.lt(h:Wf M){k:Nat}{o:G3}(e:M.get k=some o):k<M.next:=by
 rcases Nat.lt_or_ge k M.next with h'|h'
 ·exact h'
 ·rw[h.1 k h']at e;cases e
theorem b5f(hw:Wf M){k:Nat}{o o':G3}{pre:List Nat}(hk:M.get k=some o)(hp:∀p∈pre,p<M.next)(hp':∀p∈s9 o',p<M.next):
  ∃ts,(∀H:AHeap,(H.killAll pre).set k o'=aps ts H)∧O5 M ts∧Wf ((M.killAll pre).set k o'):=by
 refine⟨(pre.map fun p=>Tr.put p none true)++[.put k (some o') true],fun H=>by rw[P7, ←b0H];rfl, ?_, ?_⟩
 ·have hn:(aps ((pre.map fun p=>Tr.put p none true)++[.put k (some o') true]) M).next=M.next:=by
   rw[P7, ←b0H];exact AHeap.next_killAll pre M
  refine⟨by omega,fun j x lg hm=> ?_⟩
  rw[hn]
  simp only[List.mem_append,List.mem_map,List.mem_singleton,Tr.put.injEq]at hm
  rcases hm with ⟨p,hpp,rfl,_,rfl⟩|⟨rfl,_,rfl⟩
  ·exact⟨(fun e=>by cases e),hp _ hpp⟩
  ·exact⟨(fun e=>by cases e),hw.lt hk⟩
 ·refine⟨fun j hj=> ?_,fun j x hx p hpp=> ?_⟩
  ·simp only[AHeap.next_set,AHeap.next_killAll]at hj
   rw[AHeap.get_set,AHeap.get_killAll,if_neg (by have:=hw.lt hk;omega)]
   split
   ·rfl
   ·exact hw.1 j hj
  ·simp only[AHeap.next_set,AHeap.next_killAll]
   rw[AHeap.get_set,AHeap.get_killAll]at hx
   split at hx
   ·cases hx;exact hp' p hpp
   ·split at hx
    ·cases hx
    ·exact hw.2 j x hx p hpp
theorem a8T(hw:Wf M){o:G3}(hp:∀p∈s9 o,p<M.next):∃ts,(∀H,Sub M H→H.new o=aps ts H)∧O5 M ts∧Wf (M.new o):=by
 refine⟨[.put M.next (some o) false, .next (M.next+1)],fun H h=>by rw[c9i,h.next],⟨by simp[aps,Tr.ap],fun j x lg hm=> ?_⟩, ?_⟩
 ·simp only[List.mem_cons,Tr.put.injEq,List.not_mem_nil,or_false,reduceCtorEq]at hm
  obtain⟨rfl,_,rfl⟩:=hm
  exact⟨fun _=>Nat.le_refl _,by simp[aps,Tr.ap]⟩
 ·refine⟨fun j hj=> ?_,fun j x hx p hpp=> ?_⟩
  ·simp only[AHeap.next_new]at hj
   rw[AHeap.get_new,if_neg (by omega)]
   exact hw.1 j (by omega)
  ·simp only[AHeap.next_new]
   rw[AHeap.get_new]at hx
   split at hx
   ·cases hx;have:=hp p hpp;omega
   ·have:=hw.2 j x hx p hpp;omega
theorem O5.append{ts us:List Tr}(h:O5 M ts)(h':O5 (aps ts M) us):O5 M (ts++us):=by
 refine⟨by rw[P7];exact Nat.le_trans h.1 h'.1,fun k o lg hm=> ?_⟩
 rw[P7]
 rcases List.mem_append.1 hm with hm|hm
 ·obtain⟨a,b⟩:=h.2 k o lg hm
  exact⟨a,Nat.lt_of_lt_of_le b h'.1⟩
 ·obtain⟨a,b⟩:=h'.2 k o lg hm
  exact⟨fun e=>Nat.le_trans h.1 (a e),b⟩
def b7u(P:Program)(E:g8)(T:List AV)(o:Oper)(M:AHeap)(r:W7):Prop:=
 match r with
 | .val v M'=>∃ts,M'=aps ts M∧O5 M ts∧Wf M'∧∀H,Sub M H→V8 P E T H o=some (.val v (aps ts H))
 | .call f args M'=>M'=M∧∀H,Sub M H→V8 P E T H o=some (.call f args H)
theorem a7E(hw:Wf M){o:Id}{i:Nat}{vs:List AV}{M':AHeap}(h:z8 M o i vs=some M'):
  ∃ts,M'=aps ts M∧O5 M ts∧Wf M'∧∀H,Sub M H→z8 H o i vs=some (aps ts H):=by
 unfold z8 at h
 split at h
 ·cases h;exact⟨[],rfl,O5.nil _,hw,fun H _=>rfl⟩
 ·rename_i hne
  split at h
  ·cases h
  ·rename_i k
   split at h
   ·rename_i cs pre hk
    split at h
    ·rename_i hc
     cases h
     obtain⟨ts,g1,g2,g3⟩:=b5f hw (pre:=pre) (o':= .cells (z7 cs i vs) true []) hk (hw.2 k _ hk) (by simp[s9])
     refine⟨ts,g1 M,g2,g3,fun H hs=> ?_⟩
     unfold z8
     split
     ·exact absurd rfl hne
     ·simp only[hs.get _ _ hk]
      rw[if_pos hc,g1 H]
    ·cases h
   ·cases h
theorem b9l(hw:Wf M){size bytes n:Nat}{s a:AV}{news:List AV}{M':AHeap}(h:J6 E M size bytes s n news=some (a,M')):
  ∃ts,M'=aps ts M∧O5 M ts∧Wf M'∧∀H,Sub M H→J6 E H size bytes s n news=some (a,aps ts H):=by
 unfold J6 at h
 split at h
 ·rename_i hl
  split at h
  ·split at h
   ·rename_i hn
    cases h
    exact⟨[],rfl,O5.nil _,hw,fun H _=>by unfold J6;rw[if_pos hl];simp only;rw[if_pos hn];rfl⟩
   ·rename_i hn
    split at h
    ·rename_i hb
     cases h
     obtain⟨ts,g1,g2,g3⟩:=a8T hw (o:= .cells news true []) (by simp[s9])
     refine⟨ts,g1 M (Sub.refl M),g2,g3,fun H hs=> ?_⟩
     unfold J6
     rw[if_pos hl];simp only;rw[if_neg hn,if_pos hb,hs.next,newCells,g1 H hs]
    ·cases h
  ·rename_i o i len cap ex sz
   split at h
   ·rename_i hn
    cases h
    exact⟨[],rfl,O5.nil _,hw,fun H _=>by unfold J6;rw[if_pos hl];simp only;rw[if_pos hn];rfl⟩
   ·rename_i hn
    split at h
    ·rename_i hb
     split at h
     ·rename_i hex
      split at h
      ·rename_i olds ho
       cases h
       obtain⟨ts,g1,g2,g3⟩:=a8T hw (o:= .cells (olds++news) true []) (by simp[s9])
       refine⟨ts,g1 M (Sub.refl M),g2,g3,fun H hs=> ?_⟩
       unfold J6
       rw[if_pos hl];simp only;rw[if_neg hn,if_pos hb,if_pos hex,a4K hs ho]
       simp only
       rw[hs.next,newCells,g1 H hs]
      ·cases h
     ·rename_i hex
      split at h
      ·cases h
      ·rename_i k
       split at h
       ·rename_i cs pre hk
        have hkn:=hw.lt hk
        have hpl:∀p∈pre,p<M.next:=hw.2 k _ hk
        split at h
        ·rename_i hc
         split at h
         ·rename_i hlt
          cases h
          obtain⟨ts,g1,g2,g3⟩:=b5f hw (o':= .cells (cs.take (i+len*size)) false []) hk hpl (by simp[s9])
          have hnx:((M.killAll pre).set k (.cells (cs.take (i+len*size)) false [])).next=M.next:=by simp
          obtain⟨us,k1,k2,k3⟩:=a8T g3 (o:= .cells ((cs.take (i+len*size)).drop i++news) true [k]) (by simp[s9];exact hkn)
          refine⟨ts++us,by rw[P7, ←g1, ←k1 _ (Sub.refl _)],g2.append (by rw[←g1];exact k2),k3,fun H hs=> ?_⟩
          unfold J6
          rw[if_pos hl];simp only;rw[if_neg hn,if_pos hb,if_neg hex]
          simp only[hs.get _ _ hk]
          rw[if_pos hc,if_pos hlt,hs.next,g1 H,k1 _ (by rw[g1 M];exact hs.aps ts),P7]
         ·rename_i hlt
          cases h
          obtain⟨ts,g1,g2,g3⟩:=b5f hw (o':= .cells cs false pre) (pre:=[]) hk (by simp) (by simpa [s9]using hpl)
          obtain⟨us,k1,k2,k3⟩:=a8T g3 (o:= .cells (cs.drop i++news) true (k::pre)) (by
           intro p hp
           simp only[s9,List.mem_cons]at hp
           rcases hp with rfl|hp
           ·exact hkn
           ·exact hpl p hp)
          refine⟨ts++us,by rw[P7, ←g1, ←k1 _ (Sub.refl _)];rfl,g2.append (by rw[←g1];exact k2),k3,fun H hs=> ?_⟩
          unfold J6
          rw[if_pos hl];simp only;rw[if_neg hn,if_pos hb,if_neg hex]
          simp only[hs.get _ _ hk]
          rw[if_pos hc,if_neg hlt,hs.next,P7, ←g1, ←k1 _ (by rw[g1 M,g1 H];exact hs.aps ts)]
          rfl
        ·cases h
       ·cases h
    ·cases h
  ·cases h
 ·cases h
theorem a1e(hw:Wf M)(cs:List AV):∃ts,(∀H,Sub M H→newCells H cs=aps ts H)∧O5 M ts∧Wf (newCells M cs):=
 a8T hw (o:= .cells cs true []) (by simp[s9])
theorem c1y(hw:Wf M){sT xT:TypeId}{s x a:AV}{M':AHeap}(h:Y8 P E M sT s xT x=some (a,M')):
  ∃ts,M'=aps ts M∧O5 M ts∧Wf M'∧∀H,Sub M H→Y8 P E H sT s xT x=some (a,aps ts H):=by
 unfold Y8 at h
 simp only[Option.bind_eq_bind,Option.bind_eq_some_iff]at h
 obtain⟨e,he,size,hs,bytes,hb,z,hz,h⟩:=h
 split at h
 ·rename_i hzs
  split at h
  ·rename_i k hu
   simp only[Option.bind_eq_some_iff]at h
   obtain⟨l,hl,h⟩:=h
   split at h
   ·rename_i hc
    obtain⟨ts,g1,g2,g3,g4⟩:=b9l hw h
    refine⟨ts,g1,g2,g3,fun H hsub=> ?_⟩
    unfold Y8
    simp only[Option.bind_eq_bind,he,hs,hb,hz,Option.bind_some,hzs,if_true,hu,hl]
    rw[if_pos hc,g4 H hsub]
   ·cases h
  ·rename_i d hd hu
   simp only[Option.bind_eq_some_iff]at h
   obtain⟨n,hn,nw,hnw,h⟩:=h
   obtain⟨ts,g1,g2,g3,g4⟩:=b9l hw h
   refine⟨ts,g1,g2,g3,fun H hsub=> ?_⟩
   unfold Y8
   simp only[Option.bind_eq_bind,he,hs,hb,hz,Option.bind_some,hzs,if_true,hu]
   have:(match some d with
    |some (.int _)=>(do
      let l←R7 x
      if IntKind.i64.wrap l=l∧0≤l∧l*bytes≤2^47 then J6 E H size bytes s l.toNat (rep z.cells l.toNat) else none:Option (AV×AHeap))
    |some _=>(do
      let n←a1J x
      let news←U5 E H size n x
      J6 E H size bytes s n news)
    |none=>none)=some (a,aps ts H):=by
    cases d<;>first|exact(hd _ rfl).elim|(simp only[Option.bind_eq_bind,hn,Option.bind_some,b5Y hsub hnw];exact g4 H hsub)
   simpa only[Option.bind_eq_bind]using this
  ·cases h
 ·cases h
theorem c5T(hw:Wf M){dT:TypeId}{d x a:AV}{M':AHeap}(h:a8h P E M dT d x=some (a,M')):
  ∃ts,M'=aps ts M∧O5 M ts∧Wf M'∧∀H,Sub M H→a8h P E H dT d x=some (a,aps ts H):=by
 unfold a8h at h
 simp only[Option.bind_eq_bind,Option.bind_eq_some_iff]at h
 obtain⟨e,he,size,hs,k,hk,h⟩:=h
 split at h
 ·cases h
  exact⟨[],rfl,O5.nil _,hw,fun H _=>by unfold a8h;simp only[Option.bind_eq_bind,he,hs,hk,Option.bind_some];rfl⟩
 ·rename_i o i len cap ex sz
  simp only[Option.bind_eq_some_iff]at h
  obtain⟨nw,hnw,H1,hst,h⟩:=h
  cases h
  obtain⟨ts,g1,g2,g3,g4⟩:=a7E hw hst
  refine⟨ts,g1,g2,g3,fun H hsub=> ?_⟩
  unfold a8h
  simp only[Option.bind_eq_bind,he,hs,hk,Option.bind_some,b5Y hsub hnw,g4 H hsub]
 ·cases h
theorem c5p(hw:Wf M){src dst:TypeId}{x a:AV}{M':AHeap}(h:J3 P E M src dst x=some (a,M')):
  ∃ts,M'=aps ts M∧O5 M ts∧Wf M'∧∀H,Sub M H→J3 P E H src dst x=some (a,aps ts H):=by
 unfold J3 at h
 split at h
 ·rename_i h1 h2
  cases h
  refine⟨[],rfl,O5.nil _,hw,fun H _=> ?_⟩
  unfold J3;rw[h1,h2];rfl
 ·rename_i h1 h2
  cases h
  refine⟨[],rfl,O5.nil _,hw,fun H _=> ?_⟩
  unfold J3;rw[h1,h2];rfl
 ·rename_i d e s h1 h2
  split at h
  ·rename_i he
   split at h
   ·rename_i hl
    cases h
    obtain⟨ts,g1,g2,g3⟩:=a1e hw (s.map fun b=>AV.int .u8 b.toNat)
    refine⟨ts,g1 M (Sub.refl M),g2,g3,fun H hs=> ?_⟩
    unfold J3;rw[h1,h2];simp only[he,hl,if_true,hs.next,g1 H hs]
   ·cases h
  ·cases h
 ·rename_i d e k i len cap ex sz h1 h2
  split at h
  ·rename_i he
   split at h
   ·rename_i hc
    cases h
    refine⟨[],rfl,O5.nil _,hw,fun H hs=> ?_⟩
    obtain⟨cs,hcs⟩:=Option.isSome_iff_exists.1 hc.2.2
    have hc':src=dst∧len≠0∧(cellsOf E H (.new k)).isSome:=⟨hc.1,hc.2.1,by rw[a7L hs hcs];rfl⟩
    unfold J3;rw[h1,h2];simp only[he]
    rw[if_pos hc'];rfl
   ·cases h
  ·cases h
 ·rename_i e h1 h2 hno
  split at h
  ·rename_i he
   split at h
   ·cases h
    refine⟨[],rfl,O5.nil _,hw,fun H _=> ?_⟩
    unfold J3;rw[h1,h2];simp only[he];rfl
   ·rename_i o i len cap ex sz _
    split at h
    ·rename_i cs hcs
     simp only[Option.map_eq_some_iff]at h
     obtain⟨bs,hbs,h⟩:=h
     cases h
     refine⟨[],rfl,O5.nil _,hw,fun H hs=> ?_⟩
     unfold J3;rw[h1,h2];simp only[he,b4d hs hcs,hbs];rfl
    ·cases h
   ·cases h
  ·cases h
 ·cases h
theorem b1M(hw:Wf M){k:Nat}{es es':List (AV×AV×Nat)}{clock clock':Nat}(hk:M.get k=some (.map es clock)):
  ∃ts,(∀H:AHeap,H.set k (.map es' clock')=aps ts H)∧O5 M ts∧Wf (M.set k (.map es' clock')):=by
 obtain⟨ts,g1,g2,g3⟩:=b5f hw (pre:=[]) (o':= .map es' clock') hk (by simp) (by simp[s9])
 exact⟨ts,g1,g2,g3⟩
theorem b3W(hw:Wf M){t:TypeId}{m key v:AV}{M':AHeap}(h:P5 P M t m key v=some M'):
  ∃ts,M'=aps ts M∧O5 M ts∧Wf M'∧∀H,Sub M H→P5 P H t m key v=some (aps ts H):=by
 unfold P5 at h
 split at h
 ·rename_i kt e k hu
  split at h
  ·rename_i hf
   split at h
   ·rename_i es clock hk
    split at h
    ·rename_i hfa
     cases h
     obtain⟨ts,g1,g2,g3⟩:=b1M hw hk
     refine⟨ts,g1 M,g2,g3,fun H hs=> ?_⟩
     unfold P5;rw[hu];simp only[hf,if_true,hs.get _ _ hk,hfa,g1 H]
    ·rename_i hfa
     cases h
     obtain⟨ts,g1,g2,g3⟩:=b1M hw hk
     refine⟨ts,g1 M,g2,g3,fun H hs=> ?_⟩
     unfold P5;rw[hu];simp only[hf,if_true,hs.get _ _ hk,hfa,g1 H]
    ·cases h
   ·cases h
  ·cases h
 ·cases h
theorem c3V(hw:Wf M){t:TypeId}{m key a:AV}{M':AHeap}(h:a2v P M t m key=some (a,M')):
  ∃ts,M'=aps ts M∧O5 M ts∧Wf M'∧∀H,Sub M H→a2v P H t m key=some (a,aps ts H):=by
 unfold a2v at h
 split at h
 ·rename_i kt e k hu
  split at h
  ·rename_i hf
   split at h
   ·rename_i es clock hk
    split at h
    ·rename_i hfa
     cases h
     obtain⟨ts,g1,g2,g3⟩:=b1M hw hk
     refine⟨ts,g1 M,g2,g3,fun H hs=> ?_⟩
     unfold a2v;rw[hu];simp only[hf,if_true,hs.get _ _ hk,hfa,g1 H]
    ·rename_i hfa
     split at h
     ·rename_i z hz
      cases h
      obtain⟨ts,g1,g2,g3⟩:=b1M hw hk
      refine⟨ts,g1 M,g2,g3,fun H hs=> ?_⟩
      unfold a2v;rw[hu];simp only[hf,if_true,hs.get _ _ hk,hfa,hz,g1 H]
     ·cases h
    ·cases h
   ·cases h
  ·cases h
 ·cases h
theorem b4H(hw:Wf M){m stamp v:AV}{M':AHeap}(h:D1 M m stamp v=some M'):
  ∃ts,M'=aps ts M∧O5 M ts∧Wf M'∧∀H,Sub M H→D1 H m stamp v=some (aps ts H):=by
 unfold D1 at h
 split at h
 ·rename_i k ik n
  split at h
  ·rename_i es clock hk
   split at h
   ·rename_i i hi
    split at h
    ·rename_i ent hent
     cases h
     obtain⟨ts,g1,g2,g3⟩:=b1M hw hk
     refine⟨ts,g1 M,g2,g3,fun H hs=> ?_⟩
     unfold D1;simp only[hs.get _ _ hk,hi,hent,g1 H]
    ·cases h
   ·cases h
  ·cases h
 ·cases h
theorem c1V(h:Sub M H){t:TypeId}{x ix:AV}{ok:Bool}{a:AV}(e:a1g P M t x ix ok=some a):a1g P H t x ix ok=some a:=by
 unfold a1g at e ⊢
 split at e
 ·split at e
  ·rename_i hf
   rw[if_pos hf]
   simp only[Option.bind_eq_some_iff]at e ⊢
   obtain⟨es,hes,e⟩:=e
   exact⟨es,c0A h hes,e⟩
  ·cases e
 ·cases e
theorem c1O(h:Sub M H){t:TypeId}{x:AV}{n:Nat}(e:a1P P M t x=some n):a1P P H t x=some n:=by
 unfold a1P at e ⊢
 split at e
 ·exact e
 ·split at e
  ·rename_i es c hk;simp only[h.get _ _ hk];exact e
  ·cases e
 ·cases e
theorem c3P(h:Sub M H){t:TypeId}{x:AV}{lo hi mx:Option AV}{a:AV}(e:a0G P M t x lo hi mx=some a):a0G P H t x lo hi mx=some a:=by
 unfold a0G at e ⊢
 split at e
 ·exact e
 ·exact e
 ·exact e
 ·simp only[Option.bind_eq_bind,Option.bind_eq_some_iff]at e ⊢
  obtain⟨size,hs,r,hr,e⟩:=e
  refine⟨size,hs,r,hr, ?_⟩
  split at e
  ·rename_i cs wr pre hk;rw[h.get _ _ hk];exact e
  ·cases e
 ·cases e
theorem b4w(hw:Wf M){t:TypeId}{len:Nat}{ps:List (Nat×AV)}{a:AV}{M':AHeap}(h:I2 P M t len ps=some (a,M')):
  ∃ts,M'=aps ts M∧O5 M ts∧Wf M'∧∀H,Sub M H→I2 P H t len ps=some (a,aps ts H):=by
 unfold I2 at h
 simp only[Option.bind_eq_bind,Option.bind_eq_some_iff]at h
 obtain⟨e,he,size,hs,h⟩:=h
 split at h
 ·rename_i hn
  simp only[Option.bind_eq_some_iff]at h
  obtain⟨z,hz,h⟩:=h
  split at h
  ·rename_i hzs
   simp only[Option.bind_eq_some_iff]at h
   obtain⟨cs,hcs,h⟩:=h
   cases h
   obtain⟨ts,g1,g2,g3⟩:=a1e hw cs
   refine⟨ts,g1 M (Sub.refl M),g2,g3,fun H hsub=> ?_⟩
   unfold I2
   simp only[Option.bind_eq_bind,he,hs,Option.bind_some,hn,if_true,hz,hzs,hcs,hsub.next,g1 H hsub]
  ·cases h
 ·cases h
theorem b6p(hw:Wf M){t:TypeId}{len cap a:AV}{M':AHeap}(h:I6 P M t len cap=some (a,M')):
  ∃ts,M'=aps ts M∧O5 M ts∧Wf M'∧∀H,Sub M H→I6 P H t len cap=some (a,aps ts H):=by
 unfold I6 at h
 simp only[Option.bind_eq_bind,Option.bind_eq_some_iff]at h
 obtain⟨e,he,size,hs,b,hb,l,hl,c,hc,z,hz,h⟩:=h
 split at h
 ·rename_i hcond
  cases h
  obtain⟨ts,g1,g2,g3⟩:=a1e hw (rep z.cells c.toNat)
  refine⟨ts,g1 M (Sub.refl M),g2,g3,fun H hsub=> ?_⟩
  unfold I6
  simp only[Option.bind_eq_bind,he,hs,hb,hl,hc,hz,Option.bind_some]
  rw[if_pos hcond,hsub.next,g1 H hsub]
 ·cases h
end
end
section
section
variable{E:g8}{P:Program}{M:AHeap}{T:List AV}{o:Oper}
theorem Q1(hw:Wf M){v:AV}(h:∀H,Sub M H→V8 P E T H o=some (.val v H)):b7u P E T o M (.val v M):=
 ⟨[],rfl,O5.nil _,hw,h⟩
theorem c3S{f:FuncId}{args:List AV}{r:W7}(h:J7 P M f args=some r):r= .call f args M∧∀H,J7 P H f args=some (.call f args H):=by
 unfold J7 at h
 split at h
 ·rename_i hb
  cases h
  exact⟨rfl,fun H=>by unfold J7;rw[if_pos hb]⟩
 ·cases h
theorem a8L{f:FuncId}{args:List AV}{r:W7}(h:J7 P M f args=some r)(ho:∀H,Sub M H→V8 P E T H o=J7 P H f args):b7u P E T o M r:=by
 obtain⟨rfl,h2⟩:=c3S h
 exact⟨rfl,fun H hs=>(ho H hs).trans (h2 H)⟩
theorem c5M(hw:Wf M){c:Call}(hop:o.op= .call c){r:W7}(h:Q8 P E M c (i4 T)=some r):b7u P E T o M r:=by
 have ho:∀H,V8 P E T H o=Q8 P E H c (i4 T):=fun H=>by unfold V8;simp only[hop]
 unfold Q8 at h
 simp only at h
 split at h
 ·rename_i f hc
  split at h
  ·rename_i g first captured hf
   exact a8L h fun H _=>by rw[ho];unfold Q8;simp only[hc,hf]
  ·rename_i name first captured hf
   split at h
   ·rename_i t v rest _ hl
    simp only[Option.bind_eq_some_iff]at h
    obtain⟨⟨g,x⟩,hm,h⟩:=h
    refine a8L h fun H hs=> ?_
    rw[ho];unfold Q8;simp only[hc,hf,hl,b3I hs hm,Option.bind_some]
   ·cases h
  ·rename_i t path g pointer first captured hf
   split at h
   ·rename_i x rest _ hp hl hu
    split at h
    ·rename_i hptr
     refine a8L h fun H hs=> ?_
     rw[ho];unfold Q8;simp only[hc,hf,hl,hp,hu,hptr,if_true]
    ·cases h
   ·cases h
  ·cases h
 ·rename_i recv name hc
  split at h
  ·rename_i t v hf
   simp only[Option.bind_eq_some_iff]at h
   obtain⟨⟨g,x⟩,hm,h⟩:=h
   refine a8L h fun H hs=> ?_
   rw[ho];unfold Q8;simp only[hc,hf,b3I hs hm,Option.bind_some]
  ·cases h
 ·rename_i b hc
  split at h
  ·rename_i s x sT xT h1 h2
   simp only[Option.map_eq_some_iff]at h
   obtain⟨⟨a,M'⟩,ha,rfl⟩:=h
   obtain⟨ts,g1,g2,g3,g4⟩:=c1y hw ha
   exact⟨ts,g1,g2,g3,fun H hs=>by rw[ho];unfold Q8;simp only[hc,h1,h2,g4 H hs,Option.map_some]⟩
  ·rename_i x t h1 h2
   split at h
   ·rename_i n hn
    cases h
    exact Q1 hw fun H hs=>by rw[ho];unfold Q8;simp only[hc,h1,h2,hn]
   ·rename_i hn
    simp only[Option.map_eq_some_iff]at h
    obtain⟨n,hm,rfl⟩:=h
    exact Q1 hw fun H hs=>by rw[ho];unfold Q8;simp only[hc,h1,h2,hn,c1O hs hm,Option.map_some]
  ·rename_i x t h1 h2
   simp only[Option.map_eq_some_iff]at h
   obtain⟨n,hm,rfl⟩:=h
   exact Q1 hw fun H hs=>by rw[ho];unfold Q8;simp only[hc,h1,h2,hm,Option.map_some]
  ·rename_i d x dT _ h1 h2
   simp only[Option.map_eq_some_iff]at h
   obtain⟨⟨a,M'⟩,ha,rfl⟩:=h
   obtain⟨ts,g1,g2,g3,g4⟩:=c5T hw ha
   exact⟨ts,g1,g2,g3,fun H hs=>by rw[ho];unfold Q8;simp only[hc,h1,h2,g4 H hs,Option.map_some]⟩
  ·simp only[Option.map_eq_some_iff]at h
   obtain⟨n,hm,rfl⟩:=h
   exact Q1 hw fun H hs=>by rw[ho];unfold Q8;simp only[hc,hm,Option.map_some]
  ·simp only[Option.map_eq_some_iff]at h
   obtain⟨n,hm,rfl⟩:=h
   exact Q1 hw fun H hs=>by rw[ho];unfold Q8;simp only[hc,hm,Option.map_some]
  ·cases h
theorem b9M(f:AHeap→Option (AV×AHeap)){r:W7}(ho:∀H,V8 P E T H o=(f H).map fun x=> .val x.1 x.2)(h:(f M).map (fun x=>W7.val x.1 x.2)=some r)
  (ht:∀a M',f M=some (a,M')→∃ts,M'=aps ts M∧O5 M ts∧Wf M'∧∀H,Sub M H→f H=some (a,aps ts H)):b7u P E T o M r:=by
 simp only[Option.map_eq_some_iff]at h
 obtain⟨⟨a,M'⟩,ha,rfl⟩:=h
 obtain⟨ts,g1,g2,g3,g4⟩:=ht a M' ha
 exact⟨ts,g1,g2,g3,fun H hs=>by rw[ho,g4 H hs];rfl⟩
theorem c4s(f:AHeap→Option AHeap){r:W7}(ho:∀H,V8 P E T H o=(f H).map fun x=> .val s8 x)(h:(f M).map (fun x=>W7.val s8 x)=some r)
  (ht:∀M',f M=some M'→∃ts,M'=aps ts M∧O5 M ts∧Wf M'∧∀H,Sub M H→f H=some (aps ts H)):b7u P E T o M r:=by
 simp only[Option.map_eq_some_iff]at h
 obtain⟨M',ha,rfl⟩:=h
 obtain⟨ts,g1,g2,g3,g4⟩:=ht M' ha
 exact⟨ts,g1,g2,g3,fun H hs=>by rw[ho,g4 H hs];rfl⟩
theorem a7d(hw:Wf M)(f:AHeap→Option AV){r:W7}(ho:∀H,V8 P E T H o=(f H).map fun x=> .val x H)(h:(f M).map (fun x=>W7.val x M)=some r)
  (ht:∀a,f M=some a→∀H,Sub M H→f H=some a):b7u P E T o M r:=by
 simp only[Option.map_eq_some_iff]at h
 obtain⟨a,ha,rfl⟩:=h
 exact Q1 hw fun H hs=>by rw[ho,ht a ha H hs];rfl
theorem c4P(hw:Wf M){r:W7}(h:V8 P E T M o=some r):b7u P E T o M r:=by
 unfold V8 at h
 simp only at h
 split at h
 case h_1 x hop=>
  cases h;exact Q1 hw fun H hs=>by unfold V8;simp only[hop]
 case h_2 x hop=>
  cases h;exact Q1 hw fun H hs=>by unfold V8;simp only[hop]
 case h_3 c a b hop=>
  split at h
  ·rename_i t ht
   cases h;exact Q1 hw fun H hs=>by unfold V8;simp only[hop,ht]
  ·cases h
 case h_4 e hop=>
  split at h
  ·rename_i z hz
   cases h
   obtain⟨ts,g1,g2,g3⟩:=a1e hw z.cells
   exact⟨ts,g1 M (Sub.refl M),g2,g3,fun H hs=>by unfold V8;simp only[hop,hz,hs.next,g1 H hs]⟩
  ·cases h
 case h_5 t x hop=>
  cases h
  obtain⟨ts,g1,g2,g3⟩:=a1e hw (i4 T x).cells
  exact⟨ts,g1 M (Sub.refl M),g2,g3,fun H hs=>by unfold V8;simp only[hop,hs.next,g1 H hs]⟩
 case h_6 t parts hop=>
  exact a7d hw (fun H=>a7Y P t (parts.toList.map fun(p:Nat×Operand)=>(p.1,i4 T p.2))) (fun H=>by unfold V8;simp only[hop]) h fun a e H hs=>e
 case h_7 t len parts hop=>
  exact b9M (fun H=>I2 P H t len (parts.toList.map fun(p:Nat×Operand)=>(p.1,i4 T p.2))) (fun H=>by unfold V8;simp only[hop]) h fun a M' e=>b4w hw e
 case h_8 t a hop=>
  split at h
  ·rename_i o1 i ha
   exact a7d hw (fun H=>H4 P E H t o1 i) (fun H=>by unfold V8;simp only[hop,ha]) h fun a e H hs=>b1W hs e
  ·cases h
 case h_9 t a x hop=>
  split at h
  ·rename_i o1 i ha
   split at h
   ·rename_i hsz
    exact c4s (fun H=>z8 H o1 i (i4 T x).cells) (fun H=>by unfold V8;simp only[hop,ha,hsz,if_true]) h fun M' e=>a7E hw e
   ·cases h
  ·cases h
 case h_10 x hop=>
  split at h
  all_goals first|(cases h;done)|skip
  rename_i g1 g2 g3 g4 g5
  cases h
  refine Q1 hw fun H hs=> ?_
  unfold V8;simp only[hop]
 case h_11 op t x y _w hop=>
  split at h
  ·rename_i hg
   exact a7d hw (fun H=>a9Y P op t (i4 T x) (i4 T y)) (fun H=>by unfold V8;simp only[hop,hg,if_true]) h fun a e H hs=>e
  ·cases h
 case h_12 op _t x hop=>
  exact a7d hw (fun H=>unA op (i4 T x)) (fun H=>by unfold V8;simp only[hop]) h fun a e H hs=>e
 case h_13 src dst x hop=>
  exact b9M (fun H=>J3 P E H src dst (i4 T x)) (fun H=>by unfold V8;simp only[hop]) h fun a M' e=>c5p hw e
 case h_14 t x hop=>
  split at h
  ·cases h
  ·rename_i u hne hu
   cases h;exact Q1 hw fun H hs=>by unfold V8;simp only[hop,hu]
  ·cases h
 case h_15 fn first captured hop=>
  cases h;exact Q1 hw fun H hs=>by unfold V8;simp only[hop]
 case h_16 _t r hop=>
  split at h
  ·cases h
   obtain⟨ts,g1,g2,g3⟩:=a8T hw (o:= .map [] 0) (by simp[s9])
   exact⟨ts,g1 M (Sub.refl M),g2,g3,fun H hs=>by unfold V8;simp only[hop,hs.next,g1 H hs]⟩
  ·cases h
 case h_17 t l c hop=>
  exact b9M (fun H=>I6 P H t (i4 T l) (i4 T c)) (fun H=>by unfold V8;simp only[hop]) h fun a M' e=>b6p hw e
 case h_18 t x lo hi mx hop=>
  exact a7d hw (fun H=>a0G P H t (i4 T x) (lo.map (i4 T)) (hi.map (i4 T)) (mx.map (i4 T))) (fun H=>by unfold V8;simp only[hop]) h fun a e H hs=>c3P hs e
 case h_19 s x f hop=>
  exact a7d hw (fun H=>a3E P s (i4 T x) f) (fun H=>by unfold V8;simp only[hop]) h fun a e H hs=>e
 case h_20 s x f hop=>
  exact a7d hw (fun H=>b0b P s (i4 T x) f) (fun H=>by unfold V8;simp only[hop]) h fun a e H hs=>e
 case h_21 t x ix hop=>
  exact a7d hw (fun H=>a0o P t (i4 T x) (i4 T ix)) (fun H=>by unfold V8;simp only[hop]) h fun a e H hs=>e
 case h_22 t x ix hop=>
  exact a7d hw (fun H=>a7n P t (i4 T x) (i4 T ix)) (fun H=>by unfold V8;simp only[hop]) h fun a e H hs=>e
 case h_23 t x ix ok hop=>
  exact a7d hw (fun H=>a1g P H t (i4 T x) (i4 T ix) ok) (fun H=>by unfold V8;simp only[hop]) h fun a e H hs=>c1V hs e
 case h_24 t m k x hop=>
  exact c4s (fun H=>P5 P H t (i4 T m) (i4 T k) (i4 T x)) (fun H=>by unfold V8;simp only[hop]) h fun M' e=>b3W hw e
 case h_25 t m k x hop=>
  exact c4s (fun H=>P5 P H t (i4 T m) (i4 T k) (i4 T x)) (fun H=>by unfold V8;simp only[hop]) h fun M' e=>b3W hw e
 case h_26 t m k hop=>
  exact b9M (fun H=>a2v P H t (i4 T m) (i4 T k)) (fun H=>by unfold V8;simp only[hop]) h fun a M' e=>c3V hw e
 case h_27 _t m s x hop=>
  exact c4s (fun H=>D1 H (i4 T m) (i4 T s) (i4 T x)) (fun H=>by unfold V8;simp only[hop]) h fun M' e=>b4H hw e
 case h_28 x _t asserted ok hop=>
  exact a7d hw (fun H=>a6k P (i4 T x) asserted ok) (fun H=>by unfold V8;simp only[hop]) h fun a e H hs=>e
 case h_29 t ix hop=>
  split at h
  ·rename_i vs hv
   exact a7d hw (fun H=>vs[ix]?) (fun H=>by unfold V8;simp only[hop,hv]) h fun a e H hs=>e
  ·cases h
 case h_30 c hop=>exact c5M hw hop h
 case h_31=>cases h
end
end
section
section
variable{E:g8}{P:Program}
theorem c2R{T T':List AV}{H:AHeap}(c:Call)(h:∀x∈c.operands,i4 T x=i4 T' x):Q8 P E H c (i4 T)=Q8 P E H c (i4 T'):=by
 have hargs:c.args.toList.map (i4 T)=c.args.toList.map (i4 T'):=List.map_congr_left fun x hx=>h x (by
  have:x∈c.args:=by simpa using hx
  simp[Call.operands,this])
 unfold Q8
 simp only[hargs]
 cases hc:c.callee with
 |value f=>have hf:i4 T f=i4 T' f:=h f (by simp[Call.operands,hc]);simp only[hf]
 |invoke r m=>have hr:i4 T r=i4 T' r:=h r (by simp[Call.operands,hc]);simp only[hr]
 |builtin b=>rfl
theorem c5G{T T':List AV}{H:AHeap}(o:Oper)(h:∀x∈o.op.operands,i4 T x=i4 T' x):V8 P E T H o=V8 P E T' H o:=by
 obtain⟨dst,op,type,pos,after,guard⟩:=o
 have pairs:∀ps:Array (Nat×Operand),(∀x∈ps.map (·.2),i4 T x=i4 T' x)→
   (ps.toList.map fun(p:Nat×Operand)=>(p.1,i4 T p.2))=(ps.toList.map fun(p:Nat×Operand)=>(p.1,i4 T' p.2)):=fun ps hp=>
  List.map_congr_left fun p hm=>by
   obtain⟨i,x⟩:=p
   simp only[hp x (Array.mem_map.2 ⟨(i,x),by simpa using hm,rfl⟩)]
 cases op<;>simp only[Op.operands]at h<;>simp only[V8]
 case build t ps=>rw[pairs ps fun x hx=>h x (by simpa using hx)]
 case buildSlice t n ps=>rw[pairs ps fun x hx=>h x (by simpa using hx)]
 case makeFunc fn first captured=>
  rw[List.map_congr_left (l:=first.toList) fun x hx=>h x (by have:x∈first:=by simpa using hx
                                                             simp[this]),List.map_congr_left (l:=captured.toList) fun x hx=>h x (by have:x∈captured:=by simpa using hx
                                                                                                                                    simp[this])]
 case call c=>rw[c2R c h]
 case slice t x lo hi mx=>cases lo<;>cases hi<;>cases mx<;>simp_all
 all_goals (first|rfl|(simp_all;done))
def b6o(ops:Array Oper)(o:Oper)(T T':List AV):Prop:=∀t∈o.looksAt ops,T[t]? =T'[t]?
theorem b6o.eval{ops:Array Oper}{o:Oper}{T T':List AV}(h:b6o ops o T T'):∀x∈o.op.operands,i4 T x=i4 T' x:=by
 intro x hx
 cases x with
 |tmp t=>
  have:=h t (List.mem_append_left _ (List.mem_filterMap.2 ⟨.tmp t,by simpa using hx,rfl⟩))
  simp only[i4,List.getD_eq_getElem?_getD,this]
 |_=>rfl
theorem b6o.wanted{ops:Array Oper}{o:Oper}{T T':List AV}(h:b6o ops o T T'):U8 ops T o=U8 ops T' o:=by
 unfold U8
 cases hg:o.guard with
 |none=>rfl
 |some gw=>
  obtain⟨g,want⟩:=gw
  simp only
  cases ht:(ops[g]?).bind (·.dst) with
  |none=>rfl
  |some t=>
   have:=h t (by simp[Oper.looksAt,hg,ht])
   simp only[this]
variable{call:a9K}
def c2f(H:AHeap)(a b:Nat):Prop:=∀k,a≤k→k<b→H.get k=none
def c4g(call:a9K):Prop:=∀f args M v M',Wf M→call f args M=some (v,M')→
 ∃ts,M'=aps ts M∧O5 M ts∧Wf M'∧∀H,Sub M H→c2f H M.next M'.next→call f args H=some (v,aps ts H)
theorem c9P(t:Tr)(H:AHeap)(k:Nat):(t.ap H).get k=match t with
  | .put j o _=>if j=k then o else H.get k
  | .next _=>H.get k:=by
 cases t with
 |put j o lg=>simp only[Tr.ap,AHeap.get,Trie.get_set]
 |next n=>rfl
theorem a9G:∀(ts:List Tr) (H:AHeap) (k:Nat),(∀o lg,Tr.put k o lg ∉ ts)→(aps ts H).get k=H.get k
 | [],H,k,_=>rfl
 |t::ts,H,k,h=>by
  rw[aps,a9G ts _ k fun o lg hm=>h o lg (List.mem_cons_of_mem _ hm),c9P]
  cases t with
  |put j o lg=>
   simp only
   split
   ·rename_i e;subst e;exact(h o lg List.mem_cons_self).elim
   ·rfl
  |next n=>rfl
theorem b4i:∀(ts:List Tr) {A B:AHeap},A.next=B.next→(aps ts A).next=(aps ts B).next
 | [],_,_,h=>h
 |t::ts,A,B,h=>b4i ts (by cases t<;>first|exact h|rfl)
theorem c4A:∀(ts:List Tr) (A:AHeap) (k:Nat),k∈(aps ts A).log↔k∈A.log∨∃o,Tr.put k o true∈ts
 | [],A,k=>by simp[aps]
 |t::ts,A,k=>by
  rw[aps,c4A ts]
  cases t with
  |put j o lg=>
   cases lg with
   |true=>
    simp only[Tr.ap,if_true,List.mem_cons]
    constructor
    ·rintro((rfl|h)|⟨x,h⟩)
     ·exact .inr ⟨o, .inl rfl⟩
     ·exact .inl h
     ·exact .inr ⟨x, .inr h⟩
    ·rintro(h|⟨x,h|h⟩)
     ·exact .inl (.inr h)
     ·cases h;exact .inl (.inl rfl)
     ·exact .inr ⟨x,h⟩
   |false=>simp[Tr.ap]
  |next n=>simp[Tr.ap]
theorem c2f.sub{M H:AHeap}(_:Wf M){a b c d:Nat}(h:c2f H a b)(h1:a≤c)(h2:d≤b):c2f H c d:=fun k x y=>h k (by omega) (by omega)
theorem O5.free{M H:AHeap}{ts:List Tr}(ht:O5 M ts){a b:Nat}(h1:(aps ts M).next≤a)(h:c2f H a b):c2f (aps ts H) a b:=by
 intro k hk1 hk2
 rw[a9G ts H k fun o lg hm=> ?_,h k hk1 hk2]
 have:=(ht.2 k o lg hm).2
 omega
theorem c6a(hc:c4g call){ops:Array Oper}{T:List AV}{o:Oper}{M M':AHeap}{v:AV}(hw:Wf M)(h:b0V P E call ops T M o=some (v,M')):
  ∃ts,M'=aps ts M∧O5 M ts∧Wf M'∧∀H,Sub M H→c2f H M.next M'.next→b0V P E call ops T H o=some (v,aps ts H):=by
 unfold b0V at h
 split at h
 ·rename_i hwt
  split at h
  ·rename_i v1 H1 h1
   cases h
   obtain⟨ts,g1,g2,g3,g4⟩:=c4P hw h1
   exact⟨ts,g1,g2,g3,fun H hs _=>by unfold b0V;simp only[hwt,g4 H hs]⟩
  ·rename_i f args H1 h1
   obtain⟨rfl,g4⟩:=c4P hw h1
   obtain⟨ts,k1,k2,k3,k4⟩:=hc _ _ _ _ _ hw h
   exact⟨ts,k1,k2,k3,fun H hs hf=>by unfold b0V;simp only[hwt,g4 H hs];exact k4 H hs hf⟩
  ·cases h
 ·rename_i hwt
  cases h
  exact⟨[],rfl,O5.nil _,hw,fun H hs _=>by unfold b0V;simp only[hwt];rfl⟩
 ·cases h
end
end
section
mutual
theorem b5J:∀(a b:AV),a0U a b=true→a=b
 | .bool a,b,h=>by cases b<;>simp_all [a0U]
 | .int j a,b,h=>by cases b<;>simp_all [a0U]
 | .str a,b,h=>by cases b<;>simp_all [a0U]
 | .nilPtr,b,h=>by cases b<;>simp_all [a0U]
 | .ptr o i,b,h=>by cases b<;>simp_all [a0U]
 | .nilSlc,b,h=>by cases b<;>simp_all [a0U]
 | .slc ..,b,h=>by cases b<;>simp_all [a0U]
 | .nilMap,b,h=>by cases b<;>simp_all [a0U]
 | .map k,b,h=>by cases b<;>simp_all [a0U]
 | .fn f x y,b,h=>by
  cases b<;>simp only[a0U,Bool.and_eq_true,decide_eq_true_eq]at h<;>try (cases h;done)
  obtain⟨⟨rfl,h1⟩,h2⟩:=h
  rw[a5J x _ h1,a5J y _ h2]
 | .nilFn,b,h=>by cases b<;>simp_all [a0U]
 | .ifc t v,b,h=>by
  cases b<;>simp only[a0U,Bool.and_eq_true,beq_iff_eq]at h<;>try (cases h;done)
  obtain⟨rfl,h2⟩:=h
  rw[b5J v _ h2]
 | .nilIfc,b,h=>by cases b<;>simp_all [a0U]
 | .agg x,b,h=>by
  cases b<;>simp only[a0U]at h<;>try (cases h;done)
  rw[a5J x _ h]
 | .tup x,b,h=>by
  cases b<;>simp only[a0U]at h<;>try (cases h;done)
  rw[a5J x _ h]
 | .opq v,b,h=>by cases b<;>simp_all [a0U]
theorem a5J:∀(a b:List AV),b1l a b=true→a=b
 | [],b,h=>by cases b<;>simp_all [b1l]
 |x::l,b,h=>by
  cases b<;>simp only[b1l,Bool.and_eq_true]at h<;>try (cases h;done)
  rw[b5J x _ h.1,a5J l _ h.2]
end
theorem c7h{a b:Option G3}(h:c6Z a b=true):a=b:=by
 unfold c6Z at h
 split at h
 ·rfl
 ·simp only[Bool.and_eq_true,beq_iff_eq]at h
  obtain⟨⟨h1,rfl⟩,rfl⟩:=h
  rw[a5J _ _ h1]
 ·simp only[beq_iff_eq]at h;rw[h]
 ·cases h
theorem b8H:∀ {a b:List (Nat×Option G3)},b6H a b=true→a=b
 | [],b,h=>by cases b<;>simp_all [b6H]
 |x::l,b,h=>by
  cases b<;>simp only[b6H,Bool.and_eq_true,beq_iff_eq]at h<;>try (cases h;done)
  obtain⟨⟨h1,h2⟩,h3⟩:=h
  rw[b8H h3,show x=_ from Prod.ext h1 (c7h h2)]
theorem a2V{p:Nat→o9→Bool}:∀ {ds:List o9} {j:Nat},c3Y p j ds=true→∀(i:Nat) (d:o9),ds[i]? =some d→p (j+i) d=true
 | [],j,_,i,d,e=>by simp at e
 |x::ds,j,h,i,d,e=>by
  simp only[c3Y,Bool.and_eq_true]at h
  cases i with
  |zero=>simp at e;subst e;exact h.1
  |succ i=>
   have:=a2V h.2 i d (by simpa using e)
   rwa [show j+(i+1)=j+1+i by omega]
theorem c2z{lo hi:Nat}{H:AHeap}:∀x∈b5M lo hi H,x.2=H.get x.1:=by
 intro x hx
 simp only[b5M,List.mem_map]at hx
 obtain⟨k,_,rfl⟩:=hx
 rfl
theorem c1T{lo hi:Nat}{H:AHeap}{k:Nat}:k∈(b5M lo hi H).map (·.1)↔(k∈H.log∧k<lo)∨(lo≤k∧k<hi∧(H.get k).isSome=true):=by
 simp only[b5M,List.map_map,Function.comp_def,List.map_id',List.mem_append,List.mem_filter,decide_eq_true_eq,List.mem_range'_1]
 constructor
 ·rintro(h|⟨⟨h1,h2⟩,h3⟩)
  ·exact .inl h
  ·exact .inr ⟨h1,by omega,h3⟩
 ·rintro(h|⟨h1,h2,h3⟩)
  ·exact .inl h
  ·exact .inr ⟨⟨h1,by omega⟩,h3⟩
theorem c1o(H:AHeap)(lg:List Nat)(k j:Nat)(x:Option G3):({ H with objs:=H.objs.set k x,log:=lg }:AHeap).get j=if k=j then x else H.get j:=by
 simp only[AHeap.get,Trie.get_set]
theorem c5w{lim:Nat}{x:Option G3}{o:G3}(h:c6D lim x=some o):x=some o∧∀p∈s9 o,p<lim:=by
 cases x with
 |none=>cases h
 |some y=>
  simp only[c6D]at h
  split at h
  ·rename_i hp
   cases h
   exact⟨rfl,fun p hm=>by simpa using List.all_eq_true.1 hp p hm⟩
  ·cases h
theorem b3Z{lim:Nat}:∀(kv:List (Nat×Option G3)) {A:AHeap} {k:Nat},lim≤k→(b8L lim kv A).get k=A.get k
 | [],A,k,_=>rfl
 |x::l,A,k,h=>by
  rw[b8L,b3Z l h]
  split
  ·rw[show({ A with objs:=A.objs.set x.1 (c6D lim x.2) }:AHeap).get k=_ from c1o A A.log x.1 k _,if_neg (by omega)]
  ·rfl
theorem b3G{lim:Nat}{p:Nat→o9→Bool}:∀(ds:List o9) (j:Nat) {A:AHeap} {k:Nat},lim≤k→(a3s lim p j ds A).get k=A.get k
 | [],_,A,k,_=>rfl
 |d::ds,j,A,k,h=>by
  rw[a3s,b3G ds _ h]
  split
  ·exact b3Z _ h
  ·rfl
theorem b8O{lim:Nat}:∀(kv:List (Nat×Option G3)) {A:AHeap},(∀k o,A.get k=some o→∀p∈s9 o,p<lim)→∀k o,(b8L lim kv A).get k=some o→∀p∈s9 o,p<lim
 | [],A,h=>h
 |x::l,A,h=>by
  simp only[b8L]
  refine b8O l ?_
  split
  ·intro k o hk
   rw[show({ A with objs:=A.objs.set x.1 (c6D lim x.2) }:AHeap).get k=_ from c1o A A.log x.1 k _]at hk
   split at hk
   ·exact(c5w hk).2
   ·exact h k o hk
  ·exact h
theorem b8V{lim:Nat}{p:Nat→o9→Bool}:∀(ds:List o9) (j:Nat) {A:AHeap},(∀k o,A.get k=some o→∀p∈s9 o,p<lim)→∀k o,(a3s lim p j ds A).get k=some o→∀p∈s9 o,p<lim
 | [],_,A,h=>h
 |d::ds,j,A,h=>by
  simp only[a3s]
  refine b8V ds (j+1) ?_
  split
  ·exact b8O _ h
  ·exact h
theorem c8t{M:AHeap}(hw:Wf M){lim:Nat}(hl:M.next≤lim)(p:Nat→o9→Bool)(j:Nat)(ds:List o9):Wf (atN (a3s lim p j ds M) lim):=
 ⟨fun k hk=>by
  show(a3s lim p j ds M).get k=none
  have hk':lim≤k:=hk
  rw[b3G ds j hk']
  exact hw.1 k (Nat.le_trans hl hk),
  fun k o hk=>b8V ds j (fun k o e q hq=>Nat.lt_of_lt_of_le (hw.2 k o e q hq) hl) k o hk⟩
structure Ok (d:o9):Prop where
 le:d.lo≤d.hi
 val:∃g:Nat→Option G3,∀x∈d.kv,x.2=g x.1
 key:∀k∈d.kv.map (·.1),k<d.hi
 new:d.wr=false→∀k∈d.kv.map (·.1),d.lo≤k
 pre:∀k o,(k,some o)∈d.kv→∀p∈s9 o,p<d.hi
def Ch:Nat→List o9→Nat→Prop
 |a,[],n=>a=n
 |a,d::ds,n=>d.lo=a∧Ok d∧Ch d.hi ds n
theorem Ch.le:∀ {ds:List o9} {a n:Nat},Ch a ds n→a≤n
 | [],a,n,h=>by simp only[Ch]at h;omega
 |d::ds,a,n,h=>by
  obtain⟨h1,h2,h3⟩:=h
  have:=h3.le;have:=h2.le;omega
theorem Ch.snoc:∀ {ds:List o9} {a:Nat} {d:o9},Ch a ds d.lo→Ok d→Ch a (ds++[d]) d.hi
 | [],a,d,h,hd=>by simp only[Ch]at h;exact⟨h.symm,hd,rfl⟩
 |e::ds,a,d,h,hd=>⟨h.1,h.2.1,Ch.snoc h.2.2 hd⟩
theorem Ch.at:∀ {ds:List o9} {a n:Nat},Ch a ds n→∀(i:Nat) (d:o9),ds[i]? =some d→Ok d∧a≤d.lo∧d.hi≤n
 | [],a,n,h,i,d,e=>by simp at e
 |x::ds,a,n,h,i,d,e=>by
  obtain⟨h1,h2,h3⟩:=h
  cases i with
  |zero=>simp at e;subst e;exact⟨h2,by omega,h3.le⟩
  |succ i=>
   obtain⟨g1,g2,g3⟩:=h3.at i d (by simpa using e)
   exact⟨g1,by have:=h2.le;omega,g3⟩
theorem Ch.lt:∀ {ds:List o9} {a n:Nat},Ch a ds n→∀(i j:Nat) (d e:o9),i<j→ds[i]? =some d→ds[j]? =some e→d.hi≤e.lo
 | [],a,n,h,i,j,d,e,_,hd,_=>by simp at hd
 |x::ds,a,n,h,i,j,d,e,hij,hd,he=>by
  obtain⟨h1,h2,h3⟩:=h
  cases j with
  |zero=>omega
  |succ j=>
   cases i with
   |zero=>simp at hd;subst hd;exact(h3.at j e (by simpa using he)).2.1
   |succ i=>exact h3.lt i j d e (by omega) (by simpa using hd) (by simpa using he)
end
section
def A1(D:Nat→Bool):Nat→List o9→List AV→List AV
 |_,[],T=>T
 |j,d::ds,T=>A1 D (j+1) ds (if D j then a0X T d.o.dst d.v else T)
theorem a4k{D D':Nat→Bool}:∀(ds:List o9) (j:Nat) (T:List AV),(∀m,j≤m→m<j+ds.length→D m=D' m)→A1 D j ds T=A1 D' j ds T
 | [],_,_,_=>rfl
 |d::ds,j,H,h=>by
  simp only[A1]
  rw[h j (Nat.le_refl _) (by simp),a4k ds (j+1) _ fun m h1 h2=>h m (by omega) (by simp only[List.length_cons];omega)]
theorem c5Y{a b:Option Tmp}{v u:AV}(T:List AV)(h:∀x,a=some x→b≠some x):a0X (a0X T a v) b u=a0X (a0X T b u) a v:=by
 cases a with
 |none=>rfl
 |some x=>
  cases b with
  |none=>rfl
  |some y=>
   simp only[a0X]
   exact List.set_comm _ _ (fun e=>h x rfl (by rw[e]))
theorem b9a{D:Nat→Bool}{dst:Option Tmp}{v:AV}:∀(ds:List o9) (j:Nat) (T:List AV),(∀(i:Nat) (d:o9),ds[i]? =some d→D (j+i)=true→∀x,dst=some x→d.o.dst≠some x)→
  A1 D j ds (a0X T dst v)=a0X (A1 D j ds T) dst v
 | [],_,_,_=>rfl
 |d::ds,j,T,h=>by
  simp only[A1]
  rw[←b9a ds (j+1) _ fun i e he hD=>h (i+1) e (by simpa using he) (by rwa [show j+(i+1)=j+1+i by omega])]
  split
  ·rename_i hj
   rw[c5Y T (h 0 d rfl (by simpa using hj))]
  ·rfl
theorem b2e{D:Nat→Bool}{d:o9}:∀(ds:List o9) (j i:Nat) (T:List AV),ds[i]? =some d→D (j+i)=false→
  (∀(m:Nat) (e:o9),i<m→ds[m]? =some e→D (j+m)=true→∀x,d.o.dst=some x→e.o.dst≠some x)→
  A1 (fun x=>x==j+i||D x) j ds T=a0X (A1 D j ds T) d.o.dst d.v
 | [],_,_,_,h,_,_=>by simp at h
 |x::ds,j,0,T,h,hD,hdis=>by
  simp at h
  subst h
  have hD':D j=false:=hD
  simp only[A1,Nat.add_zero,beq_self_eq_true,Bool.true_or,if_true,hD',Bool.false_eq_true,if_false]
  rw[a4k (D:=fun x=>x==j||D x) (D':=D) ds (j+1) _ (fun m h1 h2=>by
   have:(m==j)=false:=by simp;omega
   simp only[this,Bool.false_or])]
  exact b9a ds (j+1) _ (fun i e he hDi=>hdis (i+1) e (by omega) (by simpa using he) (by rwa [show j+(i+1)=j+1+i by omega]))
 |x::ds,j,i+1,T,h,hD,hdis=>by
  simp only[A1]
  have e0:(j==j+(i+1)||D j)=D j:=by
   have:(j==j+(i+1))=false:=by simp
   rw[this,Bool.false_or]
  simp only[e0]
  rw[show j+(i+1)=j+1+i by omega]
  exact b2e ds (j+1) i _ (by simpa using h) (by rwa [show j+1+i=j+(i+1) by omega])
   (fun m e hm he hDm=>hdis (m+1) e (by omega) (by simpa using he) (by rwa [show j+(m+1)=j+1+m by omega]))
theorem b7I{T U:List AV}{t:Nat}(h:T[t]? =U[t]?)(dst:Option Tmp)(v:AV):(a0X T dst v)[t]? =(a0X U dst v)[t]? :=by
 cases dst with
 |none=>exact h
 |some d=>
  simp only[a0X,List.getElem?_set]
  by_cases e:d=t
  ·subst e
   have:d<T.length↔d<U.length:=by
    constructor
    ·intro e;refine Nat.lt_of_not_le fun e'=> ?_
     rw[List.getElem?_eq_getElem e,List.getElem?_eq_none e']at h;cases h
    ·intro e;refine Nat.lt_of_not_le fun e'=> ?_
     rw[List.getElem?_eq_getElem e,List.getElem?_eq_none e']at h;cases h
   simp only[if_true,this]
  ·simp only[e,if_false,h]
theorem a5q{T:List AV}{t:Nat}{dst:Option Tmp}(v:AV)(h:dst≠some t):(a0X T dst v)[t]? =T[t]? :=by
 cases dst with
 |none=>rfl
 |some d=>simp only[a0X];rw[List.getElem?_set_ne (fun e=>h (by rw[e]))]
theorem a7D{D D':Nat→Bool}{t:Nat}:∀(ds:List o9) (j:Nat) (A B:List AV),(∀(i:Nat) (d:o9),ds[i]? =some d→D (j+i)≠D' (j+i)→d.o.dst≠some t)→A[t]? =B[t]? →
  (A1 D j ds A)[t]? =(A1 D' j ds B)[t]?
 | [],_,_,_,_,h=>h
 |d::ds,j,A,B,hd,h=>by
  simp only[A1]
  refine a7D ds (j+1) _ _ (fun i e he hne=>hd (i+1) e (by simpa using he) (by rwa [show j+(i+1)=j+1+i by omega])) ?_
  have h0:=hd 0 d rfl
  simp only[Nat.add_zero]at h0
  cases h1:D j<;>cases h2:D' j
  ·exact h
  ·simp only[Bool.false_eq_true,if_false,if_true]
   rw[a5q _ (h0 (by rw[h1,h2];decide)),h]
  ·simp only[Bool.false_eq_true,if_false,if_true]
   rw[a5q _ (h0 (by rw[h1,h2];decide)),h]
  ·exact b7I h _ _
theorem a6F{D:Nat→Bool}:∀(ds:List o9) (j:Nat) (T:List AV),(∀m,j≤m→D m=false)→A1 D j ds T=T
 | [],_,_,_=>rfl
 |d::ds,j,T,h=>by
  simp only[A1,h j (Nat.le_refl _),Bool.false_eq_true,if_false]
  exact a6F ds (j+1) T fun m hm=>h m (by omega)
theorem b6Z:∀(ds:List o9) (i j:Nat) (T:List AV),A1 (fun _=>true) j (ds.take i) T=A1 (fun x=>decide (x<j+i)) j ds T
 | [],i,j,T=>by simp[A1]
 |d::ds,0,j,T=>by
  simp only[List.take_zero,A1.eq_1]
  exact(a6F (d::ds) j T fun m hm=>by simp;omega).symm
 |d::ds,i+1,j,T=>by
  have e1:decide (j<j+(i+1))=true:=by simp
  simp only[List.take_succ_cons,A1,if_true,e1]
  rw[b6Z ds i (j+1),show j+1+i=j+(i+1) by omega]
theorem b4e{lim:Nat}{p q:Nat→o9→Bool}:∀(ds:List o9) (j:Nat) (A:AHeap),(∀(i:Nat) (d:o9),ds[i]? =some d→p (j+i) d=q (j+i) d)→a3s lim p j ds A=a3s lim q j ds A
 | [],_,_,_=>rfl
 |d::ds,j,A,h=>by
  simp only[a3s]
  rw[show p j d=q j d from h 0 d rfl]
  exact b4e ds (j+1) _ fun i e he=>by
   have:=h (i+1) e (by simpa using he)
   rwa [show j+(i+1)=j+1+i by omega]at this
end
end Go.Am
end
