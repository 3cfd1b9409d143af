/-
  BlocksCutsSaid: part Pax of its proof.
-/
import Derived.Test.YtdkidgkiplcggaaPaw
import Derived.Test.YtdkidgkiplcggaaRows
import Derived.Test.YtdkidgkiplcggaaPar
import Derived.KernelRfl
import Derived.Test.YtdkidgkiplcggaaPat
import Derived.Sort.Grow
import Derived.Shelf.Sort.Plain
import Derived.Shelf.Slices.In.SortNone
import Derived.Shelf.Slices.CompactI
import Derived.Test.YtdkidgkiplcggaaProg
set_option linter.unusedVariables false
set_option linter.unusedSimpArgs false
set_option maxRecDepth 100000
section
open Go.Proofs Go Go.Am Go.Op
namespace Go.Proofs.Ytdkidgkiplcggaa.d
section
def Own(S0:b5)(d:D)(l:List Int)(S:b5):Prop:=
 (d= .nilSlc∧l=[]∧S=S0)∨∃k acs ex,S0 k=Option.none∧d= .raw k 0 l.length l.length ex 1∧S=S0.set k ⟨1,iC l,acs⟩
theorem Own.le{S0 S:b5}{d:D}{l:List Int}(h:Own S0 d l S):S0.le S:=by
 rcases h with ⟨_,_,rfl⟩|⟨k,acs,ex,h,_,rfl⟩
 ·exact b5.le_refl _
 ·exact b5.le_new h
theorem Own.nil(S:b5):Own S .nilSlc [] S:= .inl ⟨rfl,rfl,rfl⟩
theorem Own.cells{S0 S:b5}{d:D}{l:List Int}(h:Own S0 d l S):s5 d=some [d]:=by rcases h with ⟨rfl,_⟩|⟨_,_,_,_,rfl,_⟩<;>rfl
theorem Own.base{S0 S1 S:b5}{d:D}{l:List Int}(h:Own S1 d l S)(hle:S0.le S1):∃S',S'.le S∧Own S0 d l S':=by
 rcases h with ⟨rfl,rfl,rfl⟩|⟨k,acs,ex,h,rfl,rfl⟩
 ·exact⟨S0,hle, .inl ⟨rfl,rfl,rfl⟩⟩
 ·have hk:S0 k=Option.none:=by
   cases e:S0 k with
   |none=>rfl
   |some o=>rw[hle _ _ e]at h;cases h
  refine⟨S0.set k ⟨1,iC l,acs⟩,fun j o e=> ?_, .inr ⟨k,acs,ex,hk,rfl,rfl⟩⟩
  unfold b5.set at e ⊢
  split at e
  ·rename_i hj;rw[if_pos hj];exact e
  ·rename_i hj;rw[if_neg hj];exact hle _ _ e
theorem Own.upd{S0 S:b5}{d:D}{l:List Int}{k:Nat}{o o':A2}(h:Own S0 d l S)(hk:S0 k=some o'):Own (S0.set k o) d l (S.set k o):=by
 rcases h with ⟨rfl,rfl,rfl⟩|⟨j,acs,ex,h,rfl,rfl⟩
 ·exact .inl ⟨rfl,rfl,rfl⟩
 ·have hne:j≠k:=fun e=>by rw[e,hk]at h;cases h
  refine .inr ⟨j,acs,ex, ?_,rfl,b5.set_comm _ hne _ _⟩
  rw[b5.set_ne _ _ _ hne];exact h
def Two(S0:b5)(c:D)(lc:List Int)(d:D)(ld:List Int)(S:b5):Prop:=∃S1,Own S0 c lc S1∧Own S1 d ld S
theorem Two.base{S0 S1 S:b5}{c d:D}{lc ld:List Int}(h:Two S1 c lc d ld S)(hle:S0.le S1):∃S',S'.le S∧Two S0 c lc d ld S':=by
 obtain⟨S2,h1,h2⟩:=h
 obtain⟨S2',l2,g1⟩:=h1.base hle
 obtain⟨S',l3,g2⟩:=h2.base l2
 exact⟨S',l3,S2',g1,g2⟩
theorem Two.upd{S0 S:b5}{c d:D}{lc ld:List Int}{k:Nat}{o o':A2}(h:Two S0 c lc d ld S)(hk:S0 k=some o'):Two (S0.set k o) c lc d ld (S.set k o):=by
 obtain⟨S2,h1,h2⟩:=h
 exact⟨S2.set k o,h1.upd hk,h2.upd (h1.le _ _ hk)⟩
theorem Two.le{S0 S:b5}{c d:D}{lc ld:List Int}(h:Two S0 c lc d ld S):S0.le S:=by
 obtain⟨S2,h1,h2⟩:=h
 exact b5.le_trans h1.le h2.le
theorem c4Y{S:b5}{l:List Int}{K:D→b5→Prop}(h:∀d S',Own S d l S'→K d S'):C7 S 1 (some (iC l)) l.length K:=
 c8c fun k acs hk=>h _ _ (.inr ⟨k,acs,true,hk,by simp,rfl⟩)
section
variable{E:g8}{w0:j0}
theorem c1b{l:List Int}{v:Int}(hl:l.length<2^60):U2 Try.prog E w0 a0Q [bD l, .int .u8 v] (.bool (l.contains v)):=fun S=>by
 refine a3q ?_
 unfold a0N
 have key:p8 Try.prog E w0 W0 [bD l, .int .u8 v] S fun d S'=>S'=S∧∃n:Int,d= .int .i64 n∧decide (n≥0)=l.contains v:=by
  refine a5w ?_
  unfold a2l
  rw[a2u,oD]
  refine a3Z (I:=fun n x0 x1 x7 x8 S'=>S=S'∧x0=bD l∧x1= .int .u8 v∧x7= .int .i64 (l.length:Int)∧∃i:Nat,x8= .int .i64 (i:Int)∧i+n=l.length∧v ∉ l.take i) ?_ (n:=l.length) ⟨rfl,rfl,rfl,rfl,0,rfl,by omega,by simp⟩
  rintro n _ _ _ _ _ ⟨rfl,rfl,rfl,rfl,i,rfl,hi,hn⟩
  unfold P0
  rw[M7,oD,V7]
  refine⟨fun hlt=> ?_,fun hge=> ?_⟩
  ·have hlt:i<l.length:=by omega
   have ea:l[i]? =some l[i]:=List.getElem?_eq_getElem hlt
   rw[b8B ea,oD,lsE,List.getElem?_cons_zero,oD,a2Z,oD,d0m,V7]
   refine⟨fun e=>b9.here ⟨rfl,i,rfl, ?_⟩,fun e=> ?_⟩
   ·rw[decide_eq_true (by omega)]
    symm
    rw[List.contains_iff_mem,e]
    exact List.getElem_mem _
   ·rw[C4,oD,i6 (by omega) (by omega)]
    refine⟨n - 1,by omega,rfl,rfl,rfl,rfl,i+1,rfl,by omega, ?_⟩
    rw[List.take_add_one,ea,Option.toList_some,List.mem_append,List.mem_singleton]
    exact fun h=>h.elim hn e
  ·rw[List.take_of_length_le (by omega)]at hn
   refine b9.here ⟨rfl, -1,rfl, ?_⟩
   rw[decide_eq_false (by omega)]
   symm
   rw[←Bool.not_eq_true,List.contains_iff_mem]
   exact hn
 refine key.use ?_
 rintro d S' ⟨rfl,n,rfl,h⟩
 rw[c1u,oD,h]
 exact b9.pure
end
end
section
theorem c9j(y:In):(N7 y)[0]? =some (.int .u8 y.op)∧(N7 y)[1]? =some (.int .i64 y.a)∧(N7 y)[2]? =some (.int .i64 y.b)∧(N7 y)[3]? =some (a5e y.arms):=⟨rfl,rfl,rfl,rfl⟩
section
variable{E:g8}{w0:j0}
end
end
section
theorem Own.swap{S0 S1 S:b5}{t u:D}{r q:List Int}(h:Own S0 t r S1)(h':Own S1 u q S):∃S2,Own S0 u q S2∧Own S2 t r S:=by
 rcases h with ⟨rfl,rfl,rfl⟩|⟨k,acs,ex,hk,rfl,rfl⟩
 ·exact⟨S,h', .inl ⟨rfl,rfl,rfl⟩⟩
 ·rcases h' with ⟨rfl,rfl,rfl⟩|⟨l,bcs,ex',hl,rfl,rfl⟩
  ·exact⟨S0, .inl ⟨rfl,rfl,rfl⟩, .inr ⟨k,acs,ex,hk,rfl,rfl⟩⟩
  ·obtain⟨hne,hl0⟩:=b5.fresh hl
   refine⟨S0.set l ⟨1,iC q,bcs⟩, .inr ⟨l,bcs,ex',hl0,rfl,rfl⟩, .inr ⟨k,acs,ex, ?_,rfl, ?_⟩⟩
   ·rw[b5.set_ne _ _ _ (Ne.symm hne)];exact hk
   ·exact b5.set_comm _ (Ne.symm hne) _ _
section
variable{E:g8}{w0:j0}{S S3:b5}{k2:Nat}{cs:List D}{a2:List AV}
variable(hle:S.le S3)(hn:S k2=none)(h2:S3 k2=some ⟨3,[cs],a2⟩)(hcs:cs.length=3)
include hle hn h2 hcs
end
section
variable{E:g8}{w0:j0}{S S3:b5}{k k2:Nat}{a a2:List AV}{y:In}
variable(hle:S.le S3)(hn:S k2=none)(h0:S3 k=some ⟨4,[N7 y],a⟩)(h2:S3 k2=some ⟨3,[[.nilSlc, .nilSlc, .bool false]],a2⟩)
include hle hn h2
end
section
variable{E:g8}{w0:j0}
end
end
section
section
variable{E:g8}{w0:j0}
theorem a5n{l:List In}{i:Nat}{y:In}(h:l[i]? =some y):j5 4 (H6 l) (.int .i64 (i:Int))=some (.elt (N7 y) 0):=b9u (by rw[List.getElem?_map,h];rfl)
end
end
section
def GrZ(S0:b5)(t:D)(rows:List (List D))(sz:Nat)(S:b5):Prop:=Grw S0 t rows sz S∨(rows=[]∧∃k cap ex zr acs,S0 k=none∧t= .raw k 0 0 cap ex sz∧S=S0.set k ⟨sz,zr,acs⟩)
section
variable{S0 S:b5}{t:D}{rows:List (List D)}{sz:Nat}
theorem GrZ.push(h:GrZ S0 t rows sz S){bytes:Nat}{v:D}{news:List (List D)}(hv:rowsS S sz v=some news)(hn:news≠[])(hb:0<bytes∧(2*(rows.length+news.length)+768)*bytes≤2^47){K:D→b5→Prop}(hK:∀t' S',Grw S0 t' (rows++news) sz S'→K t' S'):u4 S sz bytes t v K:=by
 rcases h with h|⟨rfl,k,cap,ex,zr,acs,h0,rfl,rfl⟩
 ·exact h.push hv hb hK
 ·simp only[u4,hv,a0h]
  rw[if_neg hn,b5.set_same]
  simp only
  rw[if_pos ⟨by trivial,by trivial,by omega⟩]
  refine⟨by simpa using hb, .inr fun k' acs' hk'=> ?_⟩
  rw[b5.erase_set _ _ _ h0]at hk' ⊢
  refine hK _ _ (.inr ⟨k',acs',hk', ?_, ?_⟩)<;>simp
theorem GrZ.last(h:GrZ S0 t rows sz S){bytes:Nat}{v:D}{news:List (List D)}(hv:rowsS S sz v=some news)(hn:news≠[])(hb:0<bytes∧(2*(rows.length+news.length)+768)*bytes≤2^47){K:D→b5→Prop}(hK:K (.lst (rows++news) sz) S0):u4 S sz bytes t v K:=by
 rcases h with h|⟨rfl,k,cap,ex,zr,acs,h0,rfl,rfl⟩
 ·exact h.last hv hn hb hK
 ·simp only[u4,hv,a0h]
  rw[if_neg hn,b5.set_same]
  simp only
  rw[if_pos ⟨by trivial,by trivial,by omega⟩]
  refine⟨by simpa using hb, .inl ?_⟩
  rw[b5.erase_set _ _ _ h0,List.take_of_length_le (by simp)]
  simpa using hK
end
section
variable{E:g8}{w0:j0}
end
end
section
def bytesOf(s:Tx):List Int:=s.map fun b=>(b.toNat:Int)
def WOk(L I:List Int):Prop:=(I.length≤2097153∧L=I)∨(2097153<I.length∧L.length=2097153)
theorem WOk.len{L I:List Int}(h:WOk L I):L.length≤2097153:=by
 rcases h with ⟨h,rfl⟩|⟨_,h⟩<;>omega
def WAt(S:b5)(kw:Nat)(av:List Nat)(I:List Int)(T:b5):Prop:=S.le T∧S kw=none∧kw ∉ av∧(∀j∈av,T j≠none)∧∃(L:List Int) (t:D),WOk L I∧D3 T kw 1 [t]∧O4 S (kw::av) t (J5 (L.map (D.int .u8))) 1 T
section
variable{E:g8}{w0:j0}{S T:b5}{kw:Nat}{av:List Nat}{I:List Int}
theorem WAt.more(h:WAt S kw av I T){l:Nat}{o:A2}(hl:T l=none):WAt S kw (l::av) I (T.set l o):=by
 obtain⟨h1,h2,h3,h4,L,t,h5,h6,h7⟩:=h
 have ne:kw≠l:=h6.none hl
 have nt:∀j∈ob t,j≠l:=fun j hj e=>h7.ob_some j hj (by rw[e];exact hl)
 refine⟨b5.le_set h1 (b5.none_of h1 hl),h2,fun hm=> ?_,fun j hj=> ?_,L,t,h5,h6.set hl,h7.apart (fun j hj=>b5.set_ne _ _ _ (nt j hj)) fun j hj hm=> ?_⟩
 ·rcases List.mem_cons.1 hm with e|hm
  ·exact ne e
  ·exact h3 hm
 ·rcases List.mem_cons.1 hj with rfl|hj
  ·rw[b5.set_same];simp
  ·rw[b5.set_ne _ _ _ fun e=>h4 j hj (by rw[e];exact hl)];exact h4 j hj
 ·have:=h7.ob_av j hj
  rcases List.mem_cons.1 hm with e|hm
  ·exact this (by simp[e])
  ·rcases List.mem_cons.1 hm with e|hm
   ·exact nt j hj e
   ·exact this (by simp[hm])
theorem WAt.upd(h:WAt S kw av I T){l:Nat}{o:A2}(hl:l∈av)(hS:S l=none):WAt S kw av I (T.set l o):=by
 obtain⟨h1,h2,h3,h4,L,t,h5,h6,h7⟩:=h
 have ne:kw≠l:=fun e=>h3 (by rw[e];exact hl)
 refine⟨b5.le_set h1 hS,h2,h3,fun j hj=> ?_,L,t,h5,h6.set_ne ne,h7.set (.inl (by simp[hl]))⟩
 by_cases e:j=l
 ·subst e;rw[b5.set_same];simp
 ·rw[b5.set_ne _ _ _ e];exact h4 j hj
theorem WAt.less(h:WAt S kw av I T){av':List Nat}(ha:∀j∈av',j∈av):WAt S kw av' I T:=by
 obtain⟨h1,h2,h3,h4,L,t,h5,h6,h7⟩:=h
 refine⟨h1,h2,fun hm=>h3 (ha _ hm),fun j hj=>h4 j (ha j hj),L,t,h5,h6,h7.apart (fun _ _=>rfl) fun j hj hm=> ?_⟩
 have:=h7.ob_av j hj
 rcases List.mem_cons.1 hm with e|hm
 ·exact this (by simp[e])
 ·exact this (by simp[ha j hm])
end
end
end Go.Proofs.Ytdkidgkiplcggaa.d
end
section
namespace Go.Am
section
open Go.Sort
def c7F(out:Option Nat)(a:Option Addr)(c:Nat):Value:=match out with
 |none=> .tuple #[]
 |some m=> .slice a m c
structure b3i (P:Program) (f:FuncId) (g:List Int→List Int) (out:List Int→Option Nat):Prop where
 has:∀(blk off cap:Nat) (zs:List Int) (w:World),Holds (Value.int .i64) w blk off zs.toArray→blk<w.heap.size→zs.length<4611686018427387904→zs.length≤cap→
  Calls P f #[.slice (some ⟨blk,off,none⟩) zs.length cap] w fun e w'=>e= .returned (c7F (out zs) (some ⟨blk,off,none⟩) cap)∧∃n os,w'=grow (putRow (Value.int .i64) (Sort.ahead w n) blk off (g zs).toArray) os
 empty:∀(a:Option Addr) (cap:Nat) (w:World),Calls P f #[.slice a 0 cap] w fun e w'=>e= .returned (c7F (out []) a cap)∧w'=w
 len:∀zs,(g zs).length=zs.length
 outL:∀zs m,out zs=some m→m≤zs.length
theorem B6.growW{E:g8}{w0:World}{H:AHeap}{w:World}{ρ:u5}(R:B6 E w0 H w ρ)(os:Array Obj):B6 E w0 H (grow w os) ρ:=by
 have hp:∀b,b<w.heap.size→(grow w os).heap[b]? =w.heap[b]? :=fun b hb=>by
  show(w.heap++os)[b]? =_
  rw[Array.getElem?_append,if_pos hb]
 exact⟨by rw[size_grow];have:=R.size;omega,fun b hb=>by rw[hp b (by have:=R.size;omega)];exact R.old b hb,R.env,R.side,
  fun k o e=>let ⟨l,h1,h2,h3⟩:=R.objs k o e;⟨l,h1,h2,G6 h3 (hp _ (W3 h3))⟩,R.apart,R.pres,R.kin⟩
theorem b2b:∀(vs:List Value) (a:Array Value) (i j:Nat),i+vs.length≤a.size→(C2 a i vs)[j]? =if i≤j∧j<i+vs.length then vs[j - i]? else a[j]?
 | [],a,i,j,_=>by rw[C2,List.length_nil,if_neg (by omega)]
 |v::vs,a,i,j,h=>by
  rw[List.length_cons]at h
  rw[C2,b2b vs _ _ _ (by simp;omega),List.length_cons,Array.getElem?_setIfInBounds]
  by_cases e:i=j
  ·subst e
   rw[if_neg (by omega),if_pos rfl,if_pos (by omega),if_pos ⟨by omega,by omega⟩,Nat.sub_self]
   rfl
  ·rw[if_neg e]
   by_cases hc:i+1≤j∧j<i+1+vs.length
   ·rw[if_pos hc,if_pos ⟨by omega,by omega⟩,show j - i=(j - (i+1))+1 by omega]
    rfl
   ·rw[if_neg hc,if_neg (by omega)]
theorem b7Q(off:Nat)(d:List Int)(arr:Array Value)(h:off+d.length≤arr.size):putCells (Value.int .i64) off d.toArray arr=C2 arr off (d.map (Value.int .i64)):=by
 apply Array.ext_getElem?
 intro j
 rw[b2b _ _ _ _ (by simpa using h),putCells,Array.getElem?_mapIdx,List.length_map]
 by_cases hc:off≤j∧j<off+d.length
 ·rw[if_pos hc,Array.getElem?_eq_getElem (by omega),Option.map_some,if_pos (by simpa using hc),List.getElem?_map,List.getElem?_eq_getElem (by omega)]
  simp only[Option.map_some,Option.some.injEq,Value.int.injEq,true_and]
  rw[getElem!_pos _ _ (by simp;omega)]
  simp
 ·rw[if_neg hc]
  cases hj:arr[j]? with
  |none=>rfl
  |some v=>simp only[Option.map_some];rw[if_neg (by simpa using hc)]
theorem b3c{ρ:u5}:∀(l:List Int),m6 ρ (l.map (.int .i64)) (l.map (Value.int .i64))
 | []=>by rw[List.map_nil,List.map_nil,m7]
 |n::l=>by rw[List.map_cons,List.map_cons,j3];exact⟨by simp only[rel],b3c l⟩
theorem a4z:∀(l:List Int),(l.map (AV.int .i64)).all m9=true
 | []=>rfl
 |n::l=>by rw[List.map_cons,List.all_cons,a4z l];rfl
section
variable{P:Program}{f:FuncId}{g:List Int→List Int}{out:List Int→Option Nat}
def c5r(out:Option Nat)(k i cap:Nat)(ex:Bool):AV:=match out with
 |none=>s8
 |some m=> .slc (.new k) i m cap ex 1
theorem c1c{ρ:u5}{out:Option Nat}{k i len cap:Nat}{ex:Bool}{a:Addr}{c:Nat}(h:rel ρ (.slc (.new k) i len cap ex 1) (.slice (some a) len c))(ho:∀m,out=some m→m≤len):rel ρ (c5r out k i cap ex) (c7F out (some a) c):=by
 cases out with
 |none=>simp only[c5r,c7F,s8,rel];exact⟨#[],rfl,by rw[m7]⟩
 |some m=>
  simp only[rel]at h
  obtain⟨a',c',e,h1,h2,h3,h4,h5⟩:=h
  cases e
  simp only[c5r,c7F,rel]
  exact⟨a,c,rfl,by have:=ho m rfl;omega,h2,h3,h4,h5⟩
theorem b3i.fnW(h:b3i P f g out){E:g8}{w0:a4P}{H:AHeap}{k i len cap:Nat}{ex:Bool}{cs:List AV}{pre:List Nat}{zs:List Int}(hk:H.get k=some (.cells cs true pre))(hi:i+len≤cs.length)
  (hz:(cs.drop i).take len=zs.map (.int .i64)) (hb:len<4611686018427387904) {Q:AV→AHeap→Prop} (hQ:∀H',z8 H (.new k) i ((g zs).map (.int .i64))=some H'→Q (c5r (out zs) k i cap ex) H'):
  FnW P E w0 f [.slc (.new k) i len cap ex 1] H Q:=by
 intro w ρ vargs R hf hr
 obtain⟨vs⟩:=vargs
 simp only[m6]at hr
 obtain⟨v,rest,rfl,hv,rfl⟩:=hr
 have hzl:zs.length=len:=by
  have:=congrArg List.length hz
  rw[List.length_take,List.length_drop,List.length_map]at this
  omega
 have hv0:=hv
 simp only[rel]at hv
 obtain⟨a,c,rfl,h1,h2,h3,h4,h5⟩:=hv
 by_cases h0:len=0
 ·subst h0
  have hz0:zs=[]:=List.length_eq_zero_iff.1 hzl
  subst hz0
  have hg:g []=[]:=List.length_eq_zero_iff.1 (by rw[h.len];rfl)
  refine Calls.mono (h.empty (some a) c w) ?_
  rintro e w' ⟨rfl,rfl⟩
  exact⟨ρ,_,H,hQ H (by rw[hg];rfl),⟨Ext.refl _,Nat.le_refl _,fun _ _=>rfl⟩,c1c hv0 (fun m hm=>h.outL [] m hm),R⟩
 ·rcases h4 with h4|⟨b,d,hbd,rfl⟩
  ·omega
  obtain⟨l,hl,hs,arr,el,lo,hi',e0,e1,e2,e3,e4⟩:=R.objs k _ hk
  simp only[E4,hl,Option.map_some,Option.some.injEq,Prod.mk.injEq]at hbd
  obtain⟨rfl,rfl⟩:=hbd
  have hblk:=(Array.getElem?_eq_some_iff.1 e0).1
  have hH:Holds (Value.int .i64) w l.blk (l.d+i) zs.toArray:=by
   intro j hj
   have hj':j<zs.length:=by simpa using hj
   have hcj:cs[i+j]? =some (.int .i64 zs[j]):=by
    have:=congrArg (fun l=>l[j]?) hz
    simp only[List.getElem?_map]at this
    rw[List.getElem?_eq_getElem hj',b1a _ _ _ _ (by omega)]at this
    exact this
   obtain⟨u,hu1,hu2⟩:=a2k e3 (i+j) hcj
   simp only[rel]at hu2
   subst hu2
   rw[b1a _ _ _ _ (by omega)]at hu1
   refine⟨?_, ?_⟩
   ·rw[a4n e0, ←Array.getElem?_toList,show l.d+i+j=l.d+(i+j) by omega,hu1,getElem!_pos zs.toArray j hj]
    simp
   ·rw[a9M e0]
    rcases e4 rfl with e|e
    ·subst e;simp only[Bool.and_eq_false_iff,decide_eq_false_iff_not];omega
    ·simp only[Bool.and_eq_false_iff,decide_eq_false_iff_not];omega
  have hcall:=h.has l.blk (l.d+i) c zs w hH hblk (by omega) (by omega)
  rw[hzl]at hcall
  refine Calls.mono hcall ?_
  rintro e w' ⟨rfl,n,os,rfl⟩
  have hgl:(g zs).length=len:=by rw[h.len,hzl]
  have hst:z8 H (.new k) i ((g zs).map (.int .i64))=some ((H.killAll pre).set k (.cells (z7 cs i ((g zs).map (.int .i64))) true [])):=by
   cases hgz:(g zs).map (AV.int .i64) with
   |nil=>exact absurd (by rw[←hgl, ←List.length_map (f:=AV.int .i64),hgz];rfl) h0
   |cons x xs=>
    have hx:=congrArg List.length hgz
    rw[List.length_map,List.length_cons]at hx
    exact a1q hk i x xs (by omega) (by rw[←hgz];exact a4z _)
  have hrel:m6 ρ ((g zs).map (.int .i64)) ((g zs).map (Value.int .i64)):=b3c _
  have hR:=R.write (arr':=C2 arr (l.d+i) ((g zs).map (Value.int .i64))) (cs':=z7 cs i ((g zs).map (.int .i64))) hk hl e0 (I4 _ _ _) (Y0 _ _ _)
   (by rw[Y0];exact a2Q i hrel (by simp;omega) e3)
  refine⟨ρ,_,_,hQ _ hst,⟨Ext.refl _,by simp,fun _ _=>rfl⟩,c1c hv0 (fun m hm=>by have:=h.outL zs m hm;omega),B6.growW ?_ os⟩
  refine hR.heap_eq ?_
  show w.heap.modify l.blk (onCells (putCells (Value.int .i64) (l.d+i) (g zs).toArray))=w.heap.setIfInBounds l.blk _
  apply Array.ext_getElem?
  intro j
  rw[Array.getElem?_modify,Array.getElem?_setIfInBounds]
  by_cases hj:l.blk=j
  ·subst hj
   rw[if_pos rfl,if_pos rfl,if_pos hblk,e0,Option.map_some]
   simp only[onCells]
   rw[b7Q _ _ _ (by omega)]
  ·rw[if_neg hj,if_neg hj]
def c9h(out:Option Nat)(k i cap:Nat)(ex:Bool):D:=match out with
 |none=>b6
 |some m=> .raw k i m cap ex 1
def J1(l:List Int):List (List D):=l.map fun n=>[.int .i64 n]
theorem b3i.fnD(h:b3i P f g out){E:g8}{w0:j0}{S:b5}{k i len cap:Nat}{ex:Bool}{o:A2}(hk:S k=some o)(ho:o.sz=1)(hi:i+len≤o.rows.length){zs:List Int}(hz:(o.rows.drop i).take len=J1 zs)(hb:len<4611686018427387904){Q:D→b5→Prop}
  (hQ:∀acs,Q (c9h (out zs) k i cap ex) (S.set k ⟨1,o.rows.take i++(J1 (g zs)++o.rows.drop (i+len)),acs⟩)):p8 P E w0 f [.raw k i len cap ex 1] S Q:=by
 intro R H avs F hC ha
 simp only[s7]at ha
 obtain⟨v,vs,rfl,hv,rfl⟩:=ha
 simp only[Rp]at hv
 obtain⟨_,rfl⟩:=hv
 obtain⟨h1,⟨pre,h2⟩,h3,h4,h5⟩:=hC.cells hk (.inl (by rw[ho];decide))
 rw[ho]at h4
 have hal:=h5.length
 rw[r6 h4,Nat.mul_one]at hal
 have hzl:zs.length=len:=by
  have:=congrArg List.length hz
  rw[List.length_take,List.length_drop,J1,List.length_map]at this
  omega
 have fd:∀n,(o.rows.drop n).flatten=o.rows.flatten.drop n:=fun n=>by have:=a0T h4 n;rw[Nat.mul_one]at this;exact this.symm
 have ft:∀n,(o.rows.take n).flatten=o.rows.flatten.take n:=fun n=>by have:=Z1 h4 n;rw[Nat.mul_one]at this;exact this.symm
 have hrow:s7 E R (J1 zs).flatten ((o.acs.drop i).take len):=by
  have h6:((o.rows.drop i).take len).flatten=(o.rows.drop i).flatten.take len:=by
   have:=Z1 (fun row hr=>h4 row (List.mem_of_mem_drop hr):∀row∈o.rows.drop i,row.length=1) len
   rw[Nat.mul_one]at this;exact this.symm
  rw[←hz,h6,fd]
  exact(h5.drop i).take len
 have hints:∀(l:List Int) (vs:List AV),s7 E R (J1 l).flatten vs→vs=l.map (.int .i64):=by
  intro l
  induction l with
  |nil=>intro vs hv;simp only[J1,List.map_nil,List.flatten_nil,s7]at hv;rw[hv];rfl
  |cons n l ih=>
   intro vs hv
   simp only[J1,List.map_cons,List.flatten_cons,List.cons_append,List.nil_append,s7,Rp]at hv
   obtain⟨v,vs,rfl,rfl,hv⟩:=hv
   rw[ih vs hv];rfl
 have hints':∀(l:List Int),s7 E R (J1 l).flatten (l.map (.int .i64)):=by
  intro l
  induction l with
  |nil=>exact A7
  |cons n l ih=>exact q9 (by simp only[Rp]) ih
 have hlen:(g zs).length=len:=by rw[h.len,hzl]
 have hrl:∀row∈J1 (g zs),row.length=1:=fun row hr=>by
  rw[J1,List.mem_map]at hr
  obtain⟨n,_,rfl⟩:=hr
  rfl
 have hrl':∀row∈o.rows.take i++(J1 (g zs)++o.rows.drop (i+len)),row.length=1:=fun row hr=>by
  rcases List.mem_append.1 hr with hr|hr
  ·exact h4 row (List.mem_of_mem_take hr)
  ·rcases List.mem_append.1 hr with hr|hr
   ·exact hrl row hr
   ·exact h4 row (List.mem_of_mem_drop hr)
 have hil:(J1 (g zs)).length=len:=by rw[J1,List.length_map,hlen]
 have hflat:(o.rows.take i++(J1 (g zs)++o.rows.drop (i+len))).flatten=j4 o.rows.flatten i (J1 (g zs)).flatten:=by
  rw[b1t (by rw[r6 hrl,hil,r6 h4];omega),r6 hrl,hil,Nat.mul_one, ←ft, ←fd,List.flatten_append,List.flatten_append]
 have hscl:=a4z (g zs)
 rw[Nat.mul_one]
 refine h.fnW h2 (by omega) (hints _ _ hrow) hb fun H' hst=> ?_
 have hout:∀R',Rp E R' (c9h (out zs) k i cap ex) (c5r (out zs) k i cap ex):=fun R'=>by
  cases out zs with
  |none=>exact W8
  |some m=>simp only[c9h,c5r,Rp,Nat.mul_one];exact⟨by decide,trivial⟩
 by_cases h0:len=0
 ·have hg0:g zs=[]:=List.length_eq_zero_iff.1 (by omega)
  rw[hg0]at hst
  cases hst
  refine⟨F,R,_,_,Fz.le_refl R, ?_,hout R,hQ o.acs⟩
  refine hC.put h1 h2 (fun p hp=>hC.safe k o hk p (by rw[L5 h2];exact hp)) h3 hrl' ?_
  show s7 E R (o.rows.take i++(J1 (g zs)++o.rows.drop (i+len))).flatten _
  rw[hg0,h0]
  simpa [J1]using h5
 ·obtain⟨H1,e1,e2,e3,e4,F'⟩:=F.stores h2 (n:=i) (vs:=(g zs).map (.int .i64)) (fun e=>h0 (by rw[←hlen, ←List.length_map (f:=AV.int .i64),e];rfl)) (by simp;omega) hscl
  rw[e1]at hst
  cases hst
  refine⟨F',R,_,_,Fz.le_refl R, ?_,hout R,hQ (z7 o.acs i ((g zs).map (.int .i64)))⟩
  have hS:S.set k ⟨1,o.rows.take i++(J1 (g zs)++o.rows.drop (i+len)),z7 o.acs i ((g zs).map (.int .i64))⟩=(S.erase k).set k ⟨1,o.rows.take i++(J1 (g zs)++o.rows.drop (i+len)),z7 o.acs i ((g zs).map (.int .i64))⟩:=by
   funext j;simp only[b5.set,b5.erase];split<;>rfl
  rw[hS]
  refine(hC.but F' e3 hk (fun cs e=>by rw[h1]at e;cases e)).put h1 (pre:=[]) e2 (fun p hp=>by cases hp) (O0 h3 hscl) hrl' ?_
  show s7 E R (o.rows.take i++(J1 (g zs)++o.rows.drop (i+len))).flatten _
  rw[hflat]
  exact a0V h5 (hints' _)
end
end
section
section
variable{P:Program}{E:g8}{w0:j0}{R:Fz}{S:b5}{H:AHeap}
theorem c9T(hC:s0 E R S H){k:Nat}{o:A2}(hk:S k=some o){i len cap:Nat}{ex:Bool}{sz:Nat}{v:AV}(hv:Rp E R (.raw k i len cap ex sz) v)(hsz:o.sz=sz)(hl:i+len=o.rows.length)(hc:len≤cap):
  Rp E (fun j=>if j=k then some o.acs else R j) (.tip k (o.rows.drop i) sz) v:=by
 simp only[Rp]at hv
 obtain⟨hzm,rfl⟩:=hv
 have hom:o.sz<H3:=by rw[hsz];exact hzm
 obtain⟨h1,⟨pre,h2⟩,h3,h4,h5⟩:=hC.cells hk (.inl hom)
 obtain⟨_,hle⟩:=hC.freeze hk (.inl hom)
 rw[hsz]at h4
 have hlen:(o.rows.drop i).length=len:=by rw[List.length_drop];omega
 have hd:∀row∈o.rows.drop i,row.length=sz:=fun row hr=>h4 row (List.mem_of_mem_drop hr)
 have hal:=h5.length
 rw[r6 h4]at hal
 have hend:i*sz+len*sz=o.acs.length:=by rw[hal, ←Nat.add_mul,hl]
 simp only[Rp]
 refine⟨hzm,i*sz,cap,ex,o.acs,by rw[hlen],by rw[hlen];exact hc,hd,by simp, ?_,G8 (W5 h3 _) _,by rw[hlen];exact hend⟩
 rw[hlen,E5, ←a0T h4]
 rw[List.take_of_length_le (by rw[List.length_drop];omega)]
 exact s7.le hle _ _ (h5.drop _)
theorem b9.tipT{Q:D→b5→Prop}{k:Nat}{o:A2}(hk:S k=some o){i len cap:Nat}{ex:Bool}{sz:Nat}(hsz:o.sz=sz)(hl:i+len=o.rows.length)(hc:len≤cap){lp lq:List D}{acs:List AV}
  (h:b9 E Q (.tup (lp++ .tip k (o.rows.drop i) sz::lq)) (S.set k (c6Q acs))):b9 E Q (.tup (lp++ .raw k i len cap ex sz::lq)) S:=fun R H v hC hd=>by
 simp only[Rp]at hd
 obtain⟨vs,rfl,hv⟩:=hd
 obtain⟨v1,v2,rfl,g1,g2⟩:=a1H hv
 simp only[s7]at g2
 obtain⟨w,ws,rfl,g3,g4⟩:=g2
 have hzm:sz<H3:=by simp only[Rp]at g3;exact g3.1
 obtain⟨h1,h2⟩:=hC.toTip hk (.inl (by rw[hsz];exact hzm)) acs
 obtain⟨R',S',d',a,b,c,e⟩:=h _ H (.tup (v1++w::ws)) h1 (by
  simp only[Rp]
  exact⟨_,rfl,(s7.le h2 _ _ g1).append (q9 (c9T hC hk g3 hsz hl hc) (s7.le h2 _ _ g4))⟩)
 exact⟨R',S',d',Fz.le_trans h2 a,b,c,e⟩
theorem Wk.tip(k:Nat)(rows:List (List D))(sz:Nat):Wk (.tip k rows sz) (.lst rows sz):=fun E R v h=>by
 simp only[Rp]at h ⊢
 obtain⟨_,j,cap,ex,all,rfl,q1,q2,q3,q4,q5,q6⟩:=h
 exact .inr ⟨.new k,j,cap,ex,sz,rfl,rfl,q1,q2, .inr ⟨all,q3,q4,q5⟩⟩
theorem c7s{k sz bytes:Nat}{rows news:List (List D)}{acs:List AV}(hk:S k=some (c6Q acs))(hn:news≠[])(hb:0<bytes∧(2*(rows.length+news.length)+768)*bytes≤2^47){K:D→b5→Prop}
  (hK:K (.lst (rows++news) sz) (S.erase k)):a0h S sz bytes (.tip k rows sz) news K:=by
 simp only[a0h]
 rw[if_neg hn,hk]
 simp only
 rw[if_pos ⟨by trivial,by trivial⟩]
 exact⟨hb,hK⟩
end
end
end Go.Am
end
section
open Go.Proofs Go Go.Am Go.Op
namespace Go.Proofs.Ytdkidgkiplcggaa.d
section
set_option linter.unusedSectionVars false
structure Fr where
 locals:List Int
 stack:List Int
 deriving DecidableEq
structure Fr.Ok (f:Fr):Prop where
 l:f.locals.length<2^30
 s:f.stack.length<2^30
 ints:∀n∈f.locals++f.stack,I64 n
section
variable{E:g8}{w0:j0}
end
end
section
section
variable{E:g8}{w0:j0}
theorem c8l{S0 S:b5}{d:D}{l:List Int}(h:Own S0 d l S):j9 d=some (.int .i64 (l.length:Int)):=by
 rcases h with ⟨rfl,rfl,rfl⟩|⟨k,acs,ex,_,rfl,rfl⟩<;>rfl
def RdI(S:b5)(d:D)(l:List Int):Prop:=j9 d=some (.int .i64 (l.length:Int))∧∀(i:Nat) (v:Int),l[i]? =some v→∃p,j5 1 d (.int .i64 (i:Int))=some p∧d9 S p=some (.int .i64 v)
theorem b5k(S:b5)(l:List Int):RdI S (iD l) l:=⟨a1I l,fun i v h=>⟨_,a0y h,rfl⟩⟩
theorem Own.rd{S0 S S':b5}{d:D}{l:List Int}(h:Own S0 d l S)(hle:S.le S'):RdI S' d l:=by
 refine⟨c8l h,fun i v hv=> ?_⟩
 rcases h with ⟨rfl,rfl,rfl⟩|⟨k,acs,ex,h,rfl,rfl⟩
 ·simp at hv
 ·have hi:=(List.getElem?_eq_some_iff.1 hv).1
  refine⟨_,c1l hi, ?_⟩
  rw[Nat.zero_add,ldR (hle _ _ (b5.set_same _ _ _)) (c6C hv)]
  rfl
theorem c1U{a b:List Int}(hl:a.length<2^60)(hb:b.length<2^60){S:b5}{da db:D}(ra:RdI S da a)(rb:RdI S db b):p8 Try.prog E w0 I8 [da,db] S fun d' S'=>d'= .bool (decide (a=b))∧S'=S:=by
 refine a4s ?_
 unfold a3x
 simp only[ra.1,rb.1,oD,a9c]
 rw[b9v,V7]
 refine⟨fun h=> ?_,fun h=> ?_⟩
 ·rw[decide_eq_false (fun e=>h (by rw[e]))]
  exact b9.pure
 have h:a.length=b.length:=by omega
 refine a2H (I:=fun n x0 x1 x5 S'=>S=S'∧x0=da∧x1=db∧∃i:Nat,x5= .int .i64 (i:Int)∧i+n=a.length∧a.take i=b.take i) ?_ (n:=a.length) ⟨rfl,rfl,rfl,0,rfl,by omega,rfl⟩
 rintro n _ _ _ _ ⟨rfl,rfl,rfl,i,rfl,hi,ht⟩
 unfold Z5
 simp only[ra.1,oD,M7]
 rw[V7]
 refine⟨fun hlt=> ?_,fun hge=> ?_⟩
 ·have hlt:i<a.length:=by omega
  have ea:a[i]? =some a[i]:=List.getElem?_eq_getElem hlt
  have eb:b[i]? =some b[i]:=List.getElem?_eq_getElem (by omega)
  obtain⟨p,p1,p2⟩:=ra.2 i _ ea
  obtain⟨q,q1,q2⟩:=rb.2 i _ eb
  simp only[p1,p2,q1,q2,oD,a9c]
  rw[b9v,V7]
  refine⟨fun hne=> ?_,fun he=> ?_⟩
  ·rw[decide_eq_false (fun e=>hne (by simp only[e]))]
   exact b9.pure
  ·rw[C4,oD,i6 (by omega) (by omega)]
   refine⟨n - 1,by omega,by trivial,by trivial,by trivial,i+1,rfl,by omega, ?_⟩
   rw[List.take_add_one,List.take_add_one,ht,ea,eb,Classical.not_not.1 he]
 ·rw[List.take_of_length_le (by omega),List.take_of_length_le (by omega)]at ht
  rw[decide_eq_true ht]
  exact b9.pure
end
end
end Go.Proofs.Ytdkidgkiplcggaa.d
end
section
namespace Go.Proofs
open Go.Shelf
def Try.lays189_ren:Go.Shelf.Ren:=⟨fun|189=>39|125=>56|257=>55|128=>84|129=>85|294=>76|295=>77|296=>78|297=>79|298=>80|299=>81|216=>66|300=>82|301=>83|328=>108|329=>109|330=>110|331=>111|332=>112|215=>92|343=>128|n=>n,fun|28=>31|3=>3|46=>97|0=>0|51=>145|53=>147|4=>4|183=>139|182=>138|131=>77|5=>5|9=>9|218=>167|222=>171|228=>191|229=>192|n=>n,fun|n=>n⟩
theorem Try.lays189:Go.Proofs.Lays.n189 Try.prog Try.lays189_ren:= {
 mixed:=by kernel_rfl
 f125:=Try.func56.trans (congrArg some (by kernel_rfl))
 f128:=Try.func84.trans (congrArg some (by kernel_rfl))
 f129:=Try.func85.trans (congrArg some (by kernel_rfl))
 f189:=Try.func39.trans (congrArg some (by kernel_rfl))
 f215:=Try.func92.trans (congrArg some (by kernel_rfl))
 f216:=Try.func66.trans (congrArg some (by kernel_rfl))
 f257:=Try.func55.trans (congrArg some (by kernel_rfl))
 f294:=Try.func76.trans (congrArg some (by kernel_rfl))
 f295:=Try.func77.trans (congrArg some (by kernel_rfl))
 f296:=Try.func78.trans (congrArg some (by kernel_rfl))
 f297:=Try.func79.trans (congrArg some (by kernel_rfl))
 f298:=Try.func80.trans (congrArg some (by kernel_rfl))
 f299:=Try.func81.trans (congrArg some (by kernel_rfl))
 f300:=Try.func82.trans (congrArg some (by kernel_rfl))
 f301:=Try.func83.trans (congrArg some (by kernel_rfl))
 f328:=Try.func108.trans (congrArg some (by kernel_rfl))
 f329:=Try.func109.trans (congrArg some (by kernel_rfl))
 f330:=Try.func110.trans (congrArg some (by kernel_rfl))
 f331:=Try.func111.trans (congrArg some (by kernel_rfl))
 f332:=Try.func112.trans (congrArg some (by kernel_rfl))
 f343:=Try.func128.trans (congrArg some (by kernel_rfl))
 t0:=Try.underlying0
 a0:=Try.isAgg0
 z0:=Try.sizeOf0
 v0:=Try.zeroValue0
 t3:=Try.underlying3
 a3:=Try.isAgg3
 z3:=Try.sizeOf3
 v3:=Try.zeroValue3
 t4:=Try.underlying4
 a4:=Try.isAgg4
 z4:=Try.sizeOf4
 v4:=Try.zeroValue4
 t5:=Try.underlying5
 a5:=Try.isAgg5
 z5:=Try.sizeOf5
 v5:=Try.zeroValue5
 t9:=Try.underlying9
 a9:=Try.isAgg9
 z9:=Try.sizeOf9
 v9:=Try.zeroValue9
 t28:=Try.underlying31
 a28:=Try.isAgg31
 z28:=Try.sizeOf31
 v28:=Try.zeroValue31
 t46:=Try.underlying97
 a46:=Try.isAgg97
 z46:=Try.sizeOf97
 v46:=Try.zeroValue97
 t51:=Try.underlying145
 a51:=Try.isAgg145
 z51:=Try.sizeOf145
 v51:=Try.zeroValue145
 t53:=Try.underlying147
 a53:=Try.isAgg147
 z53:=Try.sizeOf147
 v53:=Try.zeroValue147
 t131:=Try.underlying77
 a131:=Try.isAgg77
 z131:=Try.sizeOf77
 v131:=Try.zeroValue77
 t182:=Try.underlying138
 a182:=Try.isAgg138
 z182:=Try.sizeOf138
 v182:=Try.zeroValue138
 t183:=Try.underlying139
 a183:=Try.isAgg139
 z183:=Try.sizeOf139
 v183:=Try.zeroValue139
 t218:=Try.underlying167
 a218:=Try.isAgg167
 z218:=Try.sizeOf167
 v218:=Try.zeroValue167
 t222:=Try.underlying171
 a222:=Try.isAgg171
 z222:=Try.sizeOf171
 v222:=Try.zeroValue171
 t228:=Try.underlying191
 a228:=Try.isAgg191
 z228:=Try.sizeOf191
 v228:=Try.zeroValue191
 t229:=Try.underlying192
 a229:=Try.isAgg192
 z229:=Try.sizeOf192
 v229:=Try.zeroValue192 }
def Try.laysNm220_ren:Go.Shelf.Ren:=⟨fun|20=>54|n=>n,fun|22=>31|3=>3|4=>4|0=>0|n=>n,fun|n=>n⟩
theorem Try.laysNm220:Go.Proofs.Lays2.n20 Try.prog Try.laysNm220_ren:= {
 mixed:=by kernel_rfl
 f20:=Try.func54.trans (congrArg some (by kernel_rfl))
 t0:=Try.underlying0
 a0:=Try.isAgg0
 z0:=Try.sizeOf0
 v0:=Try.zeroValue0
 t3:=Try.underlying3
 a3:=Try.isAgg3
 z3:=Try.sizeOf3
 v3:=Try.zeroValue3
 t4:=Try.underlying4
 a4:=Try.isAgg4
 z4:=Try.sizeOf4
 v4:=Try.zeroValue4
 t22:=Try.underlying31
 a22:=Try.isAgg31
 z22:=Try.sizeOf31
 v22:=Try.zeroValue31
 i3:=by kernel_rfl }
open Go.Sort Go.RowKit in
theorem Try.slices_Sort_int(blk off cap:Nat)(zs:List Int)(w:World)(hH:Holds (Value.int .i64) w blk off zs.toArray)(hblk:blk<w.heap.size)(hsz:zs.length<4611686018427387904):
  Calls Try.prog 39 #[.slice (some ⟨blk,off,none⟩) zs.length cap] w fun e w'=>
   e= .returned (.tuple #[])∧∃n os,w'=grow (putRow (Value.int .i64) (Sort.ahead w n) blk off (zs.mergeSort fun x y=>decide (x≤y)).toArray) os:=Any.slices_Sort_int Try.lays189 blk off cap zs w hH hblk hsz
open Go.RowKit Go.Lib Go.Sort in
theorem Try.slices_Compact_int(blk off cap:Nat)(zs:List Int)(w:World)(hH:Holds (Value.int .i64) w blk off zs.toArray)(hsz:zs.length≤9223372036854775807)(hcap:zs.length≤cap):
  Calls Try.prog 54 #[.slice (some ⟨blk,off,none⟩) zs.length cap] w fun e w'=>e= .returned (.slice (some ⟨blk,off,none⟩) (Lib.compact zs).length cap)∧∃q,w'=putRow (Value.int .i64) (Sort.ahead w q) blk off (Lib.compact zs++List.replicate (zs.length - (Lib.compact zs).length) 0).toArray:=Any.slices_Compact_int Try.laysNm220 blk off cap zs w hH hsz hcap
open Go.RowKit Go.Lib Go.Sort in
theorem Try.slices_Compact_int_empty(a:Option Addr)(cap:Nat)(w:World):
  Calls Try.prog 54 #[.slice a 0 cap] w fun e w'=>e= .returned (.slice a 0 cap)∧w'=w:=Any.slices_Compact_int_empty Try.laysNm220 a cap w
open Go.RowKit Go.Sort in
theorem Try.slices_Sort_int_none(p:Option Addr)(cap:Nat)(w:World):
  Calls Try.prog 39 #[.slice p 0 cap] w fun e w'=>e= .returned (.tuple #[])∧w'=w:=Any.slices_Sort_int_none Try.lays189 p cap w
end Go.Proofs
end
section
open Go.Proofs Go Go.Am Go.Op
namespace Go.Proofs.Ytdkidgkiplcggaa.d
section
set_option linter.unusedSectionVars false
def srt(l:List Int):List Int:=l.mergeSort fun x y=>decide (x≤y)
theorem a6d(l:List Int):(srt l).length=l.length:=List.length_mergeSort l
theorem b7p:b3i Try.prog K5 srt (fun _=>none) where
 has blk off cap zs w hH hb hz hc:=Try.slices_Sort_int blk off cap zs w hH hb hz
 empty a cap w:=Try.slices_Sort_int_none a cap w
 len zs:=a6d zs
 outL zs m h:=by cases h
theorem a1G(l:List Int):(Lib.compact l).length≤l.length:=by
 unfold Lib.compact Lib.compactUpTo
 rw[List.length_map]
 exact Nat.le_trans (List.length_filter_le _ _) (by simp)
theorem a9v:b3i Try.prog K8 (fun l=>Lib.compact l++List.replicate (l.length - (Lib.compact l).length) 0) (fun l=>some (Lib.compact l).length) where
 has blk off cap zs w hH hb hz hc:=Calls.mono (Try.slices_Compact_int blk off cap zs w hH (by omega) hc) fun e w' ⟨h1,q,h2⟩=>⟨h1,q, #[],by rw[Sort.grow_empty];exact h2⟩
 empty a cap w:=Try.slices_Compact_int_empty a cap w
 len zs:=by rw[List.length_append,List.length_replicate];have:=a1G zs;omega
 outL zs m h:=by cases h;exact a1G zs
theorem b5A{d:Array Int}:∀ {m:Nat},m≤d.size→(∀i j:Nat,i<j→j<d.size→d[i]! ≤d[j]!)→
  (Lib.compactUpTo d m).Pairwise (· < ·)∧(∀n,n∈Lib.compactUpTo d m↔ ∃j,j<m∧d[j]! =n)
 |0,_,_=>by
  have:Lib.compactUpTo d 0=[]:=rfl
  rw[this]
  exact⟨List.Pairwise.nil,fun n=>⟨fun h=>(by cases h),fun⟨j,h,_⟩=>absurd h (Nat.not_lt_zero j)⟩⟩
 |m+1,hm,hs=>by
  obtain⟨h1,h2⟩:=b5A (m:=m) (by omega) hs
  rw[Lib.compactUpTo_succ]
  by_cases hk:Lib.keeps d m=true
  ·rw[if_pos hk]
   have hk':m=0∨d[m]! ≠d[m - 1]! :=by unfold Lib.keeps at hk;exact of_decide_eq_true hk
   refine⟨List.pairwise_append.2 ⟨h1,List.pairwise_singleton _ _,fun a ha b hb=> ?_⟩,fun n=> ?_⟩
   ·rw[List.mem_singleton.1 hb]
    obtain⟨j,hj,rfl⟩:=(h2 a).1 ha
    have e1:d[j]! ≤d[m - 1]! :=by
     by_cases e:j=m - 1
     ·rw[e];exact Int.le_refl _
     ·exact hs j (m - 1) (by omega) (by omega)
    have e2:=hs (m - 1) m (by omega) (by omega)
    rcases hk' with hk'|hk'
    ·omega
    ·omega
   ·rw[List.mem_append,h2,List.mem_singleton]
    constructor
    ·rintro(⟨j,hj,e⟩|rfl)
     ·exact⟨j,by omega,e⟩
     ·exact⟨m,by omega,rfl⟩
    ·rintro⟨j,hj,e⟩
     by_cases hjm:j=m
     ·subst hjm;exact .inr e.symm
     ·exact .inl ⟨j,by omega,e⟩
  ·rw[if_neg hk,List.append_nil]
   have hk':¬(m=0∨d[m]! ≠d[m - 1]!):=fun h=>hk (by unfold Lib.keeps;exact decide_eq_true h)
   refine⟨h1,fun n=> ?_⟩
   rw[h2]
   constructor
   ·rintro⟨j,hj,e⟩;exact⟨j,by omega,e⟩
   ·rintro⟨j,hj,e⟩
    by_cases hjm:j=m
    ·subst hjm
     have h0:¬j=0:=fun h=>hk' (.inl h)
     have h3:d[j]! =d[j - 1]! :=Classical.not_not.1 fun h=>hk' (.inr h)
     exact⟨j - 1,by omega,by rw[←h3];exact e⟩
    ·exact⟨j,by omega,e⟩
def X8(l:List Int):List Int:=Lib.compact (srt l)
theorem D4(l:List Int):(X8 l).Pairwise (· < ·)∧∀n,n∈X8 l↔n∈l:=by
 have hp:(srt l).Pairwise fun a b=>a≤b:=by
  have:=List.pairwise_mergeSort (le:=fun x y:Int=>decide (x≤y)) (fun a b c h1 h2=>by simp at*;omega) (fun a b=>by simp;omega) l
  exact this.imp fun h=>by simpa using h
 have hget:∀j,j<(srt l).length→(srt l).toArray[j]! =(srt l)[j]! :=fun j hj=>by simp
 obtain⟨h1,h2⟩:=b5A (d:=(srt l).toArray) (m:=(srt l).length) (by simp) (fun i j hij hj=>by
  have hj':j<(srt l).length:=by simpa using hj
  have:=List.pairwise_iff_getElem.1 hp i j (by omega) hj' hij
  rw[getElem!_pos _ i (by simpa using(by omega:i<(srt l).length)),getElem!_pos _ j (by simpa using hj')]
  simpa using this)
 refine⟨h1,fun n=> ?_⟩
 have hm:n∈X8 l↔ ∃j,j<(srt l).length∧(srt l).toArray[j]! =n:=h2 n
 rw[hm, ←List.mem_mergeSort (le:=fun x y:Int=>decide (x≤y)) (l:=l),List.mem_iff_getElem]
 constructor
 ·rintro⟨j,hj,e⟩
  refine⟨j,hj, ?_⟩
  rw[getElem!_pos _ j (by rw[List.size_toArray];exact hj)]at e
  have e':(srt l)[j]=n:=by simpa using e
  exact e'
 ·rintro⟨j,hj,e⟩
  refine⟨j,hj, ?_⟩
  rw[getElem!_pos _ j (by rw[List.size_toArray];exact hj)]
  have e':(srt l)[j]'hj=n:=e
  rw[List.getElem_toArray]
  exact e'
theorem O1{a b:List Int}(ha:a.Pairwise (· < ·))(hb:b.Pairwise (· < ·))(h:∀n,n∈a↔n∈b):a=b:=by
 refine List.Perm.eq_of_pairwise (le:=(· < ·)) (fun x y _ _ h1 h2=>by omega) ha hb ?_
 refine(List.perm_ext_iff_of_nodup ?_ ?_).2 h
 ·exact ha.imp fun h=>by omega
 ·exact hb.imp fun h=>by omega
section
variable{E:g8}{w0:j0}
theorem a1j(l:List Int):J1 l=iC l:=by simp[J1,iC,J5]
theorem Own.sort{S0 S:b5}{d:D}{l:List Int}(h:Own S0 d l S)(h0:l≠[])(hl:l.length<2^60){Q:D→b5→Prop}(hQ:∀v S',Own S0 d (srt l) S'→Q v S'):p8 Try.prog E w0 K5 [d] S Q:=by
 rcases h with ⟨_,e,_⟩|⟨k,acs,ex,hk,rfl,rfl⟩
 ·exact absurd e h0
 ·refine b7p.fnD (zs:=l) (b5.set_same _ _ _) rfl (by rw[m8];omega) (by rw[List.drop_zero,List.take_of_length_le (by rw[m8];exact Nat.le_refl _),a1j]) (by omega) fun acs'=> ?_
  rw[b5.set_set]
  refine hQ _ _ (.inr ⟨k,acs',ex,hk,by rw[a6d], ?_⟩)
  rw[List.take_zero,List.nil_append,Nat.zero_add,List.drop_of_length_le (by rw[m8];exact Nat.le_refl _),List.append_nil,a1j]
theorem Own.compact{S0 S:b5}{d:D}{l:List Int}(h:Own S0 d l S)(h0:l≠[])(hl:l.length<2^60){Q:D→b5→Prop}(hQ:b9 E Q (iD (Lib.compact l)) S0):p8 Try.prog E w0 K8 [d] S fun v S'=>b9 E Q v S':=by
 rcases h with ⟨_,e,_⟩|⟨k,acs,ex,hk,rfl,rfl⟩
 ·exact absurd e h0
 ·refine a9v.fnD (zs:=l) (b5.set_same _ _ _) rfl (by rw[m8];omega) (by rw[List.drop_zero,List.take_of_length_le (by rw[m8];exact Nat.le_refl _),a1j]) (by omega) fun acs'=> ?_
  have hle:=a1G l
  refine b9.freeze (b5.set_same _ _ _) rfl (by simp[J1]<;>omega) hle ?_
  rw[b5.set_set,b5.erase_set _ _ _ hk]
  have:D.lst (((List.take 0 (iC l)++(J1 (Lib.compact l++List.replicate (l.length - (Lib.compact l).length) 0)++List.drop (0+l.length) (iC l))).drop 0).take (Lib.compact l).length) 1=iD (Lib.compact l):=by
   rw[List.take_zero,List.nil_append,List.drop_zero,a1j,a0S,List.append_assoc,List.take_append_of_le_length (by rw[m8];exact Nat.le_refl _),List.take_of_length_le (by rw[m8];exact Nat.le_refl _)]
   rfl
  rw[this]
  exact hQ
theorem Own.under{S0 S:b5}{d:D}{l:List Int}(h:Own S0 d l S){k:Nat}{o:A2}(hk:S k=none):Own (S0.set k o) d l (S.set k o):=by
 rcases h with ⟨rfl,rfl,rfl⟩|⟨j,acs,ex,h,rfl,rfl⟩
 ·exact .inl ⟨rfl,rfl,rfl⟩
 ·obtain⟨hne,hk0⟩:=b5.fresh hk
  refine .inr ⟨j,acs,ex, ?_,rfl,b5.set_comm _ (Ne.symm hne) _ _⟩
  rw[b5.set_ne _ _ _ (Ne.symm hne)];exact h
theorem Own.push{S0 S:b5}{d:D}{l news:List Int}(h:Own S0 d l S){v:D}(hv:rowsS S 1 v=some (iC news))(hn:news≠[])(hb:l.length+news.length<2^40){K:D→b5→Prop}(hK:∀d' S',Own S0 d' (l++news) S'→K d' S'):u4 S 1 8 d v K:=by
 have hn':iC news≠[]:=fun e=>hn (List.length_eq_zero_iff.1 (by rw[←m8,e];rfl))
 simp only[u4,hv]
 rcases h with ⟨rfl,rfl,rfl⟩|⟨k,acs,ex,hk,rfl,rfl⟩
 ·simp only[a0h]
  rw[if_neg hn']
  refine⟨by rw[m8];omega, .inr fun k acs hk=>hK _ _ (.inr ⟨k,acs,false,hk,by simp,by simp⟩)⟩
 ·simp only[a0h]
  rw[if_neg hn',b5.set_same]
  simp only
  rw[if_pos ⟨by trivial,by trivial,by rw[m8];omega⟩]
  refine⟨by rw[m8];omega, .inr fun k' acs' hk'=> ?_⟩
  rw[b5.erase_set _ _ _ hk]at hk' ⊢
  refine hK _ _ (.inr ⟨k',acs',false,hk',by simp, ?_⟩)
  rw[List.drop_zero,List.take_of_length_le (by rw[m8];exact Nat.le_refl _),a0S]
theorem c2k(n:Int):X8 [n]=[n]:=O1 (D4 _).1 (List.pairwise_singleton _ _) (D4 [n]).2
def p4(y:In)(next:Int):List Int:=
 if y.op=51∨y.op=52 then[]else if y.op=46 then[y.a]else X8 (if y.op=47∨y.op=48 then[next,y.a]else if y.op=49 then y.b::y.arms.map (·.2) else[next])
theorem c8F{S:b5}{y:In}{K:D→b5→Prop}(h:∀k a,S k=none→K (.ptr k 0) (S.set k ⟨4,[N7 y],a⟩)):b4 (s5 (inD y)) fun cs=>o6 S cs K:=by
 rw[inD,clA,oD]
 intro k a n
 exact h k a n
theorem a8O{S:b5}{a:Int}{K:D→b5→Prop}(h:∀d S',Own S d [a] S'→K d S'):C7 S 1 (o7 1 (List.replicate 1 [(.int .i64 0)]) [(0, .int .i64 a)]) 1 K:=c4Y (l:=[a]) h
end
end
section
set_option linter.unusedSectionVars false
def c3h(S:b5)(d:D)(l:List Int)(S':b5):Prop:=(d= .nilSlc∧l=[]∧S'=S)∨∃k acs,S k=none∧d= .tip k (iC l) 1∧S'=S.set k (c6Q acs)
theorem c3h.le{S S':b5}{d:D}{l:List Int}(h:c3h S d l S'):S.le S':=by
 rcases h with ⟨_,_,rfl⟩|⟨k,acs,h,_,rfl⟩
 ·exact b5.le_refl _
 ·exact b5.le_new h
theorem c3h.wk{S S':b5}{d:D}{l:List Int}(h:c3h S d l S'):Wk d (iD l):=by
 rcases h with ⟨rfl,rfl,_⟩|⟨k,acs,_,rfl,_⟩
 ·exact Wk.nil 1
 ·exact Wk.tip _ _ _
theorem c3h.push{S S' T:b5}{d:D}{l:List Int}(h:c3h S d l S')(hle:S'.le T){n:Int}{v:D}(hv:rowsS T 1 v=some (iC [n]))(hb:l.length<2^40){K:D→b5→Prop}(hK:∀T',S.le T'→(∀j o,S' j≠some o→T j=some o→T' j=some o)→K (iD (l++[n])) T'):u4 T 1 8 d v K:=by
 simp only[u4,hv]
 rcases h with ⟨rfl,rfl,rfl⟩|⟨k,acs,hk,rfl,rfl⟩
 ·simp only[a0h]
  rw[if_neg (by simp[iC,J5])]
  refine⟨by simp[iC,J5], .inl ?_⟩
  rw[List.take_of_length_le (Nat.le_refl _)]
  exact hK T hle fun j o _ h=>h
 ·refine c7s (hle _ _ (b5.set_same _ _ _)) (by simp[iC,J5]) (by rw[m8,m8];simp;omega) ?_
  rw[←a0S]
  refine hK _ (b5.le_erase (b5.le_trans (b5.le_new hk) hle) hk) fun j o h1 h2=> ?_
  rw[b5.erase_ne]
  ·exact h2
  ·rintro rfl
   have:=hle _ _ (b5.set_same S j (c6Q acs))
   rw[h2]at this
   cases this
   exact h1 (b5.set_same _ _ _)
section
variable{E:g8}{w0:j0}
def c6P(S:b5)(r:Except Int (List (Dat×Nat)))(v:D)(T:b5):Prop:=match r with
 | .ok l=>∃u,v= .tup [H6 (t8 l),u, .int .i64 0]∧c3h S u (C5 l) T
 | .error e=>v= .tup [H6 [],iD [], .int .i64 e]∧T=S
theorem c1i{bs:List Int}(hb:∀b∈bs,J0 b)(hl:bs.length<2^30){S:b5}:p8 Try.prog E w0 a8y [bD bs] S (c6P S (a5v bs)):=
 (c1W hb hl).fin fun v T h=>by
  cases hr:a5v bs with
  |error e=>
   rw[hr]at h
   obtain⟨rfl,rfl⟩:=h
   exact b9.weak (d':= .tup [H6 [],iD [], .int .i64 e]) (Wk.tup ⟨Wk.nil 4,Wk.nil 1,Wk.refl _,trivial⟩) (b9.here ⟨rfl,rfl⟩)
  |ok l=>
   rw[hr]at h
   obtain⟨t,u,rfl,h1,h2,h3,h4⟩:=h
   refine b9.grA (pre:=[]) h3 h1 fun T' hle he=> ?_
   have h4':O4 S (ob t++[]) u (iC (C5 l)) 1 T':=h4.apart (fun j hj=>he j fun hm=>h3.ob_av j hm (List.mem_append_left _ hj)) fun j hj hm=>h4.ob_av j hj hm
   rcases h4' with ⟨rfl,e⟩|⟨k,acs,h0,_,rfl,hk⟩
   ·refine b9.less hle (b9.here ⟨_,rfl, .inl ⟨rfl, ?_,rfl⟩⟩)
    cases hp:C5 l with
    |nil=>rfl
    |cons a b=>rw[hp]at e;simp[iC,J5]at e
   ·refine b9.tipT (lp:=[.lst ((t8 l).map N7) 4]) (acs:=[]) hk rfl (by simp) (Nat.le_refl _) ?_
    rw[List.drop_zero]
    refine b9.less (S':=S.set k (c6Q [])) (fun j o e=> ?_) (b9.here ⟨_,rfl, .inr ⟨k,[],h0,rfl,rfl⟩⟩)
    unfold b5.set at e ⊢
    split at e
    ·rename_i hj;rw[if_pos hj];exact e
    ·rename_i hj;rw[if_neg hj];exact hle _ _ e
end
end
section
set_option linter.unusedSectionVars false
def Sl(S0:b5)(av:List Nat)(d:D)(l:List Int)(T:b5):Prop:=
 (d= .nilSlc∧l=[])∨∃k cap ex rows acs,S0 k=none∧k ∉ av∧d= .raw k 0 l.length cap ex 1∧T k=some ⟨1,rows,acs⟩∧rows.take l.length=iC l∧l.length≤cap
theorem Sl.cells{S0 T:b5}{av:List Nat}{d:D}{l:List Int}(h:Sl S0 av d l T):s5 d=some [d]:=by
 rcases h with ⟨rfl,_⟩|⟨k,cap,ex,rows,acs,_,_,rfl,_⟩<;>rfl
theorem Sl.len{S0 T:b5}{av:List Nat}{d:D}{l:List Int}(h:Sl S0 av d l T):j9 d=some (.int .i64 (l.length:Int)):=by
 rcases h with ⟨rfl,rfl⟩|⟨k,cap,ex,rows,acs,_,_,rfl,_⟩<;>rfl
theorem a8Q{rows:List (List D)}{l:List Int}(h:rows.take l.length=iC l):l.length≤rows.length:=by
 have:=congrArg List.length h
 rw[m8,List.length_take]at this
 omega
theorem c4U{rows:List (List D)}{l:List Int}(h:rows.take l.length=iC l){i:Nat}{v:Int}(hv:l[i]? =some v):rows[i]? =some [.int .i64 v]:=by
 have hi:=(List.getElem?_eq_some_iff.1 hv).1
 have:=c6C hv
 rw[←h,List.getElem?_take,if_pos hi]at this
 exact this
theorem Sl.of{S0 T T':b5}{av:List Nat}{d:D}{l:List Int}(h:Sl S0 av d l T)(e:∀j∈ob d,T' j=T j):Sl S0 av d l T':=by
 rcases h with h|⟨k,cap,ex,rows,acs,h0,h1,rfl,h2,h3⟩
 ·exact .inl h
 ·exact .inr ⟨k,cap,ex,rows,acs,h0,h1,rfl,by rw[e k (by simp[ob])];exact h2,h3⟩
theorem Sl.ob_none{S0 T:b5}{av:List Nat}{d:D}{l:List Int}(h:Sl S0 av d l T):∀j∈ob d,S0 j=none∧j ∉ av:=by
 rcases h with ⟨rfl,_⟩|⟨k,cap,ex,rows,acs,h0,h1,rfl,_⟩
 ·simp[ob]
 ·simpa [ob]using⟨h0,h1⟩
theorem Sl.ob_some{S0 T:b5}{av:List Nat}{d:D}{l:List Int}(h:Sl S0 av d l T):∀j∈ob d,T j≠none:=by
 rcases h with ⟨rfl,_⟩|⟨k,cap,ex,rows,acs,h0,h1,rfl,h2,_⟩
 ·simp[ob]
 ·simp[ob,h2]
theorem Sl.rd{S0 T:b5}{av:List Nat}{d:D}{l:List Int}(h:Sl S0 av d l T):RdI T d l:=by
 refine⟨h.len,fun i v hv=> ?_⟩
 rcases h with ⟨rfl,rfl⟩|⟨k,cap,ex,rows,acs,h0,h1,rfl,h2,h3,h4⟩
 ·simp at hv
 ·have hi:=(List.getElem?_eq_some_iff.1 hv).1
  refine⟨_,c1l hi, ?_⟩
  rw[Nat.zero_add,ldR h2 (c4U h3 hv)]
  rfl
def StT(S0:b5)(k:Nat)(f:Fr)(lim:Int)(T:b5):Prop:=
 ∃l s,D3 T k 3 [l,s, .int .i64 lim]∧S0 k=none∧S0.le T∧Sl S0 (k::ob s) l f.locals T∧Sl S0 (k::ob l) s f.stack T
section
variable{E:g8}{w0:j0}
end
end
section
set_option linter.unusedSectionVars false
theorem Sl.push{S0 T:b5}{av:List Nat}{d:D}{l news:List Int}(h:Sl S0 av d l T)(hle:S0.le T)(hav:∀j∈av,T j≠none){v:D}(hv:rowsS T 1 v=some (iC news))(hb:l.length+news.length<2^40){K:D→b5→Prop}
  (hK:∀d' T',S0.le T'→(∀j∈av,T' j=T j)→Sl S0 av d' (l++news) T'→K d' T'):u4 T 1 8 d v K:=by
 simp only[u4,hv]
 by_cases hn:news=[]
 ·subst hn
  have hn':iC []=[]:=rfl
  have:K d T:=hK d T hle (fun _ _=>rfl) (by rw[List.append_nil];exact h)
  rcases h with ⟨rfl,rfl⟩|⟨k,cap,ex,rows,acs,h0,h1,rfl,h2,h3,h4⟩
  ·simp only[a0h];rw[if_pos hn'];exact this
  ·simp only[a0h];rw[if_pos hn'];exact this
 have hn':iC news≠[]:=fun e=>hn (List.length_eq_zero_iff.1 (by rw[←m8,e];rfl))
 rcases h with ⟨rfl,rfl⟩|⟨k,cap,ex,rows,acs,h0,h1,rfl,h2,h3,h4⟩
 ·simp only[a0h]
  rw[if_neg hn']
  refine⟨by rw[m8];simp at hb;omega, .inr fun k acs hk=>hK _ _ (b5.le_set hle (b5.none_of hle hk)) (fun j hj=>b5.set_ne _ _ _ fun e=>hav j hj (by rw[e];exact hk)) (.inr ⟨k,news.length,false,iC news,acs,b5.none_of hle hk,fun hm=>hav k hm hk,by simp,b5.set_same _ _ _, ?_,by simp⟩)⟩
  rw[List.nil_append,List.take_of_length_le (by rw[m8];exact Nat.le_refl _)]
 ·simp only[a0h]
  rw[if_neg hn',h2]
  simp only
  rw[if_pos ⟨by trivial,by trivial,by have:=a8Q h3;omega⟩]
  have hke:∀j∈av,(T.erase k) j=T j:=fun j hj=>b5.erase_ne _ _ fun e=>h1 (e▸hj)
  refine⟨by rw[m8];omega, .inr fun k' acs' hk'=> ?_⟩
  have hle':=b5.le_erase hle h0
  refine hK _ _ (b5.le_set hle' (b5.none_of hle' hk')) (fun j hj=> ?_) (.inr ⟨k',l.length+news.length,false,iC (l++news),acs',b5.none_of hle' hk',fun hm=>hav k' hm (by rw[←hke k' hm];exact hk'),by simp, ?_, ?_,by simp⟩)
  ·rw[b5.set_ne,hke j hj]
   rintro rfl
   exact hav j hj (by rw[←hke j hj];exact hk')
  ·rw[b5.set_same,List.drop_zero,h3,a0S]
  ·rw[List.take_of_length_le (by rw[m8];exact Nat.le_refl _)]
section
variable{E:g8}{w0:j0}
theorem StT.le{S0 T T':b5}{k:Nat}{f:Fr}{lim:Int}(h:StT S0 k f lim T)(hle:T.le T'):StT S0 k f lim T':=by
 obtain⟨l,s,h1,h2,h3,h4,h5⟩:=h
 have go:∀ {av d li},Sl S0 av d li T→Sl S0 av d li T':=fun h=>by
  rcases h with h|⟨k,cap,ex,rows,acs,z0,z1,z2,z3,z4⟩
  ·exact .inl h
  ·exact .inr ⟨k,cap,ex,rows,acs,z0,z1,z2,hle _ _ z3,z4⟩
 exact⟨l,s,h1.le hle,h2,b5.le_trans h3 hle,go h4,go h5⟩
theorem c6J{S0 T:b5}{av:List Nat}{d:D}{l:List Int}(h:Sl S0 av d l T){i:Nat}(hi:i<l.length){n:Int}{K:D→b5→Prop}(hK:∀T',(∀j,j ∉ ob d→T' j=T j)→Sl S0 av d (l.set i n) T'→K b6 T'):∃p,j5 1 d (.int .i64 (i:Int))=some p∧j1 T 1 p (.int .i64 n) K:=by
 rcases h with ⟨rfl,rfl⟩|⟨k,cap,ex,rows,acs,h0,h1,rfl,h2,h3,h4⟩
 ·simp at hi
 ·refine⟨_,c1l hi, ?_⟩
  rw[Nat.zero_add]
  have hv:l[i]? =some l[i]:=List.getElem?_eq_getElem hi
  refine stR (ds:=[.int .i64 n]) (row:=[.int .i64 l[i]]) h2 (c4U h3 hv) (clI _ _) ⟨rfl,by decide,by simp⟩ fun acs'=> ?_
  have e:j4 [D.int .i64 l[i]] 0 [.int .i64 n]=[.int .i64 n]:=rfl
  rw[e]
  refine hK _ (fun j hj=>b5.set_ne _ _ _ (by simpa [ob]using hj)) (.inr ⟨k,cap,ex,rows.set i [.int .i64 n],acs',h0,h1,by rw[List.length_set],b5.set_same _ _ _, ?_,by rw[List.length_set];exact h4⟩)
  rw[List.length_set,List.take_set,h3]
  simp only[iC]
  rw[c7b, ←List.map_set]
end
end
end Go.Proofs.Ytdkidgkiplcggaa.d
end
