/-
  BlocksCutsSaid: part Pbc of its proof.
-/
import Derived.Shelf.SlIterI.Nil
import Derived.Test.YtdkidgkiplcggaaProg
import Derived.Test.YtdkidgkiplcggaaPbb
import Derived.Test.YtdkidgkiplcggaaPax
import Derived.Test.YtdkidgkiplcggaaPaw
import Derived.Test.YtdkidgkiplcggaaPba
import Derived.Test.YtdkidgkiplcggaaRows
import Derived.Test.YtdkidgkiplcggaaPar
import Derived.KernelRfl
set_option linter.unusedVariables false
set_option linter.unusedSimpArgs false
set_option maxRecDepth 100000
section
namespace Go.Proofs
open Go.Shelf
def Try.keysM_ren:Go.Shelf.Ren:=⟨fun|7=>42|10=>59|n=>n,fun|23=>73|26=>3|3=>3|28=>80|0=>0|27=>79|33=>99|4=>4|n=>n,fun|n=>n⟩
theorem Try.keysM:Go.Proofs.SlLaysZI.n7 Try.prog Try.keysM_ren:= {
 mixed:=by kernel_rfl
 f7:=⟨Try.f42.name,by decide,Try.func42.trans (congrArg some (by kernel_rfl))⟩
 f10:=⟨Try.f59.name,by decide,Try.func59.trans (congrArg some (by kernel_rfl))⟩
 t0:=Try.underlying0
 a0:=Try.isAgg0
 z0:=Try.sizeOf0
 v0:=Try.zeroValue0
 t4:=Try.underlying4
 a4:=Try.isAgg4
 z4:=Try.sizeOf4
 v4:=Try.zeroValue4
 t23:=Try.underlying73
 a23:=Try.isAgg73
 z23:=Try.sizeOf73
 v23:=Try.zeroValue73
 t26:=Try.underlying3
 a26:=Try.isAgg3
 z26:=Try.sizeOf3
 v26:=Try.zeroValue3
 t27:=Try.underlying79
 a27:=Try.isAgg79
 z27:=Try.sizeOf79
 v27:=Try.zeroValue79
 t28:=Try.underlying80
 a28:=Try.isAgg80
 z28:=Try.sizeOf80
 v28:=Try.zeroValue80
 t33:=Try.underlying99
 a33:=Try.isAgg99
 z33:=Try.sizeOf99
 v33:=Try.zeroValue99 }
def Try.sortedM_ren:Go.Shelf.Ren:=⟨fun|6=>41|8=>58|9=>39|11=>86|13=>56|12=>55|23=>84|24=>85|14=>76|15=>77|16=>78|17=>79|18=>80|19=>81|20=>66|21=>82|22=>83|25=>108|26=>109|27=>110|28=>111|29=>112|30=>92|31=>128|n=>n,fun|26=>3|28=>80|24=>31|0=>0|3=>3|37=>97|48=>145|50=>147|4=>4|40=>139|39=>138|45=>77|5=>5|9=>9|51=>167|55=>171|57=>191|58=>192|33=>99|n=>n,fun|n=>n⟩
theorem Try.sortedM:Go.Proofs.SlLaysZI.n6 Try.prog Try.sortedM_ren:= {
 mixed:=by kernel_rfl
 f6:=⟨Try.f41.name,by decide,Try.func41.trans (congrArg some (by kernel_rfl))⟩
 f8:=⟨Try.f58.name,by decide,Try.func58.trans (congrArg some (by kernel_rfl))⟩
 f11:=⟨Try.f86.name,by decide,Try.func86.trans (congrArg some (by kernel_rfl))⟩
 t0:=Try.underlying0
 a0:=Try.isAgg0
 z0:=Try.sizeOf0
 v0:=Try.zeroValue0
 t24:=Try.underlying31
 a24:=Try.isAgg31
 z24:=Try.sizeOf31
 v24:=Try.zeroValue31
 t26:=Try.underlying3
 a26:=Try.isAgg3
 z26:=Try.sizeOf3
 v26:=Try.zeroValue3
 t28:=Try.underlying80
 a28:=Try.isAgg80
 z28:=Try.sizeOf80
 v28:=Try.zeroValue80
 i26:=by kernel_rfl }
end Go.Proofs
end
section
open Go.Proofs Go Go.Am Go.Op
namespace Go.Proofs.Ytdkidgkiplcggaa.d
section
open Go.RowKit Go.Maps Go.Sort Go.Shelf
open Go.WideElems (Fit rg)
theorem c9B(m:Nat):AnyZI.SortsIn Try.prog Try.sortedM_ren Fence.wide m:=
 ⟨fun blk off cap ss W hH hblk hsz=>callsIn_wide.2 (Try.slices_Sort_int blk off cap ss W hH hblk hsz),
  fun p cap W=>callsIn_wide.2 (Try.slices_Sort_int_none p cap W)⟩
def c2t:Value→Option (DataW Nat×List MemPlace):=fun _=>some (.nil,[])
theorem b4b{x:Lit×DataW Nat}:∀l:List (Lit×DataW Nat),(DataW.insert x l).Perm (x::l)
 | []=>by simp[DataW.insert]
 |y::r=>by
  unfold DataW.insert
  split
  ·exact List.Perm.refl _
  ·exact((b4b r).cons y).trans (List.Perm.swap x y r)
theorem b6c:∀l:List (Lit×DataW Nat),(l.foldr DataW.insert []).Perm l
 | []=>List.Perm.refl _
 |x::l=>(b4b _).trans ((b6c l).cons x)
theorem c2J{K:TypeId}(hK:Try.prog.underlying K=some (.int .i64)):∀ {es:List MapEntry} {ns:List Int},es.map (·.key)=ns.map (Value.int .i64)→(∀n∈ns, -(2^63)≤n∧n<2^63)→
  (∀x∈es,∃y,Go.WideElems.rd Try.prog K c2t x=some y)∧(es.map (rg Try.prog K c2t)).map (fun p=>Go.intOf p.1)=ns
 | [],ns,h,_=>by
  cases ns with
  |nil=>exact⟨fun x hx=>(by cases hx),rfl⟩
  |cons n ns=>cases h
 |e::es,ns,h,hI=>by
  cases ns with
  |nil=>cases h
  |cons n ns=>
   simp only[List.map_cons,List.cons.injEq]at h
   obtain⟨h1,h2⟩:=h
   obtain⟨i1,i2⟩:=c2J hK h2 fun m hm=>hI m (List.mem_cons_of_mem _ hm)
   obtain⟨b1,b2⟩:=hI n List.mem_cons_self
   have hw:(Lit.int .i64 n).wf=true:=by
    simp only[Lit.wf,IntKind.min,IntKind.max,IntKind.bits,IntKind.signed,Bool.and_eq_true,decide_eq_true_eq]
    constructor<;>simp<;>omega
   have hr:Go.WideElems.rd Try.prog K c2t e=some (.int .i64 n, .nil):=by
    unfold Go.WideElems.rd
    rw[h1,keyOf_int_mk hK hw]
    rfl
   refine⟨fun x hx=> ?_, ?_⟩
   ·rcases List.mem_cons.1 hx with rfl|hx
    ·exact⟨_,hr⟩
    ·exact i1 x hx
   ·show Go.intOf (rg Try.prog K c2t e).1::_=_
    rw[Go.WideElems.rg_of hr,i2]
    rfl
theorem c2v:b8w Try.prog a3Y a9g:=by
 intro b es clock ns w hb hk hn hst hcl hI hl
 have hK:=Try.underlying3
 obtain⟨r1,r2⟩:=c2J hK hk hI
 have hsz:es.size=ns.length:=by
  have:=congrArg List.length hk
  simpa using this
 have hnd:(es.toList.map (·.key)).Nodup:=by
  rw[hk]
  exact hn.map (Value.int .i64) fun a b h h'=>h (by injection h')
 let D0:DataW Nat:= .map ((es.toList.map (rg Try.prog 3 c2t)).foldr DataW.insert [])
 have hperm:=b6c (es.toList.map (rg Try.prog 3 c2t))
 have hown:w.ownsMap Try.prog 3 c2t b es.size D0:=⟨es,clock,hb,⟨by rw[hsz];unfold maxLen;omega,⟨hcl,hst,hnd⟩,r1⟩,Nat.le_refl _,rfl⟩
 have hms:Maps.size D0=ns.length:=by
  show(List.foldr DataW.insert [] _).length=_
  rw[hperm.length_eq,List.length_map,Array.length_toList,hsz]
 have hmk:(intKeys D0).Perm ns:=by
  have:(intKeys D0)=(List.foldr DataW.insert [] (es.toList.map (rg Try.prog 3 c2t))).map fun p=>Go.intOf p.1:=rfl
  rw[this, ←r2]
  exact hperm.map _
 have hbl:=hown.lt
 have cK:CallsIn Fence.wide 5 Try.prog 42 #[.map (some b)] w fun e w'=>e= .returned (.func (.func 59) #[] #[.pointer (some ⟨w.heap.size,0,none⟩)])∧w'=w.alloc (.cells #[.map (some b)] (Try.keysM_ren.t 23)):=
  AnyZI.keys_in Try.keysM Fence.wide 5 trivial rfl (some b) w
 refine Calls.mono (callsIn_wide.1 cK) ?_
 rintro e w1 ⟨rfl,rfl⟩
 refine⟨_,_,rfl,rfl, ?_⟩
 have hseq:SeqGives Fence.wide 2 Try.prog 59 #[.pointer (some ⟨w.heap.size,0,none⟩)] encZ (fun ss=>ss.Perm (intKeys D0)) (Maps.size D0) (w.alloc (.cells #[.map (some b)] (Try.keysM_ren.t 23))):=
  AnyZI.keys_gives (ρ:=Try.keysM_ren) { Try.keysM with } Fence.wide _ trivial rfl (by omega) w.heap.size b es.size D0 _ (by simp) (by simp) (by
   obtain⟨es,clock,hb,Ft,hs,hD⟩:=hown
   exact⟨es,clock,(RowKit.Below.heap_alloc _ _ b hbl).trans hb,Ft,hs,hD⟩)
 have cS:=AnyZI.sorted_in Try.sortedM Fence.wide 5 trivial trivial trivial trivial rfl (by omega) (c9B _) (enters_of Try.func39 (by kernel_rfl) rfl) 59 #[.pointer (some ⟨w.heap.size,0,none⟩)] trivial (enters_of Try.func59 (by kernel_rfl) rfl) _ _
  (by rw[hms];unfold maxLen;omega) (by rw[hms];omega) _ hseq
 refine Calls.mono (callsIn_wide.1 cS) ?_
 rintro e w2 ⟨v,ss,rfl,hp,hrow,hnil,hbe⟩
 exact⟨v,ss,_,rfl,hp.trans hmk,hrow,hnil,hbe⟩
end
section
set_option linter.unusedSectionVars false
theorem c0w{l:List L9}{n:Int}(h:a9m l n):n∈l.map (·.at'):=by
 cases h with
 |base hb=>exact List.mem_map.2 ⟨_,List.mem_of_getElem? hb,rfl⟩
 |step _ _ _ _ hs=>
  obtain⟨i,hi⟩:=Option.isSome_iff_exists.1 hs
  obtain⟨c,hc,e⟩:=a2S hi
  exact List.mem_map.2 ⟨c,List.mem_of_getElem? hc,e⟩
section
variable{E:g8}{w0:j0}
noncomputable def b1r:Array Oper:=match L0 with
 | .seq (.region _ ops _) _=>ops
 |_=> #[]
def c8A(o:Oper):Array TypeId:=match o.op with
 | .call c=>c.argTypes
 |_=> #[]
theorem c9f:L0= .seq (.region 22 b1r false) .ret:=by kernel_rfl
theorem c7Y{k:Nat}{ts:List (Int×Int×Nat)}{S:b5}{Q:D→b5→Prop}(hm:N6 S k ts)(hI:∀n∈ts.map (·.1),I64 n)(hl:ts.length<2^38)(hQ:∀d S2,O4 S [] d (iC (srt (ts.map (·.1)))) 1 S2→S.le S2→Q d S2):V6 E w0 Q (.mp k) S:=by
 unfold V6
 rw[c9f]
 refine c4d c2v (by kernel_rfl) (by kernel_rfl) (o0:=b1r[0]!) (o1:=b1r[1]!) (o2:=b1r[2]!) (l:=[b1r[3]!]) (by kernel_rfl) (x:=5) (t0:=76) (t1:=77) (t2:=78) (ty1:=c8A b1r[1]!) (ty2:=c8A b1r[2]!) (by kernel_rfl) (by kernel_rfl) (by kernel_rfl) (by kernel_rfl) (by kernel_rfl) (by kernel_rfl) (by kernel_rfl) (by kernel_rfl) (by kernel_rfl) (by rw[j2];decide) (by rw[j2];decide) (k:=k) (ts:=ts) rfl hm (fun t ht=>by have:=hI t.1 (List.mem_map.2 ⟨t,ht,rfl⟩);unfold I64 at this;constructor<;>omega) hl ?_
 intro ss d S2 hp hg hle
 have e:ss.mergeSort (fun x y=>decide (x≤y))=srt (ts.map (·.1)):=mergeSort_of_perm_i hp
 rw[e,a1j]at hg
 have h:=hQ d S2 hg hle
 show b4D Try.prog (p8 Try.prog E w0) (a8l E w0) b1r [b1r[3]!] _ S2 _
 exact Eq.mpr (by kernel_rfl) h
theorem b2u{l:List L9}(hat:∀b∈l,I64 b.at')(hl:l.length<2^37)(hW:wgt (fun _=>true) l<2^37)(hnx:∀b∈l,b.next.length<2^37){S:b5}:p8 Try.prog E w0 N8 [I3 l] S fun d S'=>S.le S'∧∃r,O4 S [] d (iC r) 1 S'∧r.Pairwise (· < ·)∧∀n,n∈r↔a9m l n:=by
 refine b1g ?_
 unfold a7y
 refine N6.new fun k S1 hk hm hs1=> ?_
 have l1:S.le S1:=fun j o hj=>by rw[hs1 j (fun e=>by rw[e,hk]at hj;cases hj)];exact hj
 rw[a2X,oD,a0M,oD,i6 (by omega) (by omega)]
 refine d1d (by omega) hm hk l1 fun ts S2 hm2 ha l2=> ?_
 refine N6.new fun k2 S3 hk2 hm3 hs3=> ?_
 have hkk:k≠k2:=fun e=>hm2.there (by rw[e];exact hk2)
 have hk20:S k2=none:=b5.none_of l2 hk2
 have l3:S.le S3:=fun j o hj=>by rw[hs3 j (fun e=>by rw[e,hk20]at hj;cases hj)];exact l2 _ _ hj
 have hm2:=hm2.of (hs3 k hkk)
 have fin:∀ {x6:D} {todo:List Int} {T:b5},Sl S [k,k2] x6 todo T→todo.length≤1→S3.le T→b7k l todo []→G5 E w0 (b9 E fun d S'=>S.le S'∧∃r,O4 S [] d (iC r) 1 S'∧r.Pairwise (· < ·)∧∀n,n∈r↔a9m l n) (I3 l) (.mp k) (.mp k2) x6 T:=by
  intro x6 todo T ht htl hle hI
  refine a8d ?_
  unfold a4D
  refine d1h hl hW hnx ha (hm2.of (c4u hle hm2.there)) (hm3.of (c4u hle hm3.there)) hk hk20 hkk ht htl (b5.le_trans l3 hle) hI fun ts2 S' hmm hks hle'=> ?_
  have hlen:ts2.length≤l.length:=by
   have:=a5E hmm.keys (l2:=l.map (·.at')) fun a ha=>c0w ((hks a).1 ha)
   simpa using this
  refine c7Y hmm (fun n hn=> ?_) (by omega) fun d S5 hg hle5=> ?_
  ·obtain⟨b,hb,rfl⟩:=List.mem_map.1 (c0w ((hks n).1 hn))
   exact hat b hb
  have hr:=c1H (hs:=ts2.map (·.1)) hmm.keys fun n=>Iff.rfl
  rw[hr]at hg
  refine b9.here ⟨b5.le_trans hle' hle5,X8 (ts2.map (·.1)), ?_,(D4 _).1,fun n=>by rw[(D4 _).2,hks]⟩
  rcases hg with h|⟨kk,acs,h0,h⟩
  ·exact .inl h
  ·exact .inr ⟨kk,acs,b5.none_of hle' h0,h⟩
 rw[a2X,oD,a8g,oD,V7]
 refine⟨fun hgt=> ?_,fun hng=> ?_⟩
 ·refine a8O fun d T hT=> ?_
  have hav:∀j∈[k,k2],S3 j≠none:=fun j hj=>by
   rcases List.mem_cons.1 hj with rfl|hj
   ·exact hm2.there
   ·rw[List.mem_singleton.1 hj];exact hm3.there
  refine fin (c0m hT l3 hav) (by simp) hT.le ⟨fun n x h=>by simp[prs]at h,fun t ht=> ?_,fun a i b n i' h=>by simp[prs]at h,fun b _=> .inr (by simp)⟩
  cases l with
  |nil=>simp at hgt
  |cons c l=>
   rw[List.mem_singleton.1 ht]
   exact⟨0,c,rfl,rfl,by rw[a2P,if_pos rfl], .base rfl⟩
 ·have:l=[]:=List.length_eq_zero_iff.1 (by omega)
  subst this
  exact fin (.inl ⟨rfl,rfl⟩) (by simp) (b5.le_refl _) ⟨fun n x h=>(by simp[prs]at h),fun t ht=>(by cases ht),fun a i b n i' h=>(by simp[prs]at h),fun b hb=>(by cases hb)⟩
theorem b5b{l:List L9}(hat:∀b∈l,I64 b.at')(hl:l.length<2^37)(hW:wgt (fun _=>true) l<2^37)(hnx:∀b∈l,b.next.length<2^37){S:b5}:p8 Try.prog E w0 N8 [I3 l] S fun d S'=>S'=S∧∃r,d=iD r∧r.Pairwise (· < ·)∧∀n,n∈r↔a9m l n:=
 (b2u hat hl hW hnx).fin fun d S' ⟨hle,r,hg,h1,h2⟩=>by
  rcases hg with ⟨rfl,e⟩|⟨kk,acs,h0,_,rfl,hS⟩
  ·have e0:r=[]:=by
    cases hh:r with
    |nil=>rfl
    |cons a b=>rw[hh]at e;simp[iC,J5]at e
   subst e0
   exact b9.less hle (b9.weak (d':=iD []) (Wk.nil 1) (b9.here ⟨rfl,[],rfl,h1,h2⟩))
  ·refine b9.freeze hS rfl (by simp) (Nat.le_refl _) ?_
   rw[List.drop_zero,List.take_of_length_le (Nat.le_refl _)]
   exact b9.less (b5.le_erase hle h0) (b9.here ⟨rfl,r,rfl,h1,h2⟩)
end
end
section
theorem Mo.Small.fits{m:Mo}{N:Nat}(hm:m.Ok)(h:m.Small N)(hN:N<2^30):m.Fits:=
 ⟨hm,by have:=h.types;omega,by have:=h.texts;omega,by have:=h.funcs;omega,fun t ht=>by have:=h.fields t ht;omega,fun r hr=>by have:=h.params r hr;omega⟩
end
section
set_option linter.unusedSectionVars false
def a4d(a:Int):List Int→List Int
 | []=>[a]
 |b::l=>if a<b then a::b::l else if a=b then b::l else b::a4d a l
theorem a0r(a:Int):∀(l:List Int) (n:Int),n∈a4d a l↔n=a∨n∈l
 | [],n=>by simp[a4d]
 |b::l,n=>by
  unfold a4d
  by_cases h1:a<b
  ·rw[if_pos h1];simp
  rw[if_neg h1]
  by_cases h2:a=b
  ·rw[if_pos h2];subst h2;simp
  rw[if_neg h2,List.mem_cons,a0r a l n,List.mem_cons]
  constructor
  ·rintro(h|h|h)
   ·exact .inr (.inl h)
   ·exact .inl h
   ·exact .inr (.inr h)
  ·rintro(h|h|h)
   ·exact .inr (.inl h)
   ·exact .inl h
   ·exact .inr (.inr h)
theorem L7(a:Int):∀(l:List Int),l.Pairwise (· < ·)→(a4d a l).Pairwise (· < ·)
 | [],_=>List.pairwise_singleton _ _
 |b::l,h=>by
  obtain⟨h0,h3⟩:=List.pairwise_cons.1 h
  unfold a4d
  by_cases h1:a<b
  ·rw[if_pos h1]
   refine List.pairwise_cons.2 ⟨fun n hn=> ?_,h⟩
   rcases List.mem_cons.1 hn with rfl|hn
   ·exact h1
   ·have:=h0 n hn;omega
  rw[if_neg h1]
  by_cases h2:a=b
  ·rw[if_pos h2];exact h
  rw[if_neg h2]
  refine List.pairwise_cons.2 ⟨fun n hn=> ?_,L7 a l h3⟩
  rcases(a0r a l n).1 hn with rfl|hn
  ·omega
  ·exact h0 n hn
def b9k(l:List Int):List Int:=l.foldr a4d []
theorem b7y:∀l:List Int,(b9k l).Pairwise (· < ·)∧∀n,n∈b9k l↔n∈l
 | []=>⟨List.Pairwise.nil,fun n=>Iff.rfl⟩
 |a::l=>by
  obtain⟨h1,h2⟩:=b7y l
  refine⟨L7 a _ h1,fun n=> ?_⟩
  show n∈a4d a (b9k l)↔_
  rw[a0r,h2,List.mem_cons]
theorem c6K(l:List Int):X8 l=b9k l:=O1 (D4 l).1 (b7y l).1 fun n=>by rw[(D4 l).2,(b7y l).2]
def b5F(y:In)(next:Int):List Int:=
 if y.op=51∨y.op=52 then[]else if y.op=46 then[y.a]else b9k (if y.op=47∨y.op=48 then[next,y.a]else if y.op=49 then y.b::y.arms.map (·.2) else[next])
theorem c4G(y:In)(next:Int):p4 y next=b5F y next:=by unfold p4 b5F;rw[c6K]
section
variable{E:g8}{w0:j0}
end
end
end Go.Proofs.Ytdkidgkiplcggaa.d
end
section
open Go.Proofs Go Go.Am
namespace Go.Proofs.Ytdkidgkiplcggaa.d
def b5p:List (Nat×List Nat):=[]
def b7c:List (Nat×List Nat):=[]
def b5C:List (Nat×Arr):=[]
def a9L(E:g8)(w0:j0)(Q:D→b5→Prop)(S:b5):Prop:=
 C7 S 1 (o7 1 (List.replicate 3 [(.int .u8 0)]) [(0,(.int .u8 52)),(1,(.int .u8 1)),(2,(.int .u8 51))]) 3 fun v0 S1=>
 p8 Try.prog E w0 O9 [v0] S1 fun v2 S3=>
 b4 (o5 v2 0) fun v4=>
 b4 (o5 v2 1) fun v5=>
 b4 (d5 .eql v5 (.int .i64 0)) fun v6=>
 b4 (d6 (b8 v6 true) (some v4)) fun v7=>
 b4 (d6 (b8 v6 true) (j9 v7)) fun v8=>
 b4 (d6 (b8 v6 true) (d5 .eql v8 (.int .i64 2))) fun v9=>
 b4 (y9 v6 v9 (.bool false)) fun v10=>
 b4 (d6 (b8 v10 true) (some v4)) fun v11=>
 b4 (d6 (b8 v10 true) (j5 3 v11 (.int .i64 0))) fun v12=>
 b4 (d6 (b8 v10 true) (p9 0 v12)) fun v13=>
 b4 (d6 (b8 v10 true) (d9 S3 v13)) fun v14=>
 b4 (d6 (b8 v10 true) (d5 .eql v14 (.int .i64 0))) fun v15=>
 b4 (y9 v10 v15 (.bool false)) fun v16=>
 b4 (d6 (b8 v16 true) (some v4)) fun v17=>
 b4 (d6 (b8 v16 true) (j5 3 v17 (.int .i64 0))) fun v18=>
 b4 (d6 (b8 v16 true) (p9 1 v18)) fun v19=>
 b4 (d6 (b8 v16 true) (d9 S3 v19)) fun v20=>
 b4 (d6 (b8 v16 true) (d5 .eql v20 (.int .i64 2))) fun v21=>
 b4 (y9 v16 v21 (.bool false)) fun v22=>
 b4 (d6 (b8 v22 true) (some v4)) fun v23=>
 b4 (d6 (b8 v22 true) (j5 3 v23 (.int .i64 1))) fun v24=>
 b4 (d6 (b8 v22 true) (p9 0 v24)) fun v25=>
 b4 (d6 (b8 v22 true) (d9 S3 v25)) fun v26=>
 b4 (d6 (b8 v22 true) (d5 .eql v26 (.int .i64 2))) fun v27=>
 b4 (y9 v22 v27 (.bool false)) fun v28=>
 b4 (d6 (b8 v28 true) (some v4)) fun v29=>
 b4 (d6 (b8 v28 true) (j5 3 v29 (.int .i64 1))) fun v30=>
 b4 (d6 (b8 v28 true) (p9 1 v30)) fun v31=>
 b4 (d6 (b8 v28 true) (d9 S3 v31)) fun v32=>
 b4 (d6 (b8 v28 true) (d5 .eql v32 (.int .i64 3))) fun v33=>
 b4 (y9 v28 v33 (.bool false)) fun v34=>
 b4 (d6 (b8 v34 true) (some v4)) fun v35=>
 b4 (d6 (b8 v34 true) (j5 3 v35 (.int .i64 0))) fun v36=>
 b4 (d6 (b8 v34 true) (p9 2 v36)) fun v37=>
 b4 (d6 (b8 v34 true) (d9 S3 v37)) fun v38=>
 b4 (d6 (b8 v34 true) (j9 v38)) fun v39=>
 b4 (d6 (b8 v34 true) (d5 .eql v39 (.int .i64 0))) fun v40=>
 b4 (y9 v34 v40 (.bool false)) fun v41=>
 b4 (d6 (b8 v41 true) (some v4)) fun v42=>
 a2B (b8 v41 true) (fun K=>p8 Try.prog E w0 N8 [v42] S3 K) S3 fun v43 S44=>
 a2B (b8 v41 true) (fun K=>C7 S44 1 (o7 1 (List.replicate 1 [(.int .i64 0)]) [(0,(.int .i64 0))]) 1 K) S44 fun v45 S46=>
 a2B (b8 v41 true) (fun K=>p8 Try.prog E w0 I8 [v43,v45] S46 K) S46 fun v47 S48=>
 b4 (y9 v41 v47 (.bool false)) fun v49=>
 Q v49 S48
theorem b2x{E:g8}{w0:j0}{Q:D→b5→Prop}{S:b5}(h:a9L E w0 (b9 E Q) S):p8 Try.prog E w0 a0i [] S Q:=
 j6 b5p b7c b5C (fn:=Try.f11) (c:=Try.f11.body.getD .skip) mixed Try.func11 (by kernel_rfl) (by kernel_rfl) h
def a4U:List (Nat×List Nat):=[(8,[0,1,5])]
def a4S:List (Nat×List Nat):=[]
def a5h:List (Nat×Arr):=[]
noncomputable def a3v:Code:=(i9 [1,1,0,1,0,0] (Try.f15.body.getD .skip))
def a3K(E:g8)(w0:j0)(Q:D→b5→Prop):j7→List D→b5→Prop:=
 (p5 0 (L4 Try.prog E w0 a4U a4S a5h (i9 [1,1,1] (Try.f15.body.getD .skip)) (F5 Try.prog Try.f15 Q)))
def a1r(E:g8)(w0:j0)(N0:D→D→D→b5→Prop)(Q:D→b5→Prop)(x0 x1 x5:D)(S:b5):Prop:=
 b4 (j9 x0) fun v3=>
 b4 (d5 .lss x5 v3) fun v4=>
 i5 v4
 (b4 (j5 3 x0 x5) fun v5=>
 b4 (p9 0 v5) fun v6=>
 b4 (d9 S v6) fun v7=>
 b4 (j5 3 x1 x5) fun v8=>
 b4 (p9 0 v8) fun v9=>
 b4 (d9 S v9) fun v10=>
 b4 (d5 .neq v7 v10) fun v11=>
 b4 (d6 (b8 v11 false) (some x0)) fun v12=>
 b4 (d6 (b8 v11 false) (some x5)) fun v13=>
 b4 (d6 (b8 v11 false) (j5 3 v12 v13)) fun v14=>
 b4 (d6 (b8 v11 false) (p9 1 v14)) fun v15=>
 b4 (d6 (b8 v11 false) (d9 S v15)) fun v16=>
 b4 (d6 (b8 v11 false) (some x1)) fun v17=>
 b4 (d6 (b8 v11 false) (some x5)) fun v18=>
 b4 (d6 (b8 v11 false) (j5 3 v17 v18)) fun v19=>
 b4 (d6 (b8 v11 false) (p9 1 v19)) fun v20=>
 b4 (d6 (b8 v11 false) (d9 S v20)) fun v21=>
 b4 (d6 (b8 v11 false) (d5 .neq v16 v21)) fun v22=>
 b4 (y9 v11 (.bool true) v22) fun v23=>
 b4 (d6 (b8 v23 false) (some x0)) fun v24=>
 b4 (d6 (b8 v23 false) (some x5)) fun v25=>
 b4 (d6 (b8 v23 false) (j5 3 v24 v25)) fun v26=>
 b4 (d6 (b8 v23 false) (p9 2 v26)) fun v27=>
 b4 (d6 (b8 v23 false) (d9 S v27)) fun v28=>
 b4 (d6 (b8 v23 false) (some x1)) fun v29=>
 b4 (d6 (b8 v23 false) (some x5)) fun v30=>
 b4 (d6 (b8 v23 false) (j5 3 v29 v30)) fun v31=>
 b4 (d6 (b8 v23 false) (p9 2 v31)) fun v32=>
 b4 (d6 (b8 v23 false) (d9 S v32)) fun v33=>
 a2B (b8 v23 false) (fun K=>p8 Try.prog E w0 I8 [v28,v33] S K) S fun v34 S35=>
 b4 (d6 (b8 v23 false) (unD .not v34)) fun v36=>
 b4 (y9 v23 (.bool true) v36) fun v37=>
 i5 v37
 (Q (.bool false) S35)
 (b4 (d5 .add x5 (.int .i64 1)) fun v38=>
 N0 x0 x1 v38 S35))
 (Q (.bool true) S)
theorem b1f{E:g8}{w0:j0}{N0:D→D→D→b5→Prop}{Q:D→b5→Prop}{x0 x1 x5:D}{S:b5}(h:a1r E w0 N0 Q x0 x1 x5 S):
  f9 Try.prog E w0 a3v (i7 55 [0,1,5] [x0,x1,x5]) S (A3 (fun T S=>N0 (T.getD 0 b6) (T.getD 1 b6) (T.getD 5 b6) S) (a3K E w0 Q)):=g9 a4U a4S a5h mixed (by kernel_rfl) h
theorem a4r{E:g8}{w0:j0}{Q:D→b5→Prop}(I:Nat→D→D→D→b5→Prop)
  (step:∀n x0 x1 x5 S,I n x0 x1 x5 S→a1r E w0 (fun x0 x1 x5 S=>∃m,m<n∧I m x0 x1 x5 S) Q x0 x1 x5 S)
  {n:Nat} {x0 x1 x5:D} {S:b5} (h:I n x0 x1 x5 S):f9 Try.prog E w0 (.loop a3v) (i7 55 [0,1,5] [x0,x1,x5]) S (a3K E w0 Q):=
 o4 (k:=55) (n:=n) (I:=fun n T S=>I n (T.getD 0 b6) (T.getD 1 b6) (T.getD 5 b6) S) (fun n T S hl hI=>q8 [0,1,5] hl (f9.mono (b1f (step n _ _ _ S hI)) fun ex T' S' _ hq=>by cases ex<;>exact hq)) (j2 ..) (Eq.mp (by kernel_rfl) h)
def a6p(E:g8)(w0:j0)(Q:D→b5→Prop)(a0 a1:D)(S:b5):Prop:=
 b4 (j9 a0) fun v0=>
 b4 (j9 a1) fun v1=>
 b4 (d5 .neq v0 v1) fun v2=>
 i5 v2
 (Q (.bool false) S)
 (f9 Try.prog E w0 (.loop a3v) (i7 55 [0,1,5] [a0,a1,(.int .i64 0)]) S (a3K E w0 Q))
theorem a6U{E:g8}{w0:j0}{Q:D→b5→Prop}{a0 a1:D}{S:b5}(h:a6p E w0 (b9 E Q) a0 a1 S):p8 Try.prog E w0 Y6 [a0,a1] S Q:=
 j6 a4U a4S a5h (fn:=Try.f15) (c:=Try.f15.body.getD .skip) mixed Try.func15 (by kernel_rfl) (by kernel_rfl) h
end Go.Proofs.Ytdkidgkiplcggaa.d
end
section
open Go.Proofs Go Go.Am Go.Op
namespace Go.Proofs.Ytdkidgkiplcggaa.d
section
set_option linter.unusedSectionVars false
def c4S(ys:List In)(ext:List Int)(i:Nat):List Int:=match ys[i]? with
 |some y=>if a0l y then b5F y (ext.getD (i+1) 0)++(if i+1<ys.length then[ext.getD (i+1) 0]else[]) else[]
 |none=>[]
theorem c9F(ys:List In)(ext:List Int)(i:Nat):b1x ys ext i=c4S ys ext i:=by
 unfold b1x c4S
 cases ys[i]? with
 |none=>rfl
 |some y=>simp only[c4G]
def c7x(ys:List In)(ext:List Int)(i:Nat)(st:List Int×List L9):List Int×List L9:=match ys[i]? with
 |some y=>if st.1.head? =some (ext.getD i 0) then(st.1.tail,st.2++[⟨ext.getD i 0,ext.getD (i+1) 0,b5F y (ext.getD (i+1) 0)⟩])
  else(st.1,a0D st.2 (ext.getD (i+1) 0) (b5F y (ext.getD (i+1) 0)))
 |none=>st
def c0H(ys:List In)(ext tops:List Int):Nat→List Int×List L9
 |0=>(tops,[])
 |n+1=>c7x ys ext n (c0H ys ext tops n)
theorem c9v(ys:List In)(ext:List Int)(i:Nat)(st:List Int×List L9):b7s ys ext i st=c7x ys ext i st:=by
 unfold b7s c7x
 cases ys[i]? with
 |none=>rfl
 |some y=>simp only[c4G]
theorem c4n(ys:List In)(ext tops:List Int):∀n,s6 ys ext tops n=c0H ys ext tops n
 |0=>rfl
 |n+1=>by rw[s6,c0H,c9v,c4n]
def c5d(code:List Int):List L9×Int:=match a5v code with
 | .error e=>([],e)
 | .ok L=>Z9 code.length (c0H (t8 L) (C5 L++[(code.length:Int)]) (b9k (0::(List.range (t8 L).length).flatMap (c4S (t8 L) (C5 L++[(code.length:Int)])))) (t8 L).length)
theorem c7r(code:List Int):z6 code=c5d code:=by
 unfold z6 c5d
 cases a5v code with
 |error e=>rfl
 |ok L=>
  show Z9 _ (s6 _ _ (X8 (l7 _ _ _)) _)=Z9 _ _
  rw[c4n,c6K]
  unfold l7
  rw[show b1x (t8 L) (C5 L++[(code.length:Int)])=c4S (t8 L) (C5 L++[(code.length:Int)]) from funext fun i=>c9F _ _ i]
theorem c3d{l:List L9}{s:List Int}(h0:∀b,l[0]? =some b→b.at'∈s)(hc:∀a i b,a∈s→D2 l a=some i→l[i]? =some b→∀n∈b.next,(D2 l n).isSome=true→n∈s):∀ {n:Int},a9m l n→n∈s:=by
 intro n h
 induction h with
 |base hb=>exact h0 _ hb
 |step _ h1 h2 h3 h4 ih=>exact hc _ _ _ ih h1 h2 _ h3 h4
theorem c7j{a b:List Int}(ha:a.Pairwise (· < ·))(hb:b.Pairwise (· < ·))(h:∀n,n∈a↔n∈b):a=b:=O1 ha hb h
section
variable{E:g8}{w0:j0}
theorem neI{a b:Int}:(a != b)=decide (a≠b):=by by_cases h:a=b<;>simp[h,bne]
theorem eqI{a b:Int}:(a==b)=decide (a=b):=by by_cases h:a=b<;>simp[h]
theorem b8d{a b:List L9}(ha:a.length<2^40)(hb:b.length<2^40)(hna:∀x∈a,x.next.length<2^60)(hnb:∀x∈b,x.next.length<2^60):U2 Try.prog E w0 Y6 [I3 a,I3 b] (.bool (decide (a=b))):=fun S=>by
 refine a6U ?_
 unfold a6p
 rw[a2X,oD,a2X,oD,a9c,oD,neI,V7]
 refine⟨fun h=> ?_,fun h=> ?_⟩
 ·rw[decide_eq_false (fun e=>h (by rw[e]))]
  exact b9.pure
 have h:a.length=b.length:=by omega
 refine a4r (I:=fun n x0 x1 x5 S'=>S'=S∧x0=I3 a∧x1=I3 b∧∃i:Nat,x5= .int .i64 (i:Int)∧i+n=a.length∧a.take i=b.take i) ?_ (n:=a.length) ⟨rfl,rfl,rfl,0,rfl,by omega,rfl⟩
 rintro n _ _ _ _ ⟨rfl,rfl,rfl,i,rfl,hi,ht⟩
 unfold a1r
 rw[a2X,oD,M7,oD,V7]
 refine⟨fun hlt=> ?_,fun hge=> ?_⟩
 ·have hlt:i<a.length:=by omega
  have ea:a[i]? =some a[i]:=List.getElem?_eq_getElem hlt
  have eb:b[i]? =some b[i]:=List.getElem?_eq_getElem (by omega)
  have ma:=hna a[i] (List.getElem_mem _)
  have mb:=hnb b[i] (List.getElem_mem _)
  have hne:a[i]≠b[i]→a≠b:=fun h e=>h (by simp only[e])
  generalize a[i]=x at*
  generalize b[i]=y at*
  have r0:∀b:L9,(D5 b)[0]? =some (.int .i64 b.at'):=fun _=>rfl
  have r1:∀b:L9,(D5 b)[1]? =some (.int .i64 b.end'):=fun _=>rfl
  have r2:∀b:L9,(D5 b)[2]? =some (iD b.next):=fun _=>rfl
  simp only[a1d ea,a1d eb,oD,ofE,Nat.zero_add,lsE,r0,a9c,neI]
  by_cases c0:x.at'=y.at'
  case neg=>
   simp only[decide_eq_true c0,wdB,t1,vdF,oD,pdB,if_true,gdF,cdT]
   rw[decide_eq_false (hne fun e=>c0 (by rw[e]))]
   exact b9.pure
  have c0':¬(x.at'≠y.at'):=fun h=>h c0
  simp only[decide_eq_false c0',wdB,t2,vdT,oD,a1d ea,a1d eb,ofE,Nat.zero_add,lsE,r1,a9c,neI,pdB,Bool.false_eq_true,if_false]
  by_cases c1:x.end'=y.end'
  case neg=>
   simp only[decide_eq_true c1,wdB,t1,vdF,oD,pdB,if_true,gdF,cdT]
   rw[decide_eq_false (hne fun e=>c1 (by rw[e]))]
   exact b9.pure
  have c1':¬(x.end'≠y.end'):=fun h=>h c1
  simp only[decide_eq_false c1',wdB,t2,vdT,oD,a1d ea,a1d eb,ofE,Nat.zero_add,lsE,r2,pdB,Bool.false_eq_true,if_false,gdT]
  refine(show p8 Try.prog E w0 I8 [iD x.next,iD y.next] _ _ from(a7e ma mb).use ?_)
  by_cases c2:x.next=y.next
  case neg=>
   simp only[decide_eq_false c2,unN,Bool.not_false,vdT,oD,pdB,Bool.false_eq_true,if_false,cdT]
   rw[decide_eq_false (hne fun e=>c2 (by rw[e]))]
   exact b9.pure
  simp only[decide_eq_true c2,unN,Bool.not_true,vdT,oD,pdB,Bool.false_eq_true,if_false,cdF]
  rw[C4,oD,i6 (by omega) (by omega)]
  refine⟨n - 1,by omega,by trivial,by trivial,by trivial,i+1,rfl,by omega, ?_⟩
  have hxy:x=y:=by cases x;cases y;simp only at c0 c1 c2;rw[c0,c1,c2]
  rw[List.take_add_one,List.take_add_one,ht,ea,eb,hxy]
 ·rw[List.take_of_length_le (by omega),List.take_of_length_le (by omega)]at ht
  rw[decide_eq_true ht]
  exact b9.pure
end
end
section
set_option linter.unusedSectionVars false
theorem c8e{l:List Int}{n:Int}{i:Nat}(hr:l.Pairwise (· < ·))(hlo:∀(j:Nat) v,j<i→l[j]? =some v→v<n)(hhi:∀v,l[i]? =some v→n<v)(hil:i≤l.length):l.take i++n::l.drop i=a4d n l:=by
 refine O1 ?_ (L7 n l hr) fun m=> ?_
 ·have htd:(l.take i++l.drop i).Pairwise (· < ·):=by rw[List.take_append_drop];exact hr
  obtain⟨p1,p2,p3⟩:=List.pairwise_append.1 htd
  refine List.pairwise_append.2 ⟨p1,List.pairwise_cons.2 ⟨fun v hv=> ?_,p2⟩,fun a ha b hb=> ?_⟩
  ·obtain⟨k,hk⟩:=List.getElem?_of_mem hv
   rw[List.getElem?_drop]at hk
   obtain⟨v0,hv0⟩:∃v0,l[i]? =some v0:=⟨_,List.getElem?_eq_getElem (by have:=(List.getElem?_eq_some_iff.1 hk).1;omega)⟩
   have h1:=hhi _ hv0
   cases k with
   |zero=>rw[Nat.add_zero,hv0]at hk;cases hk;exact h1
   |succ k=>
    have g1:=(List.getElem?_eq_some_iff.1 hv0)
    have g2:=(List.getElem?_eq_some_iff.1 hk)
    have:=List.pairwise_iff_getElem.1 hr i (i+(k+1)) g1.1 g2.1 (by omega)
    rw[g1.2,g2.2]at this
    omega
  ·have ha':a<n:=by
    obtain⟨k,hk⟩:=List.getElem?_of_mem ha
    rw[List.getElem?_take]at hk
    split at hk
    ·exact hlo k a (by assumption) hk
    ·cases hk
   rcases List.mem_cons.1 hb with rfl|hb
   ·exact ha'
   ·exact p3 a ha b hb
 ·rw[a0r]
  conv=>rhs;rw[←List.take_append_drop i l]
  simp only[List.mem_append,List.mem_cons]
  constructor
  ·rintro(h|h|h)
   ·exact .inr (.inl h)
   ·exact .inl h
   ·exact .inr (.inr h)
  ·rintro(h|h|h)
   ·exact .inr (.inl h)
   ·exact .inl h
   ·exact .inr (.inr h)
theorem c3q{l:List Int}{n:Int}(hr:l.Pairwise (· < ·))(hn:n∈l):a4d n l=l:=
 O1 (L7 n l hr) hr fun m=>by
  rw[a0r]
  exact⟨fun h=>h.elim (fun e=>by rw[e];exact hn) id, .inr⟩
def a6G(l:List Int)(i:Nat)(cur:List Int):Prop:=cur.length=l.length+1∧(∀j:Nat,j≤i→j<l.length→cur[j]? =l[j]?)∧∀j:Nat,i<j→j≤l.length→cur[j]? =l[j - 1]?
theorem a6G.start(l:List Int):a6G l l.length (l++[0]):=⟨by simp,fun j _ hj=>List.getElem?_append_left hj,fun j h1 h2=>by omega⟩
theorem a6G.step{l cur:List Int}{i:Nat}(h:a6G l i cur)(hi:0<i)(hil:i≤l.length){v:Int}(hv:cur[i - 1]? =some v):a6G l (i - 1) (cur.set i v):=by
 obtain⟨h1,h2,h3⟩:=h
 refine⟨by rw[List.length_set];exact h1,fun j hj hjl=> ?_,fun j hj hjl=> ?_⟩
 ·rw[List.getElem?_set_ne (by omega)]
  exact h2 j (by omega) hjl
 ·by_cases e:j=i
  ·subst e
   rw[List.getElem?_set_self (by omega), ←hv,h2 (j - 1) (by omega) (by omega)]
  ·rw[List.getElem?_set_ne (fun h=>e h.symm)]
   exact h3 j (by omega) hjl
theorem a6G.done{l cur:List Int}{i:Nat}(h:a6G l i cur)(hil:i≤l.length)(n:Int):cur.set i n=l.take i++n::l.drop i:=by
 obtain⟨h1,h2,h3⟩:=h
 apply List.ext_getElem?
 intro j
 have hti:(l.take i).length=i:=by rw[List.length_take];omega
 rcases Nat.lt_trichotomy j i with hj|hj|hj
 ·rw[List.getElem?_set_ne (by omega),List.getElem?_append_left (by omega),List.getElem?_take,if_pos hj]
  exact h2 j (by omega) (by omega)
 ·subst hj
  rw[List.getElem?_set_self (by omega),List.getElem?_append_right (by omega),hti,Nat.sub_self];rfl
 ·rw[List.getElem?_set_ne (by omega),List.getElem?_append_right (by omega),hti]
  obtain⟨k,rfl⟩:∃k,j=i+k+1:=⟨j - i - 1,by omega⟩
  rw[show i+k+1 - i=k+1 by omega,List.getElem?_cons_succ,List.getElem?_drop]
  by_cases hle:i+k+1≤l.length
  ·rw[h3 _ (by omega) hle];rfl
  ·rw[List.getElem?_eq_none (by omega),List.getElem?_eq_none (by omega)]
section
variable{E:g8}{w0:j0}
theorem a6e{d:D}{l:List Int}{q:Int}(hl:l.length<2^40){S:b5}(hr:RdI S d l):p8 Try.prog E w0 a2i [d, .int .i64 q] S fun v S'=>v= .bool (decide (q∈l))∧S'=S:=by
 refine b6g ?_
 unfold b3N
 refine b2y (I:=fun n x0 x1 x5 S'=>S'=S∧x0=d∧x1= .int .i64 q∧∃i:Nat,x5= .int .i64 (i:Int)∧i+n=l.length∧q ∉ l.take i) ?_ (n:=l.length) ⟨rfl,rfl,rfl,0,rfl,by omega,by simp⟩
 rintro n _ _ _ S' ⟨hS,rfl,rfl,i,rfl,hi,ht⟩
 subst hS
 unfold a4X
 rw[hr.1,oD,M7,oD,V7]
 refine⟨fun hlt=> ?_,fun hge=> ?_⟩
 ·have hlt:i<l.length:=by omega
  have ea:l[i]? =some l[i]:=List.getElem?_eq_getElem hlt
  generalize l[i]=x at ea
  obtain⟨p,p1,p2⟩:=hr.2 i x ea
  rw[p1,oD,p2,oD,O7,oD,V7]
  refine⟨fun he=> ?_,fun hne=> ?_⟩
  ·rw[decide_eq_true (by rw[←he];exact List.mem_of_getElem? ea)]
   exact b9.pure
  ·rw[C4,oD,i6 (by omega) (by omega)]
   refine⟨n - 1,by omega,by trivial,by trivial,by trivial,i+1,rfl,by omega, ?_⟩
   rw[List.take_add_one,ea]
   simp only[Option.toList,List.mem_append,List.mem_singleton,not_or]
   exact⟨ht,fun e=>hne e.symm⟩
 ·rw[List.take_of_length_le (by omega)]at ht
  rw[decide_eq_false ht]
  exact b9.pure
theorem c3C{S0 T:b5}{av:List Nat}{d:D}{l:List Int}(h:Sl S0 av d l T){i:Nat}(hi:i<l.length){n:Int}:∃p,j5 1 d (.int .i64 (i:Int))=some p∧∀K:D→b5→Prop,(∀T',(∀j,j ∉ ob d→T' j=T j)→Sl S0 av d (l.set i n) T'→K b6 T')→j1 T 1 p (.int .i64 n) K:=by
 obtain⟨p,p1,_⟩:=c6J h hi (n:=n) (K:=fun _ _=>True) fun _ _ _=>trivial
 refine⟨p,p1,fun K hK=> ?_⟩
 obtain⟨q,q1,q2⟩:=c6J h hi hK
 rw[p1]at q1
 cases q1
 exact q2
theorem c1r{S0 T:b5}{av:List Nat}{d:D}{l:List Int}{n:Int}(h:Sl S0 av d l T)(hle:S0.le T)(hav:∀j∈av,T j≠none)(hr:l.Pairwise (· < ·))(hl:l.length<2^39){i:Nat}(hil:i≤l.length)(hlo:∀(j:Nat) v,j<i→l[j]? =some v→v<n)(hhi:∀v,l[i]? =some v→n<v){Q:D→b5→Prop}
  (hQ:∀d' S',S0.le S'→(∀j∈av,S' j=T j)→Sl S0 av d' (a4d n l) S'→Q d' S'):
  C7 T 1 (o7 1 (List.replicate 1 [D.int .i64 0]) [(0,D.int .i64 0)]) 1 fun v19 S20=>u4 S20 1 8 d v19 fun v21 S22=>b4 (j9 v21) fun v23=>b4 (d5 .sub v23 (D.int .i64 1)) fun v24=>
   f9 Try.prog E w0 (.loop a1f) (i7 58 [0,1,5,6] [v21, .int .i64 n, .int .i64 (i:Int),v24]) S22 (a1p E w0 (b9 E Q)):=by
 rw[show o7 1 (List.replicate 1 [D.int .i64 0]) [(0,D.int .i64 0)]=some (iC [0]) from rfl]
 refine E8 (rows:=iC [0]) rfl ?_
 refine h.push (news:=[0]) hle hav (by simp[rowsS,C1,iC]) (by simp;omega) fun d' T' hle' hsame hs=> ?_
 have hln:(l++[0]).length=l.length+1:=by simp
 rw[hs.len,oD,a0M,oD,hln,i6 (by omega) (by omega),show((l.length+1:Nat):Int) - 1=(l.length:Int) by omega]
 refine b0S (I:=fun m x0 x1 x5 x6 T2=>x0=d'∧x1= .int .i64 n∧x5= .int .i64 (i:Int)∧∃(j:Nat) (cur:List Int),x6= .int .i64 (j:Int)∧j=i+m∧j≤l.length∧S0.le T2∧(∀j∈av,T2 j=T j)∧Sl S0 av d' cur T2∧a6G l j cur) ?_ (n:=l.length - i)
  ⟨rfl,rfl,rfl,l.length,_,rfl,by omega,Nat.le_refl _,hle',hsame,hs,a6G.start l⟩
 rintro m x0 _ _ _ T2 ⟨rfl,rfl,rfl,j,cur,rfl,hj,hjl,hle2,hsame2,hs2,hm⟩
 unfold a3J
 rw[a8g,oD,V7]
 have frame:∀T3:b5,(∀j,j ∉ ob x0→T3 j=T2 j)→S0.le T3∧∀j∈av,T3 j=T j:=fun T3 h3=>by
  refine⟨fun k o e=> ?_,fun k hk=> ?_⟩
  ·rw[h3 k fun hm=>by rw[(hs2.ob_none k hm).1]at e;cases e];exact hle2 _ _ e
  ·rw[h3 k fun hm=>(hs2.ob_none k hm).2 hk];exact hsame2 k hk
 refine⟨fun hgt=> ?_,fun hng=> ?_⟩
 ·have hcl:=hm.1
  have e1:cur[j - 1]? =some cur[j - 1]:=List.getElem?_eq_getElem (by omega)
  generalize cur[j - 1]=v at e1
  obtain⟨p,p1,p2⟩:=hs2.rd.2 (j - 1) v e1
  have hj1:((j:Int) - 1)=((j - 1:Nat):Int):=by omega
  rw[a0M,oD,i6 (by omega) (by omega),hj1,p1,oD,p2,oD]
  obtain⟨q,q1,q2⟩:=c3C hs2 (i:=j) (by omega) (n:=v)
  rw[q1,oD]
  refine q2 _ fun T3 h3 hs3=> ?_
  rw[oD]
  exact⟨m - 1,by omega,by trivial,by trivial,by trivial,j - 1,_,rfl,by omega,by omega,(frame T3 h3).1,(frame T3 h3).2,hs3,hm.step (by omega) hjl e1⟩
 ·have hji:j=i:=by omega
  subst hji
  obtain⟨q,q1,q2⟩:=c3C hs2 (i:=j) (by have:=hm.1;omega) (n:=n)
  rw[q1,oD]
  refine q2 _ fun T3 h3 hs3=> ?_
  refine b9.here (hQ _ _ (frame T3 h3).1 (frame T3 h3).2 ?_)
  rw[←c8e hr hlo hhi hil, ←hm.done hil n]
  exact hs3
theorem R5{S0 S:b5}{av:List Nat}{d:D}{l:List Int}{n:Int}(h:Sl S0 av d l S)(hle:S0.le S)(hav:∀j∈av,S j≠none)(hr:l.Pairwise (· < ·))(hl:l.length<2^39){Q:D→b5→Prop}
  (hQ:∀d' S',S0.le S'→(∀j∈av,S' j=S j)→Sl S0 av d' (a4d n l) S'→Q d' S'):p8 Try.prog E w0 K7 [d, .int .i64 n] S Q:=by
 refine b4L ?_
 unfold b1D
 refine b1Q (I:=fun m x0 x1 x5 T=>T=S∧x0=d∧x1= .int .i64 n∧∃i:Nat,x5= .int .i64 (i:Int)∧i+m=l.length∧∀(j:Nat) v,j<i→l[j]? =some v→v<n) ?_ (n:=l.length) ⟨rfl,rfl,rfl,0,rfl,by omega,fun j v hj=>by omega⟩
 rintro m _ _ _ T ⟨hT,rfl,rfl,i,rfl,hi,hlo⟩
 subst hT
 unfold a3a
 rw[h.len,oD,M7,oD]
 by_cases hlt:(i:Int)<(l.length:Int)
 ·have hlt':i<l.length:=by omega
  have ea:l[i]? =some l[i]:=List.getElem?_eq_getElem hlt'
  generalize l[i]=x at ea
  obtain⟨p,p1,p2⟩:=h.rd.2 i x ea
  simp only[decide_eq_true hlt,wdB,t4,vdT,oD,p1,p2,M7,pdB,if_true]
  rw[V7]
  refine⟨fun hx=> ?_,fun hx=> ?_⟩
  ·rw[C4,oD,i6 (by omega) (by omega)]
   refine⟨m - 1,by omega,by trivial,by trivial,by trivial,i+1,rfl,by omega,fun j v hj hv=> ?_⟩
   by_cases e:j=i
   ·subst e;rw[ea]at hv;cases hv;exact hx
   ·exact hlo j v (by omega) hv
  rw[O7,oD,V7]
  refine⟨fun hx2=> ?_,fun hx2=> ?_⟩
  ·refine b9.here (hQ _ _ hle (fun _ _=>rfl) ?_)
   rw[c3q hr (by rw[←hx2];exact List.mem_of_getElem? ea)]
   exact h
  ·refine c1r h hle hav hr hl (by omega) hlo (fun v hv=> ?_) hQ
   rw[ea]at hv
   cases hv
   omega
 ·simp only[decide_eq_false hlt,wdB,t3,vdF,oD,pdB,Bool.false_eq_true,if_false,cdF,M7,h.len]
  refine c1r h hle hav hr hl (by omega) hlo (fun v hv=> ?_) hQ
  rw[List.getElem?_eq_none (by omega)]at hv
  cases hv
structure c8d (l:List L9) (b0:L9) (out:List Int):Prop where
 rises:out.Pairwise (· < ·)
 is:∀n∈out,a9m l n
 first:b0.at'∈out
theorem c8d.len{l:List L9}{b0:L9}{out:List Int}(h:c8d l b0 out):out.length≤l.length:=by
 have:=a5E (h.rises.imp fun h e=>by omega) (l2:=l.map (·.at')) fun a ha=>c0w (h.is a ha)
 simpa using this
section
variable{l:List L9}{b0:L9}{S0:b5}
def c5o(l:List L9)(b0:L9)(out:List Int)(more:Bool)(out':List Int)(more':Bool):Prop:=c8d l b0 out'∧(∀m∈out,m∈out')∧((out'=out∧more'=more)∨(more'=true∧out.length<out'.length))
theorem c5o.refl{out:List Int}{more:Bool}(h:c8d l b0 out):c5o l b0 out more out more:=⟨h,fun _ h=>h, .inl ⟨rfl,rfl⟩⟩
theorem c5o.trans{o1 o2 o3:List Int}{m1 m2 m3:Bool}(h:c5o l b0 o1 m1 o2 m2)(h':c5o l b0 o2 m2 o3 m3):c5o l b0 o1 m1 o3 m3:=by
 refine⟨h'.1,fun m hm=>h'.2.1 m (h.2.1 m hm), ?_⟩
 rcases h'.2.2 with ⟨rfl,rfl⟩|⟨a,b⟩
 ·exact h.2.2
 ·rcases h.2.2 with ⟨rfl,rfl⟩|⟨c,d⟩
  ·exact .inr ⟨a,b⟩
  ·exact .inr ⟨a,by omega⟩
theorem Sl.fin{av:List Nat}{d:D}{l:List Int}{T:b5}(h:Sl S0 av d l T)(hle:S0.le T){Q:D→b5→Prop}(hq:b9 E Q (iD l) S0):b9 E Q d T:=by
 rcases h with ⟨rfl,rfl⟩|⟨k,cap,ex,rows,acs,h0,h1,rfl,h2,h3,h4⟩
 ·exact b9.less hle (b9.nil hq)
 ·refine b9.freeze h2 rfl (by have:=a8Q h3;simp only;omega) h4 ?_
  rw[List.drop_zero,h3]
  exact b9.less (b5.le_erase hle h0) hq
end
end
end
section
set_option linter.unusedSectionVars false
def obR(rows:List (List D)):List Nat:=rows.flatMap fun r=>ob (r.getD 2 b6)
theorem a7X(rows:List (List D))(r:List D):obR (rows++[r])=obR rows++ob (r.getD 2 b6):=by simp[obR]
def K2(S0:b5):List L9→List (List D)→b5→Prop
 | [],[],_=>True
 |b::l,r::rows,T=>(∃d,r=[.int .i64 b.at', .int .i64 b.end',d]∧Sl S0 [] d b.next T)∧K2 S0 l rows T
 |_,_,_=>False
theorem K2.len{S0 T:b5}:∀ {l:List L9} {rows:List (List D)},K2 S0 l rows T→rows.length=l.length
 | [],[],_=>rfl
 |b::l,r::rows,h=>by rw[List.length_cons,List.length_cons,K2.len h.2]
 | [],_::_,h=>h.elim
 |_::_,[],h=>h.elim
theorem K2.of{S0 T T':b5}:∀ {l:List L9} {rows:List (List D)},K2 S0 l rows T→(∀j∈obR rows,T' j=T j)→K2 S0 l rows T'
 | [],[],_,_=>trivial
 |b::l,r::rows,⟨⟨d,e,hs⟩,h⟩,ha=>by
  refine⟨⟨d,e,hs.of fun j hj=>ha j ?_⟩,K2.of h fun j hj=>ha j ?_⟩
  ·rw[e];exact List.mem_append.2 (.inl hj)
  ·exact List.mem_append.2 (.inr hj)
 | [],_::_,h,_=>h.elim
 |_::_,[],h,_=>h.elim
theorem K2.there{S0 T:b5}:∀ {l:List L9} {rows:List (List D)},K2 S0 l rows T→∀j∈obR rows,T j≠none∧S0 j=none
 | [],[],_,j,hj=>by cases hj
 |b::l,r::rows,⟨⟨d,e,hs⟩,h⟩,j,hj=>by
  rcases List.mem_append.1 hj with hj|hj
  ·rw[e]at hj
   exact⟨hs.ob_some j hj,(hs.ob_none j hj).1⟩
  ·exact K2.there h j hj
 | [],_::_,h,_,_=>h.elim
 |_::_,[],h,_,_=>h.elim
theorem K2.snoc{S0 T:b5}{b:L9}{d:D}(hs:Sl S0 [] d b.next T):∀ {l:List L9} {rows:List (List D)},K2 S0 l rows T→K2 S0 (l++[b]) (rows++[[.int .i64 b.at', .int .i64 b.end',d]]) T
 | [],[],_=>⟨⟨d,rfl,hs⟩,trivial⟩
 |c::l,r::rows,h=>⟨h.1,K2.snoc hs h.2⟩
 | [],_::_,h=>h.elim
 |_::_,[],h=>h.elim
theorem K2.init{S0 T:b5}{b:L9}:∀ {l:List L9} {rows:List (List D)},K2 S0 (l++[b]) rows T→∃rs d,rows=rs++[[.int .i64 b.at', .int .i64 b.end',d]]∧K2 S0 l rs T∧Sl S0 [] d b.next T
 | [],r::rows,⟨⟨d,e,hs⟩,h⟩=>by
  cases rows with
  |nil=>exact⟨[],d,by rw[e];rfl,trivial,hs⟩
  |cons=>exact h.elim
 |c::l,r::rows,⟨h1,h2⟩=>by
  obtain⟨rs,d,e,h3,h4⟩:=K2.init h2
  exact⟨r::rs,d,by rw[e];rfl,⟨h1,h3⟩,h4⟩
 | [],[],h=>h.elim
 |_::_,[],h=>h.elim
theorem K2.at{S0 T:b5}:∀ {l:List L9} {rows:List (List D)} {i:Nat} {b:L9},K2 S0 l rows T→l[i]? =some b→∃d,rows[i]? =some [.int .i64 b.at', .int .i64 b.end',d]∧Sl S0 [] d b.next T∧∀j∈ob d,j∈obR rows
 |c::l,r::rows,0,b,⟨⟨d,e,hs⟩,h⟩,hb=>by
  cases hb
  exact⟨d,by rw[e];rfl,hs,fun j hj=>by rw[e];exact List.mem_append.2 (.inl hj)⟩
 |c::l,r::rows,i+1,b,⟨_,h⟩,hb=>by
  obtain⟨d,h1,h2,h3⟩:=K2.at h (show l[i]? =some b by simpa using hb)
  exact⟨d,by simpa using h1,h2,fun j hj=>List.mem_append.2 (.inr (h3 j hj))⟩
 | [],[],i,b,_,hb=>by simp at hb
 | [],_::_,_,_,h,_=>h.elim
 |_::_,[],_,_,h,_=>h.elim
def b4B(S0:b5)(t:D)(l:List L9)(T:b5):Prop:=∃rows,O4 S0 (obR rows) t rows 3 T∧K2 S0 l rows T∧(obR rows).Nodup
theorem b4B.nil{S0 T:b5}:b4B S0 .nilSlc [] T:=⟨[],O4.nil,trivial,List.nodup_nil⟩
theorem b4B.of{S0 T T':b5}{t:D}{l:List L9}(h:b4B S0 t l T)(hl:T.le T'):b4B S0 t l T':=by
 obtain⟨rows,h1,h2,h3⟩:=h
 refine⟨rows,h1.le hl,h2.of fun j hj=> ?_,h3⟩
 obtain⟨o,ho⟩:=Option.ne_none_iff_exists'.1 (h2.there j hj).1
 rw[ho,hl _ _ ho]
section
variable{E:g8}{w0:j0}
theorem b6U{S0 S:b5}{av:List Nat}{t:D}{rows:List (List D)}{row:List D}(hg:O4 S0 av t (rows++[row]) 3 S)(hle:S0.le S):∃p,j5 3 t (.int .i64 (rows.length:Int))=some p∧W6 p=some p∧
  (∀i,∃q,p9 i p=some q∧d9 S q=row[i]?)∧
  ∀(i:Nat) (v:D),i<row.length→s5 v=some [v]→∃q,p9 i p=some q∧∀K:D→b5→Prop,(∀S',O4 S0 av t (rows++[row.set i v]) 3 S'→S0.le S'→(∀j∈av,S' j=S j)→K b6 S')→j1 S 1 q v K:=by
 rcases hg with ⟨_,e⟩|⟨k,acs,h0,h1,rfl,h3⟩
 ·simp at e
 ·refine⟨_,c1l (by simp),ndR ..,fun i=>⟨_,ofR ..,by rw[ldR h3 (row:=row) (by simp),Nat.zero_add]⟩,fun i v hi hv=>⟨_,ofR ..,fun K hK=> ?_⟩⟩
  refine stR h3 (rows:=rows++[row]) (row:=row) (by simp) hv ⟨rfl,by decide,by show 0+i+1≤row.length;omega⟩ fun acs'=> ?_
  have e:(rows++[row]).set (0+rows.length) (j4 row (0+i) [v])=rows++[row.set i v]:=by
   rw[Nat.zero_add,Nat.zero_add,List.set_append_right _ _ (Nat.le_refl _),Nat.sub_self];rfl
  rw[e]
  refine hK _ (.inr ⟨k,acs',h0,h1,by simp,b5.set_same _ _ _⟩) (fun j o hj=> ?_) fun j hj=>b5.set_ne _ _ _ fun e=>h1 (e▸hj)
  rw[b5.set_ne _ _ _ (fun e=>by rw[e,h0]at hj;cases hj)]
  exact hle _ _ hj
theorem c6m{x0 x14 x16 x94 x95 to:D}{ys:List In}{ext:List Int}{i:Nat}(hi:i<ys.length)(hyl:ys.length<2^40)(he:ext.length=ys.length+1){N3:D→D→D→D→D→D→D→b5→Prop}{Q:D→b5→Prop}{S0 S:b5}{av:List Nat}{rows:List (List D)}{a:D}{e0 n0:D}(hrl:rows.length<2^40)(hto:s5 to=some [to])
  (hg:O4 S0 av x16 (rows++[[a,e0,n0]]) 3 S) (hle:S0.le S)
  (hN:∀S',O4 S0 av x16 (rows++[[a, .int .i64 (ext.getD (i+1) 0),to]]) 3 S'→S0.le S'→(∀j∈av,S' j=S j)→N3 x0 (iD ext) x14 x16 x94 x95 (.int .i64 ((i:Int)+1)) S'):
  J2 E w0 N3 Q x0 (iD ext) x14 x16 (.int .i64 (i:Int)) to x94 x95 (.int .i64 (i:Int)) S:=by
 refine a4g ?_
 unfold a3O
 have hx:ext[i+1]? =some (ext.getD (i+1) 0):=by rw[List.getD_eq_getElem?_getD,List.getElem?_eq_getElem (by omega)];rfl
 have hix:j5 1 (iD ext) (.int .i64 ((i:Int)+1))=some (.elt [.int .i64 (ext.getD (i+1) 0)] 0):=a0y hx
 have hsub:IntKind.i64.wrap (((rows++[[a,e0,n0]]).length:Int) - 1)=(rows.length:Int):=by
  rw[List.length_append,List.length_singleton,i6 (by omega) (by omega)]
  omega
 rw[hg.len,oD,a0M,oD,hsub]
 obtain⟨p,p1,p2,_,p3⟩:=b6U hg hle
 rw[p1,oD,C4,oD,i6 (by omega) (by omega),hix,oD,lsE,List.getElem?_cons_zero,oD,p2,oD]
 obtain⟨q,q1,q2⟩:=p3 1 (.int .i64 (ext.getD (i+1) 0)) (by simp) rfl
 rw[q1,oD]
 refine q2 _ fun S1 hg1 hle1 hs1=> ?_
 rw[oD]
 obtain⟨p',p1',_,_,p3'⟩:=b6U hg1 hle1
 rw[p1]at p1'
 cases p1'
 obtain⟨q',q1',q2'⟩:=p3' 2 to (by simp) hto
 rw[q1',oD]
 refine q2' _ fun S2 hg2 hle2 hs2=> ?_
 rw[oD]
 exact hN S2 hg2 hle2 fun j hj=>by rw[hs2 j hj,hs1 j hj]
theorem c6w{d:D}{l:List Int}(hl:l.length<2^40){q:Int}{S:b5}(hr:RdI S d l):p8 Try.prog E w0 P9 [d, .int .i64 q] S fun v S'=>S'=S∧∃r:Int,v= .int .i64 r∧(0≤r↔q∈l):=by
 refine a1u ?_
 unfold a0J
 rw[hr.1,oD]
 refine a0L (I:=fun n x0 x1 x7 x8 T=>T=S∧x0=d∧x1= .int .i64 q∧x7= .int .i64 (l.length:Int)∧∃i:Nat,x8= .int .i64 (i:Int)∧i+n=l.length∧q ∉ l.take i) ?_ (n:=l.length) ⟨rfl,rfl,rfl,rfl,0,rfl,by omega,by simp⟩
 rintro n x0 _ _ _ T ⟨hT,rfl,rfl,rfl,i,rfl,hi,ht⟩
 subst hT
 unfold K4
 rw[M7,oD,V7]
 refine⟨fun hlt=> ?_,fun hge=> ?_⟩
 ·have hlt':i<l.length:=by omega
  have ea:l[i]? =some l[i]:=List.getElem?_eq_getElem hlt'
  generalize l[i]=x at ea
  obtain⟨p,p1,p2⟩:=hr.2 i x ea
  rw[p1,oD,p2,oD,O7,oD,V7]
  refine⟨fun he=>b9.here ⟨rfl,(i:Int),rfl,⟨fun _=>by rw[he];exact List.mem_of_getElem? ea,fun _=>by omega⟩⟩,fun hne=> ?_⟩
  rw[C4,oD,i6 (by omega) (by omega)]
  refine⟨n - 1,by omega,rfl,rfl,rfl,rfl,i+1,by simp,by omega, ?_⟩
  rw[List.take_add_one,ea]
  simp only[Option.toList,List.mem_append,List.mem_singleton,not_or]
  exact⟨ht,fun e=>hne e⟩
 ·rw[List.take_of_length_le (by omega)]at ht
  exact b9.here ⟨rfl, -1,rfl,⟨fun h=>by omega,fun h=>absurd h ht⟩⟩
theorem c2D{d:D}{l:List Int}(hl:l.length<2^40){q:Int}{S:b5}(hr:RdI S d l):p8 Try.prog E w0 J4 [d, .int .i64 q] S fun v S'=>v= .bool (decide (q∈l))∧S'=S:=by
 refine a0w ?_
 unfold U4
 refine(c6w hl hr).use ?_
 rintro v S' ⟨rfl,r,rfl,h⟩
 rw[c1u,oD]
 have:decide (r≥0)=decide (q∈l):=by
  by_cases hq:q∈l
  ·rw[decide_eq_true hq,decide_eq_true (h.2 hq)]
  ·rw[decide_eq_false hq,decide_eq_false (fun h'=>hq (h.1 h'))]
 rw[this]
 exact b9.pure
end
end
end Go.Proofs.Ytdkidgkiplcggaa.d
end
