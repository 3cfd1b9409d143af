/-
  TransferRisesSaid: part Qbf of its proof.
-/
import Derived.Shelf.Sort.Plain
import Derived.Shelf.Slices.In.SortNone
import Derived.Shelf.Slices.CompactI
import Derived.Test.YtdkidgkiplcggaaGreatProg
import Derived.Test.YtdkidgkiplcggaaGreatQbe
set_option linter.unusedVariables false
set_option linter.unusedSimpArgs false
set_option maxRecDepth 100000
section
namespace Go.Proofs
open Go.Shelf
def Tryz.lays189_ren:Go.Shelf.Ren:=⟨fun|189=>60|125=>91|257=>90|128=>121|129=>122|294=>113|295=>114|296=>115|297=>116|298=>117|299=>118|216=>55|300=>119|301=>120|328=>145|329=>146|330=>147|331=>148|332=>149|215=>83|343=>159|n=>n,fun|28=>27|3=>3|46=>104|0=>0|51=>154|53=>153|4=>4|183=>178|182=>177|131=>79|5=>5|9=>9|218=>206|222=>210|228=>217|229=>218|n=>n,fun|n=>n⟩
theorem Tryz.lays189:Go.Proofs.Lays.n189 Tryz.prog Tryz.lays189_ren:= {
 mixed:=by kernel_rfl
 f125:=Tryz.func91.trans (congrArg some (by kernel_rfl))
 f128:=Tryz.func121.trans (congrArg some (by kernel_rfl))
 f129:=Tryz.func122.trans (congrArg some (by kernel_rfl))
 f189:=Tryz.func60.trans (congrArg some (by kernel_rfl))
 f215:=Tryz.func83.trans (congrArg some (by kernel_rfl))
 f216:=Tryz.func55.trans (congrArg some (by kernel_rfl))
 f257:=Tryz.func90.trans (congrArg some (by kernel_rfl))
 f294:=Tryz.func113.trans (congrArg some (by kernel_rfl))
 f295:=Tryz.func114.trans (congrArg some (by kernel_rfl))
 f296:=Tryz.func115.trans (congrArg some (by kernel_rfl))
 f297:=Tryz.func116.trans (congrArg some (by kernel_rfl))
 f298:=Tryz.func117.trans (congrArg some (by kernel_rfl))
 f299:=Tryz.func118.trans (congrArg some (by kernel_rfl))
 f300:=Tryz.func119.trans (congrArg some (by kernel_rfl))
 f301:=Tryz.func120.trans (congrArg some (by kernel_rfl))
 f328:=Tryz.func145.trans (congrArg some (by kernel_rfl))
 f329:=Tryz.func146.trans (congrArg some (by kernel_rfl))
 f330:=Tryz.func147.trans (congrArg some (by kernel_rfl))
 f331:=Tryz.func148.trans (congrArg some (by kernel_rfl))
 f332:=Tryz.func149.trans (congrArg some (by kernel_rfl))
 f343:=Tryz.func159.trans (congrArg some (by kernel_rfl))
 t0:=Tryz.underlying0
 a0:=Tryz.isAgg0
 z0:=Tryz.sizeOf0
 v0:=Tryz.zeroValue0
 t3:=Tryz.underlying3
 a3:=Tryz.isAgg3
 z3:=Tryz.sizeOf3
 v3:=Tryz.zeroValue3
 t4:=Tryz.underlying4
 a4:=Tryz.isAgg4
 z4:=Tryz.sizeOf4
 v4:=Tryz.zeroValue4
 t5:=Tryz.underlying5
 a5:=Tryz.isAgg5
 z5:=Tryz.sizeOf5
 v5:=Tryz.zeroValue5
 t9:=Tryz.underlying9
 a9:=Tryz.isAgg9
 z9:=Tryz.sizeOf9
 v9:=Tryz.zeroValue9
 t28:=Tryz.underlying27
 a28:=Tryz.isAgg27
 z28:=Tryz.sizeOf27
 v28:=Tryz.zeroValue27
 t46:=Tryz.underlying104
 a46:=Tryz.isAgg104
 z46:=Tryz.sizeOf104
 v46:=Tryz.zeroValue104
 t51:=Tryz.underlying154
 a51:=Tryz.isAgg154
 z51:=Tryz.sizeOf154
 v51:=Tryz.zeroValue154
 t53:=Tryz.underlying153
 a53:=Tryz.isAgg153
 z53:=Tryz.sizeOf153
 v53:=Tryz.zeroValue153
 t131:=Tryz.underlying79
 a131:=Tryz.isAgg79
 z131:=Tryz.sizeOf79
 v131:=Tryz.zeroValue79
 t182:=Tryz.underlying177
 a182:=Tryz.isAgg177
 z182:=Tryz.sizeOf177
 v182:=Tryz.zeroValue177
 t183:=Tryz.underlying178
 a183:=Tryz.isAgg178
 z183:=Tryz.sizeOf178
 v183:=Tryz.zeroValue178
 t218:=Tryz.underlying206
 a218:=Tryz.isAgg206
 z218:=Tryz.sizeOf206
 v218:=Tryz.zeroValue206
 t222:=Tryz.underlying210
 a222:=Tryz.isAgg210
 z222:=Tryz.sizeOf210
 v222:=Tryz.zeroValue210
 t228:=Tryz.underlying217
 a228:=Tryz.isAgg217
 z228:=Tryz.sizeOf217
 v228:=Tryz.zeroValue217
 t229:=Tryz.underlying218
 a229:=Tryz.isAgg218
 z229:=Tryz.sizeOf218
 v229:=Tryz.zeroValue218 }
def Tryz.laysNm220_ren:Go.Shelf.Ren:=⟨fun|20=>61|n=>n,fun|22=>27|3=>3|4=>4|0=>0|n=>n,fun|n=>n⟩
theorem Tryz.laysNm220:Go.Proofs.Lays2.n20 Tryz.prog Tryz.laysNm220_ren:= {
 mixed:=by kernel_rfl
 f20:=Tryz.func61.trans (congrArg some (by kernel_rfl))
 t0:=Tryz.underlying0
 a0:=Tryz.isAgg0
 z0:=Tryz.sizeOf0
 v0:=Tryz.zeroValue0
 t3:=Tryz.underlying3
 a3:=Tryz.isAgg3
 z3:=Tryz.sizeOf3
 v3:=Tryz.zeroValue3
 t4:=Tryz.underlying4
 a4:=Tryz.isAgg4
 z4:=Tryz.sizeOf4
 v4:=Tryz.zeroValue4
 t22:=Tryz.underlying27
 a22:=Tryz.isAgg27
 z22:=Tryz.sizeOf27
 v22:=Tryz.zeroValue27
 i3:=by kernel_rfl }
open Go.Sort Go.RowKit in
theorem Tryz.slices_Sort_int(blk off cap:Nat)(zs:List Int)(w:World)(hH:Holds (Value.int .i64) w blk off zs.toArray)(hblk:blk<w.heap.size)(hsz:zs.length<4611686018427387904):
  Calls Tryz.prog 60 #[.slice (some ⟨blk,off,none⟩) zs.length cap] w fun e w'=>
   e= .returned (.tuple #[])∧∃n os,w'=grow (putRow (Value.int .i64) (Sort.ahead w n) blk off (zs.mergeSort fun x y=>decide (x≤y)).toArray) os:=Any.slices_Sort_int Tryz.lays189 blk off cap zs w hH hblk hsz
open Go.RowKit Go.Lib Go.Sort in
theorem Tryz.slices_Compact_int(blk off cap:Nat)(zs:List Int)(w:World)(hH:Holds (Value.int .i64) w blk off zs.toArray)(hsz:zs.length≤9223372036854775807)(hcap:zs.length≤cap):
  Calls Tryz.prog 61 #[.slice (some ⟨blk,off,none⟩) zs.length cap] w fun e w'=>e= .returned (.slice (some ⟨blk,off,none⟩) (Lib.compact zs).length cap)∧∃q,w'=putRow (Value.int .i64) (Sort.ahead w q) blk off (Lib.compact zs++List.replicate (zs.length - (Lib.compact zs).length) 0).toArray:=Any.slices_Compact_int Tryz.laysNm220 blk off cap zs w hH hsz hcap
open Go.RowKit Go.Lib Go.Sort in
theorem Tryz.slices_Compact_int_empty(a:Option Addr)(cap:Nat)(w:World):
  Calls Tryz.prog 61 #[.slice a 0 cap] w fun e w'=>e= .returned (.slice a 0 cap)∧w'=w:=Any.slices_Compact_int_empty Tryz.laysNm220 a cap w
open Go.RowKit Go.Sort in
theorem Tryz.slices_Sort_int_none(p:Option Addr)(cap:Nat)(w:World):
  Calls Tryz.prog 60 #[.slice p 0 cap] w fun e w'=>e= .returned (.tuple #[])∧w'=w:=Any.slices_Sort_int_none Tryz.lays189 p cap w
end Go.Proofs
end
section
open Go.Proofs Go Go.Am Go.Op
namespace Go.Proofs.YtdkidgkiplcggaaGreat.d
section
set_option linter.unusedSectionVars false
def srt(l:List Int):List Int:=l.mergeSort fun x y=>decide (x≤y)
theorem b7R(l:List Int):(srt l).length=l.length:=List.length_mergeSort l
theorem d0W:b8c Tryz.prog a3x srt (fun _=>none) where
 has blk off cap zs w hH hb hz hc:=Tryz.slices_Sort_int blk off cap zs w hH hb hz
 empty a cap w:=Tryz.slices_Sort_int_none a cap w
 len zs:=b7R zs
 outL zs m h:=by cases h
theorem a9p(l:List Int):(Lib.compact l).length≤l.length:=by
 unfold Lib.compact Lib.compactUpTo
 rw[List.length_map]
 exact Nat.le_trans (List.length_filter_le _ _) (by simp)
theorem c4y:b8c Tryz.prog a1z (fun l=>Lib.compact l++List.replicate (l.length - (Lib.compact l).length) 0) (fun l=>some (Lib.compact l).length) where
 has blk off cap zs w hH hb hz hc:=Calls.mono (Tryz.slices_Compact_int blk off cap zs w hH (by omega) hc) fun e w' ⟨h1,q,h2⟩=>⟨h1,q, #[],by rw[Sort.grow_empty];exact h2⟩
 empty a cap w:=Tryz.slices_Compact_int_empty a cap w
 len zs:=by rw[List.length_append,List.length_replicate];have:=a9p zs;omega
 outL zs m h:=by cases h;exact a9p zs
theorem c2C{d:Array Int}:∀ {m:Nat},m≤d.size→(∀i j:Nat,i<j→j<d.size→d[i]! ≤d[j]!)→
  (Lib.compactUpTo d m).Pairwise (· < ·)∧(∀n,n∈Lib.compactUpTo d m↔ ∃j,j<m∧d[j]! =n)
 |0,_,_=>by
  have:Lib.compactUpTo d 0=[]:=rfl
  rw[this]
  exact⟨List.Pairwise.nil,fun n=>⟨fun h=>(by cases h),fun⟨j,h,_⟩=>absurd h (Nat.not_lt_zero j)⟩⟩
 |m+1,hm,hs=>by
  obtain⟨h1,h2⟩:=c2C (m:=m) (by omega) hs
  rw[Lib.compactUpTo_succ]
  by_cases hk:Lib.keeps d m=true
  ·rw[if_pos hk]
   have hk':m=0∨d[m]! ≠d[m - 1]! :=by unfold Lib.keeps at hk;exact of_decide_eq_true hk
   refine⟨List.pairwise_append.2 ⟨h1,List.pairwise_singleton _ _,fun a ha b hb=> ?_⟩,fun n=> ?_⟩
   ·rw[List.mem_singleton.1 hb]
    obtain⟨j,hj,rfl⟩:=(h2 a).1 ha
    have e1:d[j]! ≤d[m - 1]! :=by
     by_cases e:j=m - 1
     ·rw[e];exact Int.le_refl _
     ·exact hs j (m - 1) (by omega) (by omega)
    have e2:=hs (m - 1) m (by omega) (by omega)
    rcases hk' with hk'|hk'
    ·omega
    ·omega
   ·rw[List.mem_append,h2,List.mem_singleton]
    constructor
    ·rintro(⟨j,hj,e⟩|rfl)
     ·exact⟨j,by omega,e⟩
     ·exact⟨m,by omega,rfl⟩
    ·rintro⟨j,hj,e⟩
     by_cases hjm:j=m
     ·subst hjm;exact .inr e.symm
     ·exact .inl ⟨j,by omega,e⟩
  ·rw[if_neg hk,List.append_nil]
   have hk':¬(m=0∨d[m]! ≠d[m - 1]!):=fun h=>hk (by unfold Lib.keeps;exact decide_eq_true h)
   refine⟨h1,fun n=> ?_⟩
   rw[h2]
   constructor
   ·rintro⟨j,hj,e⟩;exact⟨j,by omega,e⟩
   ·rintro⟨j,hj,e⟩
    by_cases hjm:j=m
    ·subst hjm
     have h0:¬j=0:=fun h=>hk' (.inl h)
     have h3:d[j]! =d[j - 1]! :=Classical.not_not.1 fun h=>hk' (.inr h)
     exact⟨j - 1,by omega,by rw[←h3];exact e⟩
    ·exact⟨j,by omega,e⟩
def c7L(l:List Int):List Int:=Lib.compact (srt l)
theorem c1o(l:List Int):(c7L l).Pairwise (· < ·)∧∀n,n∈c7L l↔n∈l:=by
 have hp:(srt l).Pairwise fun a b=>a≤b:=by
  have:=List.pairwise_mergeSort (le:=fun x y:Int=>decide (x≤y)) (fun a b c h1 h2=>by simp at*;omega) (fun a b=>by simp;omega) l
  exact this.imp fun h=>by simpa using h
 have hget:∀j,j<(srt l).length→(srt l).toArray[j]! =(srt l)[j]! :=fun j hj=>by simp
 obtain⟨h1,h2⟩:=c2C (d:=(srt l).toArray) (m:=(srt l).length) (by simp) (fun i j hij hj=>by
  have hj':j<(srt l).length:=by simpa using hj
  have:=List.pairwise_iff_getElem.1 hp i j (by omega) hj' hij
  rw[getElem!_pos _ i (by simpa using(by omega:i<(srt l).length)),getElem!_pos _ j (by simpa using hj')]
  simpa using this)
 refine⟨h1,fun n=> ?_⟩
 have hm:n∈c7L l↔ ∃j,j<(srt l).length∧(srt l).toArray[j]! =n:=h2 n
 rw[hm, ←List.mem_mergeSort (le:=fun x y:Int=>decide (x≤y)) (l:=l),List.mem_iff_getElem]
 constructor
 ·rintro⟨j,hj,e⟩
  refine⟨j,hj, ?_⟩
  rw[getElem!_pos _ j (by rw[List.size_toArray];exact hj)]at e
  have e':(srt l)[j]=n:=by simpa using e
  exact e'
 ·rintro⟨j,hj,e⟩
  refine⟨j,hj, ?_⟩
  rw[getElem!_pos _ j (by rw[List.size_toArray];exact hj)]
  have e':(srt l)[j]'hj=n:=e
  rw[List.getElem_toArray]
  exact e'
theorem c5g{a b:List Int}(ha:a.Pairwise (· < ·))(hb:b.Pairwise (· < ·))(h:∀n,n∈a↔n∈b):a=b:=by
 refine List.Perm.eq_of_pairwise (le:=(· < ·)) (fun x y _ _ h1 h2=>by omega) ha hb ?_
 refine(List.perm_ext_iff_of_nodup ?_ ?_).2 h
 ·exact ha.imp fun h=>by omega
 ·exact hb.imp fun h=>by omega
section
variable{E:j2}{w0:j9}
theorem b6E(l:List Int):a0Z l=iC l:=by simp[a0Z,iC,B4]
theorem Own.sort{S0 S:b8}{d:D}{l:List Int}(h:Own S0 d l S)(h0:l≠[])(hl:l.length<2^60){Q:D→b8→Prop}(hQ:∀v S',Own S0 d (srt l) S'→Q v S'):j8 Tryz.prog E w0 a3x [d] S Q:=by
 rcases h with ⟨_,e,_⟩|⟨k,acs,ex,hk,rfl,rfl⟩
 ·exact absurd e h0
 ·refine d0W.fnD (zs:=l) (b8.set_same _ _ _) rfl (by rw[u4];omega) (by rw[List.drop_zero,List.take_of_length_le (by rw[u4];exact Nat.le_refl _),b6E]) (by omega) fun acs'=> ?_
  rw[b8.set_set]
  refine hQ _ _ (.inr ⟨k,acs',ex,hk,by rw[b7R], ?_⟩)
  rw[List.take_zero,List.nil_append,Nat.zero_add,List.drop_of_length_le (by rw[u4];exact Nat.le_refl _),List.append_nil,b6E]
theorem Own.compact{S0 S:b8}{d:D}{l:List Int}(h:Own S0 d l S)(h0:l≠[])(hl:l.length<2^60){Q:D→b8→Prop}(hQ:d9 E Q (iD (Lib.compact l)) S0):j8 Tryz.prog E w0 a1z [d] S fun v S'=>d9 E Q v S':=by
 rcases h with ⟨_,e,_⟩|⟨k,acs,ex,hk,rfl,rfl⟩
 ·exact absurd e h0
 ·refine c4y.fnD (zs:=l) (b8.set_same _ _ _) rfl (by rw[u4];omega) (by rw[List.drop_zero,List.take_of_length_le (by rw[u4];exact Nat.le_refl _),b6E]) (by omega) fun acs'=> ?_
  have hle:=a9p l
  refine d9.freeze (b8.set_same _ _ _) rfl (by simp[a0Z]<;>omega) hle ?_
  rw[b8.set_set,b8.erase_set _ _ _ hk]
  have:D.lst (((List.take 0 (iC l)++(a0Z (Lib.compact l++List.replicate (l.length - (Lib.compact l).length) 0)++List.drop (0+l.length) (iC l))).drop 0).take (Lib.compact l).length) 1=iD (Lib.compact l):=by
   rw[List.take_zero,List.nil_append,List.drop_zero,b6E,a4n,List.append_assoc,List.take_append_of_le_length (by rw[u4];exact Nat.le_refl _),List.take_of_length_le (by rw[u4];exact Nat.le_refl _)]
   rfl
  rw[this]
  exact hQ
theorem Own.under{S0 S:b8}{d:D}{l:List Int}(h:Own S0 d l S){k:Nat}{o:D5}(hk:S k=none):Own (S0.set k o) d l (S.set k o):=by
 rcases h with ⟨rfl,rfl,rfl⟩|⟨j,acs,ex,h,rfl,rfl⟩
 ·exact .inl ⟨rfl,rfl,rfl⟩
 ·obtain⟨hne,hk0⟩:=b8.fresh hk
  refine .inr ⟨j,acs,ex, ?_,rfl,b8.set_comm _ (Ne.symm hne) _ _⟩
  rw[b8.set_ne _ _ _ (Ne.symm hne)];exact h
theorem Own.push{S0 S:b8}{d:D}{l news:List Int}(h:Own S0 d l S){v:D}(hv:rowsS S 1 v=some (iC news))(hn:news≠[])(hb:l.length+news.length<2^40){K:D→b8→Prop}(hK:∀d' S',Own S0 d' (l++news) S'→K d' S'):w9 S 1 8 d v K:=by
 have hn':iC news≠[]:=fun e=>hn (List.length_eq_zero_iff.1 (by rw[←u4,e];rfl))
 simp only[w9,hv]
 rcases h with ⟨rfl,rfl,rfl⟩|⟨k,acs,ex,hk,rfl,rfl⟩
 ·simp only[a1d]
  rw[if_neg hn']
  refine⟨by rw[u4];omega, .inr fun k acs hk=>hK _ _ (.inr ⟨k,acs,false,hk,by simp,by simp⟩)⟩
 ·simp only[a1d]
  rw[if_neg hn',b8.set_same]
  simp only
  rw[if_pos ⟨by trivial,by trivial,by rw[u4];omega⟩]
  refine⟨by rw[u4];omega, .inr fun k' acs' hk'=> ?_⟩
  rw[b8.erase_set _ _ _ hk]at hk' ⊢
  refine hK _ _ (.inr ⟨k',acs',false,hk',by simp, ?_⟩)
  rw[List.drop_zero,List.take_of_length_le (by rw[u4];exact Nat.le_refl _),a4n]
theorem d3J(n:Int):c7L [n]=[n]:=c5g (c1o _).1 (List.pairwise_singleton _ _) (c1o [n]).2
def a0N(y:In)(next:Int):List Int:=
 if y.op=51∨y.op=52 then[]else if y.op=46 then[y.a]else c7L (if y.op=47∨y.op=48 then[next,y.a]else if y.op=49 then y.b::y.arms.map (·.2) else[next])
theorem d6y{S:b8}{y:In}{K:D→b8→Prop}(h:∀k a,S k=none→K (.ptr k 0) (S.set k ⟨4,[P8 y],a⟩)):b7 (o3 (inD y)) fun cs=>j6 S cs K:=by
 rw[inD,U9,oD]
 intro k a n
 exact h k a n
theorem d5Z{S:b8}{a:Int}{K:D→b8→Prop}(h:∀d S',Own S d [a] S'→K d S'):r9 S 1 (m8 1 (List.replicate 1 [(.int .i64 0)]) [(0, .int .i64 a)]) 1 K:=B8 (l:=[a]) h
theorem b6i{y:In}(hal:y.arms.length≤65535){next:Int}:K9 Tryz.prog E w0 a4k [inD y, .int .i64 next] (iD (a0N y next)):=fun S=>by
 refine b3V ?_
 unfold a8L
 refine d6y fun k a n=> ?_
 have hk:u9 (S.set k ⟨4,[P8 y],a⟩) k 4 (P8 y):=u9.new
 have l1:S.le (S.set k ⟨4,[P8 y],a⟩):=b8.le_new n
 generalize (S.set k ⟨4,[P8 y],a⟩)=B at hk l1
 refine d5Z fun d T hT=> ?_
 obtain⟨i0,i1,i2,i3⟩:=d1d y
 have hk0:=hk
 have hk:=hk.le hT.le
 have g0:∀ {T:b8},u9 T k 4 (P8 y)→c9 T (.ptr k 0)=some (.int .u8 y.op):=fun h=>h.ld 0
 have g1:∀ {T:b8},u9 T k 4 (P8 y)→c9 T (.ptr k 1)=some (.int .i64 y.a):=fun h=>h.ld 1
 have g2:∀ {T:b8},u9 T k 4 (P8 y)→c9 T (.ptr k 2)=some (.int .i64 y.b):=fun h=>h.ld 2
 have g3:∀ {T:b8},u9 T k 4 (P8 y)→c9 T (.ptr k 3)=some (b5q y.arms):=fun h=>h.ld 3
 let Q:D→b8→Prop:=fun d' S'=>d'=iD (a0N y next)∧S'=S
 have fin:∀ {B' T:b8} {d:D} {l:List Int},S.le B'→Own B' d l T→l≠[]→l.length<2^60→a0N y next=c7L l→E7 E w0 (d9 E Q) d T:=by
  intro B' T d l hle ho h0 hl he
  refine a9R ?_
  unfold a5C
  refine ho.sort h0 hl fun v S' ho'=> ?_
  refine Own.compact ho' (fun e=>h0 (List.length_eq_zero_iff.1 (by rw[←b7R,e];rfl))) (by rw[b7R];exact hl) ?_
  exact d9.less hle (d9.here ⟨by rw[he];rfl,rfl⟩)
 have jump:∀ {T:b8} {d:D},Own B d [next] T→y.op=46→∃p,o6 1 d (.int .i64 0)=some p∧i7 T 1 p (.int .i64 y.a) fun v14 S15=>E7 E w0 (d9 E Q) d S15:=by
  intro T d ho h46
  exact d1L ho (i:=0) (by simp) fun S' ho'=>fin l1 ho' (by simp) (by simp) (by unfold a0N;rw[if_neg (by omega),if_pos h46];exact(d3J _).symm)
 have sw:∀ {T:b8} {d:D},Own B d [next] T→y.op=49→∃p,o6 1 d (.int .i64 0)=some p∧i7 T 1 p (.int .i64 y.b) fun v26 S27=>b7 (c9 S27 (.ptr k 3)) fun v29=>b7 (m9 v29) fun v30=>
   j1 Tryz.prog E w0 (.loop a0d) (m6 52 [5,36,37,38] [d,v29,v30,(.int .i64 0)]) S27 (a0j E w0 (d9 E Q)):=by
  intro T d ho h49
  refine d1L ho (i:=0) (by simp) fun S' ho'=> ?_
  have hk:=(hk0.le ho'.le)
  rw[g3 hk,oD]
  rw[b3n,oD]
  refine b1l (I:=fun n x5 x36 x37 x38 T=>x36=b5q y.arms∧x37= .int .i64 (y.arms.length:Int)∧∃(i:Nat) (B':b8),x38= .int .i64 (i:Int)∧i+n=y.arms.length∧B.le B'∧Own B' x5 (y.b::(y.arms.take i).map (·.2)) T) ?_ (n:=y.arms.length)
   ⟨rfl,rfl,0,B,rfl,by omega,b8.le_refl _,ho'⟩
  rintro n x5 _ _ _ T ⟨rfl,rfl,i,B',rfl,hi,hB,ho⟩
  unfold a2y
  rw[H7,oD,I6]
  refine⟨fun hlt=> ?_,fun hge=> ?_⟩
  ·have hlt:i<y.arms.length:=by omega
   have ha:y.arms[i]? =some y.arms[i]:=List.getElem?_eq_getElem hlt
   rw[d1n ha,oD,laE,if_pos ⟨by decide,by simp[a0J]⟩,oD]
   intro k3 a3 n3
   refine(u9.new (sz:=2) (c:=[.int .i64 0, .int .i64 0])).st (ds:=a0J y.arms[i]) (U9 _) ⟨rfl,by decide,by simp⟩ fun a4=> ?_
   rw[b8.set_set,show l7 [D.int .i64 0, .int .i64 0] 0 (a0J y.arms[i])=a0J y.arms[i]from rfl]
   have hb:=ho.under (o:=⟨2,[a0J y.arms[i]],a4⟩) n3
   simp only[E2,Nat.zero_add,oD]
   rw[(u9.new).ld 1,show(a0J y.arms[i])[1]? =some (.int .i64 y.arms[i].2) from rfl,oD,show m8 1 (List.replicate 1 [D.int .i64 0]) [(0, .int .i64 y.arms[i].2)]=some (iC [y.arms[i].2]) from rfl]
   refine G6 rfl ?_
   refine hb.push (news:=[y.arms[i].2]) (by simp[rowsS,L5]) (by simp) (by simp;omega) fun d' T' ho'=> ?_
   rw[D7,oD,l8 (by omega) (by omega)]
   refine⟨n - 1,by omega,by trivial,by trivial,i+1,B'.set k3 ⟨2,[a0J y.arms[i]],a4⟩,by trivial,by omega,b8.le_set hB (b8.none_of hB (b8.none_of ho.le n3)), ?_⟩
   have e:y.b::(y.arms.take (i+1)).map (·.2)=(y.b::(y.arms.take i).map (·.2))++[y.arms[i].2]:=by rw[List.take_add_one,ha,List.map_append];rfl
   rw[e]
   exact ho'
  ·rw[List.take_of_length_le (by omega)]at ho
   exact fin (b8.le_trans l1 hB) ho (by simp) (by simp;omega) (by unfold a0N;rw[if_neg (by omega),if_neg (by omega),if_neg (by omega),if_pos h49])
 have c41:∀ {b:Bool},y.op≠51∧y.op≠52∧y.op≠46→b=decide (y.op=47∨y.op=48)→X0 E w0 (d9 E Q) (.ptr k 0) d (.int .u8 y.op) (.bool b) T:=by
  intro b hne hb
  subst hb
  refine a9t ?_
  unfold a5s
  rw[I6]
  refine⟨fun h=> ?_,fun h=> ?_⟩
  ·simp only[E2,Nat.zero_add,oD,g1 hk]
   rw[show m8 1 (List.replicate 1 [D.int .i64 0]) [(0, .int .i64 y.a)]=some (iC [y.a]) from rfl]
   refine G6 rfl ?_
   refine hT.push (news:=[y.a]) (by simp[rowsS,L5]) (by simp) (by simp) fun d' T' ho'=> ?_
   exact fin l1 ho' (by simp) (by simp) (by unfold a0N;rw[if_neg (by omega),if_neg (by omega),if_pos h];rfl)
  ·rw[Q2,oD,I6]
   refine⟨fun h49=> ?_,fun h49=> ?_⟩
   ·simp only[E2,Nat.zero_add,oD,g2 hk]
    obtain⟨p,e1,e2⟩:=sw hT h49
    rw[show(D.int .i64 0)= .int .i64 ((0:Nat):Int) from rfl]at*
    rw[e1,oD]
    exact e2
   ·exact fin l1 hT (by simp) (by simp) (by unfold a0N;rw[if_neg (by omega),if_neg (by omega),if_neg h,if_neg h49])
 have c21:∀ {b:Bool},b=decide (y.op=51∨y.op=52)→X3 E w0 (d9 E Q) (.ptr k 0) d (.int .u8 y.op) (.bool b) T:=by
  intro b hb
  subst hb
  refine b0G ?_
  unfold a5A
  rw[I6]
  refine⟨fun h=> ?_,fun h=> ?_⟩
  ·refine d9.less (b8.le_trans l1 hT.le) (d9.weak (d':=iD []) (Wk.nil 1) (d9.here ⟨by unfold a0N;rw[if_pos h],rfl⟩))
  ·rw[Q2,oD,I6]
   refine⟨fun h46=> ?_,fun h46=> ?_⟩
   ·simp only[E2,Nat.zero_add,oD,g1 hk]
    obtain⟨p,e1,e2⟩:=jump hT h46
    rw[e1,oD]
    exact e2
   ·rw[Q2,oD,I6]
    refine⟨fun h47=>c41 (by omega) (by rw[decide_eq_true h47,decide_eq_true (.inl h47)]),fun h47=> ?_⟩
    rw[Q2,oD]
    exact c41 (by omega) (by by_cases h48:y.op=48<;>simp[h47,h48])
 simp only[E2,Nat.zero_add,oD,g0 hk,Q2]
 rw[I6]
 refine⟨fun h51=>c21 (by rw[decide_eq_true h51,decide_eq_true (.inl h51)]),fun h51=>c21 (by by_cases h52:y.op=52<;>simp[h51,h52])⟩
end
end
section
set_option linter.unusedSectionVars false
def c9I(S:b8)(d:D)(l:List Int)(S':b8):Prop:=(d= .nilSlc∧l=[]∧S'=S)∨∃k acs,S k=none∧d= .tip k (iC l) 1∧S'=S.set k (d3Y acs)
theorem c9I.le{S S':b8}{d:D}{l:List Int}(h:c9I S d l S'):S.le S':=by
 rcases h with ⟨_,_,rfl⟩|⟨k,acs,h,_,rfl⟩
 ·exact b8.le_refl _
 ·exact b8.le_new h
theorem c9I.wk{S S':b8}{d:D}{l:List Int}(h:c9I S d l S'):Wk d (iD l):=by
 rcases h with ⟨rfl,rfl,_⟩|⟨k,acs,_,rfl,_⟩
 ·exact Wk.nil 1
 ·exact Wk.tip _ _ _
theorem c9I.push{S S' T:b8}{d:D}{l:List Int}(h:c9I S d l S')(hle:S'.le T){n:Int}{v:D}(hv:rowsS T 1 v=some (iC [n]))(hb:l.length<2^40){K:D→b8→Prop}(hK:∀T',S.le T'→(∀j o,S' j≠some o→T j=some o→T' j=some o)→K (iD (l++[n])) T'):w9 T 1 8 d v K:=by
 simp only[w9,hv]
 rcases h with ⟨rfl,rfl,rfl⟩|⟨k,acs,hk,rfl,rfl⟩
 ·simp only[a1d]
  rw[if_neg (by simp[iC,B4])]
  refine⟨by simp[iC,B4], .inl ?_⟩
  rw[List.take_of_length_le (Nat.le_refl _)]
  exact hK T hle fun j o _ h=>h
 ·refine d4b (hle _ _ (b8.set_same _ _ _)) (by simp[iC,B4]) (by rw[u4,u4];simp;omega) ?_
  rw[←a4n]
  refine hK _ (b8.le_erase (b8.le_trans (b8.le_new hk) hle) hk) fun j o h1 h2=> ?_
  rw[b8.erase_ne]
  ·exact h2
  ·rintro rfl
   have:=hle _ _ (b8.set_same S j (d3Y acs))
   rw[h2]at this
   cases this
   exact h1 (b8.set_same _ _ _)
section
variable{E:j2}{w0:j9}
def d3E(S:b8)(r:Except Int (List (Dat×Nat)))(v:D)(T:b8):Prop:=match r with
 | .ok l=>∃u,v= .tup [b7y (a3Q l),u, .int .i64 0]∧c9I S u (a0C l) T
 | .error e=>v= .tup [b7y [],iD [], .int .i64 e]∧T=S
theorem c7W{bs:List Int}(hb:∀b∈bs,a1m b)(hl:bs.length<2^30){S:b8}:j8 Tryz.prog E w0 a5X [bD bs] S (d3E S (a7y bs)):=
 (b9S hb hl).fin fun v T h=>by
  cases hr:a7y bs with
  |error e=>
   rw[hr]at h
   obtain⟨rfl,rfl⟩:=h
   exact d9.weak (d':= .tup [b7y [],iD [], .int .i64 e]) (Wk.tup ⟨Wk.nil 4,Wk.nil 1,Wk.refl _,trivial⟩) (d9.here ⟨rfl,rfl⟩)
  |ok l=>
   rw[hr]at h
   obtain⟨t,u,rfl,h1,h2,h3,h4⟩:=h
   refine d9.grA (pre:=[]) h3 h1 fun T' hle he=> ?_
   have h4':GrA S (ob t++[]) u (iC (a0C l)) 1 T':=h4.apart (fun j hj=>he j fun hm=>h3.ob_av j hm (List.mem_append_left _ hj)) fun j hj hm=>h4.ob_av j hj hm
   rcases h4' with ⟨rfl,e⟩|⟨k,acs,h0,_,rfl,hk⟩
   ·refine d9.less hle (d9.here ⟨_,rfl, .inl ⟨rfl, ?_,rfl⟩⟩)
    cases hp:a0C l with
    |nil=>rfl
    |cons a b=>rw[hp]at e;simp[iC,B4]at e
   ·refine d9.tipT (lp:=[.lst ((a3Q l).map P8) 4]) (acs:=[]) hk rfl (by simp) (Nat.le_refl _) ?_
    rw[List.drop_zero]
    refine d9.less (S':=S.set k (d3Y [])) (fun j o e=> ?_) (d9.here ⟨_,rfl, .inr ⟨k,[],h0,rfl,rfl⟩⟩)
    unfold b8.set at e ⊢
    split at e
    ·rename_i hj;rw[if_pos hj];exact e
    ·rename_i hj;rw[if_neg hj];exact hle _ _ e
theorem d4k{n:Int}:K9 Tryz.prog E w0 a2q [.int .i64 n] (.bool false):=fun S=>by
 refine b4U ?_
 unfold b1f
 rw[c4H,oD,show(n != n)=false by simp]
 exact d9.here ⟨rfl,rfl⟩
theorem d6c{a b:Int}:K9 Tryz.prog E w0 a6y [.int .i64 a, .int .i64 b] (.bool (decide (a<b))):=fun S=>by
 refine b6h ?_
 unfold b1D
 refine d4k.use ?_
 simp only[M4,t3,t2',vdF,vdT,gdF,oD,M8,Bool.false_eq_true,if_false,H7,wdU]
 exact d9.here ⟨rfl,rfl⟩
theorem d7Z{n:Nat}(h:n<2^62):IntKind.u64.wrap (n:Int)=n:=d4o (by omega) (by omega)
theorem d2v{n:Int}:K9 Tryz.prog E w0 a0r [.int .i64 n] (.bool false):=fun S=>by
 refine b1q ?_
 unfold a6S
 rw[c4H,oD,show(n != n)=false by simp]
 exact d9.here ⟨rfl,rfl⟩
theorem c6N{l:List Int}(hl:l.length<2^40)(hs:l.Pairwise (· < ·)){t:Int}{S:b8}:j8 Tryz.prog E w0 E5 [iD l, .int .i64 t] S fun d S'=>S'=S∧∃i:Nat,d= .tup [.int .i64 (i:Int), .bool (decide (t∈l))]∧(t∈l→l[i]? =some t):=by
 refine a5j ?_
 unfold a1U
 rw[Y7,oD]
 refine a4l (I:=fun n x0 x1 x6 x7 x8 T=>S=T∧x0=iD l∧x1= .int .i64 t∧x6= .int .i64 (l.length:Int)∧∃i j:Nat,x7= .int .i64 (i:Int)∧x8= .int .i64 (j:Int)∧i+n=j∧j≤l.length∧(∀p (hp:p<l.length),p<i→l[p]<t)∧(∀p (hp:p<l.length),j≤p→t≤l[p])) ?_ (n:=l.length)
  ⟨rfl,rfl,rfl,rfl,0,l.length,rfl,rfl,by omega,Nat.le_refl _,fun p _ h=>absurd h (Nat.not_lt_zero p),fun p hp h=>absurd hp (by omega)⟩
 rintro n _ _ _ _ _ _ ⟨rfl,rfl,rfl,rfl,i,j,rfl,rfl,hij,hj,h1,h2⟩
 unfold M7
 have hmono:∀p q (hp:p<l.length) (hq:q<l.length),p<q→l[p]<l[q]:=fun p q hp hq h=>List.pairwise_iff_getElem.1 hs p q hp hq h
 rw[H7,oD,I6]
 refine⟨fun hlt=> ?_,fun hge=> ?_⟩
 ·have hlt:i<j:=by omega
  rw[D7,oD,l8 (by omega) (by omega),cvI,oD,show((i:Int)+j)=((i+j:Nat):Int) by omega,d7Z (by omega),d1o _ _ _ _ (by decide),oD]
  have hdiv:((i+j:Nat):Int).fdiv (2^(min (1:Int).toNat IntKind.u64.bits))=(((i+j) / 2:Nat):Int):=by
   rw[show(min (1:Int).toNat IntKind.u64.bits)=1 from rfl,Int.fdiv_eq_ediv_of_nonneg _ (by decide)]
   omega
  rw[hdiv,cvI,oD,l8 (by omega) (by omega)]
  have hm1:i≤(i+j) / 2:=by omega
  have hm2:(i+j) / 2<j:=by omega
  generalize (i+j) / 2=h at hm1 hm2
  have hh:h<l.length:=by omega
  rw[a7J (List.getElem?_eq_getElem hh),oD,lsE,List.getElem?_cons_zero,oD]
  refine d6c.use ?_
  rw[I6]
  refine⟨fun hc=> ?_,fun hc=> ?_⟩
  ·rw[D7,oD,l8 (by omega) (by omega)]
   refine⟨j - (h+1),by omega,rfl,rfl,rfl,rfl,h+1,j,rfl,rfl,by omega,hj,fun p hp hpi=> ?_,h2⟩
   by_cases e:p=h
   ·subst e;exact hc
   ·have:=hmono p h hp hh (by omega);omega
  ·refine⟨h - i,by omega,rfl,rfl,rfl,rfl,i,h,rfl,rfl,by omega,by omega,h1,fun p hp hpi=> ?_⟩
   by_cases e:p=h
   ·subst e;omega
   ·have:=hmono h p hh hp (by omega);omega
 ·have hij:i=j:=by omega
  subst hij
  rw[H7,oD]
  have fin:∀b:Bool,b=decide (t∈l)→(t∈l→l[i]? =some t)→d9 E (fun d S'=>S'=S∧∃i:Nat,d= .tup [.int .i64 (i:Int), .bool (decide (t∈l))]∧(t∈l→l[i]? =some t)) (.tup [.int .i64 (i:Int), .bool b]) S:=fun b hb hi=>d9.here ⟨rfl,i,by rw[hb],hi⟩
  have hin:t∈l→∃h:i<l.length,l[i]=t:=fun hm=>by
   obtain⟨p,hp,e⟩:=List.mem_iff_getElem.1 hm
   have a1:¬p<i:=fun h=>by have:=h1 p hp h;omega
   have hi:i<l.length:=by omega
   refine⟨hi, ?_⟩
   by_cases e':p=i
   ·subst e';exact e
   ·have:=hmono i p hi hp (by omega)
    have:=h2 i hi (Nat.le_refl _)
    omega
  by_cases c:i<l.length
  ·have c':(i:Int)<(l.length:Int):=by omega
   simp only[decide_eq_true c',M4,t4,vdT,oD,a7J (List.getElem?_eq_getElem c),lsE,List.getElem?_cons_zero,Q2]
   by_cases ce:l[i]=t
   ·simp only[decide_eq_true ce,M4,t1',vdF,oD,M8,if_true,wdU,gdF]
    exact fin true (by rw[decide_eq_true];rw[←ce];exact List.getElem_mem c) fun _=>by rw[List.getElem?_eq_getElem c,ce]
   ·have hn:t ∉ l:=fun hm=>ce (hin hm).2
    simp only[decide_eq_false ce,M4,t2',vdT,oD,gdT]
    rw[a7J (List.getElem?_eq_getElem c),oD,lsE,List.getElem?_cons_zero,oD]
    refine d2v.use ?_
    simp only[M4,t3,vdF,oD,M8,Bool.false_eq_true,if_false,if_true,wdU,gdF]
    exact fin false (by rw[decide_eq_false hn]) fun hm=>absurd hm hn
  ·have c':¬(i:Int)<(l.length:Int):=by omega
   have hn:t ∉ l:=fun hm=>c (hin hm).1
   simp only[decide_eq_false c',M4,t3,vdF,oD,M8,Bool.false_eq_true,if_false,wdU,gdF]
   exact fin false (by rw[decide_eq_false hn]) fun hm=>absurd hm hn
end
end
section
set_option linter.unusedSectionVars false
def Sl(S0:b8)(av:List Nat)(d:D)(l:List Int)(T:b8):Prop:=
 (d= .nilSlc∧l=[])∨∃k cap ex rows acs,S0 k=none∧k ∉ av∧d= .raw k 0 l.length cap ex 1∧T k=some ⟨1,rows,acs⟩∧rows.take l.length=iC l∧l.length≤cap
theorem Sl.cells{S0 T:b8}{av:List Nat}{d:D}{l:List Int}(h:Sl S0 av d l T):o3 d=some [d]:=by
 rcases h with ⟨rfl,_⟩|⟨k,cap,ex,rows,acs,_,_,rfl,_⟩<;>rfl
theorem Sl.len{S0 T:b8}{av:List Nat}{d:D}{l:List Int}(h:Sl S0 av d l T):m9 d=some (.int .i64 (l.length:Int)):=by
 rcases h with ⟨rfl,rfl⟩|⟨k,cap,ex,rows,acs,_,_,rfl,_⟩<;>rfl
theorem c5S{rows:List (List D)}{l:List Int}(h:rows.take l.length=iC l):l.length≤rows.length:=by
 have:=congrArg List.length h
 rw[u4,List.length_take]at this
 omega
theorem c6Z{rows:List (List D)}{l:List Int}(h:rows.take l.length=iC l){i:Nat}{v:Int}(hv:l[i]? =some v):rows[i]? =some [.int .i64 v]:=by
 have hi:=(List.getElem?_eq_some_iff.1 hv).1
 have:=d1V hv
 rw[←h,List.getElem?_take,if_pos hi]at this
 exact this
theorem Sl.of{S0 T T':b8}{av:List Nat}{d:D}{l:List Int}(h:Sl S0 av d l T)(e:∀j∈ob d,T' j=T j):Sl S0 av d l T':=by
 rcases h with h|⟨k,cap,ex,rows,acs,h0,h1,rfl,h2,h3⟩
 ·exact .inl h
 ·exact .inr ⟨k,cap,ex,rows,acs,h0,h1,rfl,by rw[e k (by simp[ob])];exact h2,h3⟩
theorem Sl.ob_none{S0 T:b8}{av:List Nat}{d:D}{l:List Int}(h:Sl S0 av d l T):∀j∈ob d,S0 j=none∧j ∉ av:=by
 rcases h with ⟨rfl,_⟩|⟨k,cap,ex,rows,acs,h0,h1,rfl,_⟩
 ·simp[ob]
 ·simpa [ob]using⟨h0,h1⟩
theorem Sl.ob_some{S0 T:b8}{av:List Nat}{d:D}{l:List Int}(h:Sl S0 av d l T):∀j∈ob d,T j≠none:=by
 rcases h with ⟨rfl,_⟩|⟨k,cap,ex,rows,acs,h0,h1,rfl,h2,_⟩
 ·simp[ob]
 ·simp[ob,h2]
theorem Sl.rd{S0 T:b8}{av:List Nat}{d:D}{l:List Int}(h:Sl S0 av d l T):RdI T d l:=by
 refine⟨h.len,fun i v hv=> ?_⟩
 rcases h with ⟨rfl,rfl⟩|⟨k,cap,ex,rows,acs,h0,h1,rfl,h2,h3,h4⟩
 ·simp at hv
 ·have hi:=(List.getElem?_eq_some_iff.1 hv).1
  refine⟨_,c8P hi, ?_⟩
  rw[Nat.zero_add,ldR h2 (c6Z h3 hv)]
  rfl
def StT(S0:b8)(k:Nat)(f:Fr)(lim:Int)(T:b8):Prop:=
 ∃l s,u9 T k 3 [l,s, .int .i64 lim]∧S0 k=none∧S0.le T∧Sl S0 (k::ob s) l f.locals T∧Sl S0 (k::ob l) s f.stack T
def okW(anyt:Bool)(t h:Int):Bool:= !(decide (t≠0)&&decide (h≠t)||decide (t=0)&&decide (h=0)&& !anyt)
def a6v(types taken:List Int)(anyt:Bool):Bool:=(types.zip taken).all fun p=>okW anyt p.1 p.2
theorem d7j{S0 T:b8}{av:List Nat}{d:D}{l:List Int}(h:Sl S0 av d l T){n:Nat}(hn:n≤l.length)(hl:l.length<2^40):∃d',a1a 1 d (some (.int .i64 (n:Int))) none none=some d'∧RdI T d' (l.drop n)∧∀T',(∀j∈ob d,T' j=T j)→RdI T' d' (l.drop n):=by
 have main:∀T',(∀j∈ob d,T' j=T j)→∃d',a1a 1 d (some (.int .i64 (n:Int))) none none=some d'∧RdI T' d' (l.drop n):=by
  intro T' he
  rcases h.of he with ⟨rfl,rfl⟩|⟨k,cap,ex,rows,acs,h0,h1,rfl,h2,h3,h4⟩
  ·have:n=0:=by simpa using hn
   subst this
   exact⟨.nilSlc,rfl,rfl,fun i v hv=>by simp at hv⟩
  ·refine⟨.raw k (0+n) (l.length - n) (cap - n) (ex||false) 1, ?_, ?_,fun i v hv=> ?_⟩
   ·simp only[a1a,M9,c7o,b2O,c0K,if_true,Option.bind_some,d7k hn,Option.map_some,Option.isSome_none]
   ·rw[List.length_drop];rfl
   ·rw[List.getElem?_drop]at hv
    have hi:=(List.getElem?_eq_some_iff.1 hv).1
    refine⟨_,c8P (by omega), ?_⟩
    rw[ldR h2 (by rw[show 0+n+i=n+i by omega];exact c6Z h3 hv)]
    rfl
 obtain⟨d',e1,e2⟩:=main T fun _ _=>rfl
 refine⟨d',e1,e2,fun T' he=> ?_⟩
 obtain⟨d2,e3,e4⟩:=main T' he
 rw[e1]at e3
 cases e3
 exact e4
theorem d6N{S0 T:b8}{av:List Nat}{d:D}{l:List Int}(h:Sl S0 av d l T){n:Nat}(hn:n≤l.length):∃d',a1a 1 d none (some (.int .i64 (n:Int))) (some (.int .i64 (n:Int)))=some d'∧ob d'=ob d∧Sl S0 av d' (l.take n) T:=by
 rcases h with ⟨rfl,rfl⟩|⟨k,cap,ex,rows,acs,h0,h1,rfl,h2,h3,h4⟩
 ·have:n=0:=by simpa using hn
  subst this
  exact⟨.nilSlc,rfl,rfl, .inl ⟨rfl,rfl⟩⟩
 ·have hnl:(l.take n).length=n:=by rw[List.length_take];omega
  refine⟨.raw k (0+0) (n - 0) (n - 0) (ex||true) 1, ?_,rfl, .inr ⟨k,n,ex||true,rows,acs,h0,h1,by rw[hnl];rfl,h2, ?_,by rw[hnl];exact Nat.le_refl _⟩⟩
  ·simp only[a1a,M9,c7o,b2O,c0K,if_true,Option.bind_some,d7k (show n≤cap by omega),d7k (Nat.le_refl n),Option.map_some,Option.isSome_some]
  ·rw[hnl]
   have:=congrArg (List.take n) h3
   rw[List.take_take,Nat.min_eq_left hn]at this
   rw[this]
   simp[iC,B4,List.map_take]
def c5r(S0:b8)(k:Nat)(f:Fr)(lim:Int)(types:List Int)(anyt:Bool)(T:b8)(v:D)(T':b8):Prop:=
 if f.stack.length<types.length then v= .tup [.nilSlc, .int .i64 210]∧T'=T
 else if a6v types (f.stack.drop (f.stack.length - types.length)) anyt=true then ∃d,v= .tup [d, .int .i64 0]∧RdI T' d (f.stack.drop (f.stack.length - types.length))∧StT S0 k ⟨f.locals,f.stack.take (f.stack.length - types.length)⟩ lim T'∧∀j,j≠k→T' j=T j
 else v= .tup [.nilSlc, .int .i64 211]∧T'=T
section
variable{E:j2}{w0:j9}
theorem d6d{S0 T:b8}{k:Nat}{f:Fr}{lim:Int}(h:StT S0 k f lim T)(hs:f.stack.length<2^40){types:List Int}(ht:types.length<2^40){anyt:Bool}:
  j8 Tryz.prog E w0 a0G [.ptr k 0,iD types, .bool anyt] T (c5r S0 k f lim types anyt T):=by
 obtain⟨l,s,hc,hk0,hle,hl,hst⟩:=h
 refine a8q ?_
 unfold a3O
 have g1:c9 T (.ptr k 1)=some s:=hc.ld 1
 simp only[ndP,oD,E2,Nat.zero_add,g1,hst.len,Y7,b4u,l8 (show -9223372036854775808≤(f.stack.length:Int) - types.length by omega) (by omega),H7]
 rw[I6]
 refine⟨fun h=> ?_,fun h=> ?_⟩
 ·exact d9.here (by unfold c5r;rw[if_pos (by omega)];exact⟨rfl,rfl⟩)
 obtain⟨n,hn⟩:∃n:Nat,n=f.stack.length - types.length:=⟨_,rfl⟩
 have hn':(f.stack.length:Int) - types.length=(n:Int):=by omega
 rw[hn']
 obtain⟨dt,e1,e2,e3⟩:=d7j hst (n:=n) (by omega) hs
 rw[e1,oD]
 obtain⟨ds,f1,f2,f3⟩:=d6N hst (n:=n) (by omega)
 have htl:(f.stack.drop n).length=types.length:=by rw[List.length_drop];omega
 refine a6P (I:=fun m x0 x2 x8 x9 x30 x31 x32 T'=>T=T'∧x0= .ptr k 0∧x2= .bool anyt∧x8= .int .i64 (n:Int)∧dt=x9∧x30=iD types∧x31= .int .i64 (types.length:Int)∧∃i:Nat,x32= .int .i64 (i:Int)∧i+m=types.length∧((types.zip (f.stack.drop n)).take i).all (fun p=>okW anyt p.1 p.2)=true) ?_ (n:=types.length)
  ⟨rfl,rfl,rfl,rfl,rfl,rfl,rfl,0,rfl,by omega,rfl⟩
 rintro m _ _ _ _ _ _ _ _ ⟨rfl,rfl,rfl,rfl,rfl,rfl,rfl,i,rfl,hi,hall⟩
 unfold Y8
 have hzl:(types.zip (f.stack.drop n)).length=types.length:=by rw[List.length_zip,htl,Nat.min_self]
 rw[H7,oD,I6]
 refine⟨fun hlt=> ?_,fun hge=> ?_⟩
 ·have hlt:i<types.length:=by omega
  have hi1:types[i]? =some types[i]:=List.getElem?_eq_getElem hlt
  have hi2:(f.stack.drop n)[i]? =some (f.stack.drop n)[i]:=List.getElem?_eq_getElem (by omega)
  obtain⟨p,p1,p2⟩:=e2.2 i _ hi2
  generalize (f.stack.drop n)[i]=b at hi2 p2
  generalize types[i]=a at hi1
  have hz:(types.zip (f.stack.drop n))[i]? =some (a,b):=by rw[List.getElem?_zip_eq_some];exact⟨hi1,hi2⟩
  have next:okW anyt a b=true→((types.zip (f.stack.drop n)).take (i+1)).all (fun p=>okW anyt p.1 p.2)=true:=fun h=>by
   rw[List.take_add_one,hz,List.all_append,hall];simp[h]
  have bad:okW anyt a b=false→a6v types (f.stack.drop n) anyt=false:=fun h=>by
   unfold a6v
   rw[List.all_eq_false]
   exact⟨(a,b),List.mem_of_getElem? hz,by rw[h];decide⟩
  have fin:∀c:Bool,okW anyt a b= !c→i6 (.bool c) (d9 E (c5r S0 k f lim types anyt T) (.tup [.nilSlc,(.int .i64 211)]) T)
    (b7 (i4 .add (.int .i64 (i:Int)) (.int .i64 1)) fun v39=>∃m',m'<m∧(True∧True∧True∧True∧True∧True∧True∧∃i:Nat,v39= .int .i64 (i:Int)∧i+m'=types.length∧((types.zip (f.stack.drop n)).take i).all (fun p=>okW anyt p.1 p.2)=true)):=by
   intro c hcc
   cases c with
   |true=>
    rw[cdT]
    refine d9.here ?_
    unfold c5r
    rw[if_neg (by omega), ←hn,if_neg (by rw[bad hcc];decide)]
    exact⟨rfl,rfl⟩
   |false=>
    rw[cdF,D7,oD,l8 (by omega) (by omega)]
    exact⟨m - 1,by omega,trivial,trivial,trivial,trivial,trivial,trivial,trivial,i+1,rfl,by omega,next hcc⟩
  simp only[a7J hi1,oD,lsE,List.getElem?_cons_zero,a3s]
  by_cases ca:a=0
  ·simp only[decide_eq_false (fun h:a≠0=>h ca),M4,t3,t2',vdF,vdT,oD,M8,Bool.false_eq_true,if_false,Q2,decide_eq_true ca,t4,p1,p2]
   by_cases cb:b=0
   ·simp only[decide_eq_true cb,M4,t4,vdT,oD,unN,M8,if_true,Bool.false_eq_true,if_false]
    exact fin (!anyt) (by unfold okW;simp[ca,cb])
   ·simp only[decide_eq_false cb,M4,t3,vdF,oD,M8,Bool.false_eq_true,if_false,if_true]
    exact fin false (by unfold okW;simp[ca,cb])
  ·simp only[decide_eq_true (show a≠0 from ca),M4,t4,vdT,oD,p1,p2,a3s,M8,if_true]
   by_cases cb:b=a
   ·simp only[decide_eq_false (fun h:b≠a=>h cb),M4,t2',vdT,oD,Q2,decide_eq_false ca,t3,vdF,M8,Bool.false_eq_true,if_false,if_true,wdU]
    exact fin false (by unfold okW;simp[ca,cb])
   ·simp only[decide_eq_true (show b≠a from cb),M4,t1',vdF,oD,M8,if_true]
    exact fin true (by unfold okW;simp[ca,cb])
 ·have hall:a6v types (f.stack.drop n) anyt=true:=by
   rw[List.take_of_length_le (by omega)]at hall
   exact hall
  simp only[ndP,oD,E2,Nat.zero_add,g1,f1]
  refine hc.st (ds:=[ds]) f3.cells ⟨rfl,by decide,by simp⟩ fun a'=> ?_
  rw[show l7 [l,s, .int .i64 lim] 1 [ds]=[l,ds, .int .i64 lim]from rfl]
  refine d9.here ?_
  unfold c5r
  rw[if_neg (by omega), ←hn,if_pos hall]
  have hnk:∀j,j≠k→(T.set k ⟨3,[[l,ds, .int .i64 lim]],a'⟩) j=T j:=fun j hj=>b8.set_ne _ _ _ hj
  have nk:∀d∈[l,s],∀j∈ob d,j≠k:=by
   intro d hd j hj e
   rcases List.mem_cons.1 hd with rfl|hd
   ·exact(hl.ob_none j hj).2 (by rw[e];exact List.mem_cons_self)
   ·rw[List.mem_singleton.1 hd]at hj
    exact(hst.ob_none j hj).2 (by rw[e];exact List.mem_cons_self)
  refine⟨_,rfl,e3 _ fun j hj=>hnk j (nk s (by simp) j hj),⟨l,ds,u9.new,hk0,fun j o e=> ?_, ?_, ?_⟩,hnk⟩
  ·rw[hnk]
   ·exact hle _ _ e
   ·rintro rfl;rw[hk0]at e;cases e
  ·rw[f2];exact hl.of fun j hj=>hnk j (nk l (by simp) j hj)
  ·exact f3.of fun j hj=>hnk j (nk s (by simp) j (by rw[←f2];exact hj))
end
end
end Go.Proofs.YtdkidgkiplcggaaGreat.d
end
