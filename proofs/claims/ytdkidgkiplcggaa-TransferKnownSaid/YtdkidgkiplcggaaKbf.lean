/-
  TransferKnownSaid: part Kbf of its proof.
-/
import Derived.Shelf.Sort.Plain
import Derived.Shelf.Slices.In.SortNone
import Derived.Shelf.Slices.CompactI
import Derived.Test.YtdkidgkiplcggaaProg
import Derived.Test.YtdkidgkiplcggaaKbe
set_option linter.unusedVariables false
set_option linter.unusedSimpArgs false
set_option maxRecDepth 100000
section
namespace Go.Proofs
open Go.Shelf
def Try.lays189_ren:Go.Shelf.Ren:=⟨fun|189=>39|125=>56|257=>55|128=>84|129=>85|294=>76|295=>77|296=>78|297=>79|298=>80|299=>81|216=>66|300=>82|301=>83|328=>108|329=>109|330=>110|331=>111|332=>112|215=>92|343=>128|n=>n,fun|28=>31|3=>3|46=>97|0=>0|51=>145|53=>147|4=>4|183=>139|182=>138|131=>77|5=>5|9=>9|218=>167|222=>171|228=>191|229=>192|n=>n,fun|n=>n⟩
theorem Try.lays189:Go.Proofs.Lays.n189 Try.prog Try.lays189_ren:= {
 mixed:=by kernel_rfl
 f125:=Try.func56.trans (congrArg some (by kernel_rfl))
 f128:=Try.func84.trans (congrArg some (by kernel_rfl))
 f129:=Try.func85.trans (congrArg some (by kernel_rfl))
 f189:=Try.func39.trans (congrArg some (by kernel_rfl))
 f215:=Try.func92.trans (congrArg some (by kernel_rfl))
 f216:=Try.func66.trans (congrArg some (by kernel_rfl))
 f257:=Try.func55.trans (congrArg some (by kernel_rfl))
 f294:=Try.func76.trans (congrArg some (by kernel_rfl))
 f295:=Try.func77.trans (congrArg some (by kernel_rfl))
 f296:=Try.func78.trans (congrArg some (by kernel_rfl))
 f297:=Try.func79.trans (congrArg some (by kernel_rfl))
 f298:=Try.func80.trans (congrArg some (by kernel_rfl))
 f299:=Try.func81.trans (congrArg some (by kernel_rfl))
 f300:=Try.func82.trans (congrArg some (by kernel_rfl))
 f301:=Try.func83.trans (congrArg some (by kernel_rfl))
 f328:=Try.func108.trans (congrArg some (by kernel_rfl))
 f329:=Try.func109.trans (congrArg some (by kernel_rfl))
 f330:=Try.func110.trans (congrArg some (by kernel_rfl))
 f331:=Try.func111.trans (congrArg some (by kernel_rfl))
 f332:=Try.func112.trans (congrArg some (by kernel_rfl))
 f343:=Try.func128.trans (congrArg some (by kernel_rfl))
 t0:=Try.underlying0
 a0:=Try.isAgg0
 z0:=Try.sizeOf0
 v0:=Try.zeroValue0
 t3:=Try.underlying3
 a3:=Try.isAgg3
 z3:=Try.sizeOf3
 v3:=Try.zeroValue3
 t4:=Try.underlying4
 a4:=Try.isAgg4
 z4:=Try.sizeOf4
 v4:=Try.zeroValue4
 t5:=Try.underlying5
 a5:=Try.isAgg5
 z5:=Try.sizeOf5
 v5:=Try.zeroValue5
 t9:=Try.underlying9
 a9:=Try.isAgg9
 z9:=Try.sizeOf9
 v9:=Try.zeroValue9
 t28:=Try.underlying31
 a28:=Try.isAgg31
 z28:=Try.sizeOf31
 v28:=Try.zeroValue31
 t46:=Try.underlying97
 a46:=Try.isAgg97
 z46:=Try.sizeOf97
 v46:=Try.zeroValue97
 t51:=Try.underlying145
 a51:=Try.isAgg145
 z51:=Try.sizeOf145
 v51:=Try.zeroValue145
 t53:=Try.underlying147
 a53:=Try.isAgg147
 z53:=Try.sizeOf147
 v53:=Try.zeroValue147
 t131:=Try.underlying77
 a131:=Try.isAgg77
 z131:=Try.sizeOf77
 v131:=Try.zeroValue77
 t182:=Try.underlying138
 a182:=Try.isAgg138
 z182:=Try.sizeOf138
 v182:=Try.zeroValue138
 t183:=Try.underlying139
 a183:=Try.isAgg139
 z183:=Try.sizeOf139
 v183:=Try.zeroValue139
 t218:=Try.underlying167
 a218:=Try.isAgg167
 z218:=Try.sizeOf167
 v218:=Try.zeroValue167
 t222:=Try.underlying171
 a222:=Try.isAgg171
 z222:=Try.sizeOf171
 v222:=Try.zeroValue171
 t228:=Try.underlying191
 a228:=Try.isAgg191
 z228:=Try.sizeOf191
 v228:=Try.zeroValue191
 t229:=Try.underlying192
 a229:=Try.isAgg192
 z229:=Try.sizeOf192
 v229:=Try.zeroValue192 }
def Try.laysNm220_ren:Go.Shelf.Ren:=⟨fun|20=>54|n=>n,fun|22=>31|3=>3|4=>4|0=>0|n=>n,fun|n=>n⟩
theorem Try.laysNm220:Go.Proofs.Lays2.n20 Try.prog Try.laysNm220_ren:= {
 mixed:=by kernel_rfl
 f20:=Try.func54.trans (congrArg some (by kernel_rfl))
 t0:=Try.underlying0
 a0:=Try.isAgg0
 z0:=Try.sizeOf0
 v0:=Try.zeroValue0
 t3:=Try.underlying3
 a3:=Try.isAgg3
 z3:=Try.sizeOf3
 v3:=Try.zeroValue3
 t4:=Try.underlying4
 a4:=Try.isAgg4
 z4:=Try.sizeOf4
 v4:=Try.zeroValue4
 t22:=Try.underlying31
 a22:=Try.isAgg31
 z22:=Try.sizeOf31
 v22:=Try.zeroValue31
 i3:=by kernel_rfl }
open Go.Sort Go.RowKit in
theorem Try.slices_Sort_int(blk off cap:Nat)(zs:List Int)(w:World)(hH:Holds (Value.int .i64) w blk off zs.toArray)(hblk:blk<w.heap.size)(hsz:zs.length<4611686018427387904):
  Calls Try.prog 39 #[.slice (some ⟨blk,off,none⟩) zs.length cap] w fun e w'=>
   e= .returned (.tuple #[])∧∃n os,w'=grow (putRow (Value.int .i64) (Sort.ahead w n) blk off (zs.mergeSort fun x y=>decide (x≤y)).toArray) os:=Any.slices_Sort_int Try.lays189 blk off cap zs w hH hblk hsz
open Go.RowKit Go.Lib Go.Sort in
theorem Try.slices_Compact_int(blk off cap:Nat)(zs:List Int)(w:World)(hH:Holds (Value.int .i64) w blk off zs.toArray)(hsz:zs.length≤9223372036854775807)(hcap:zs.length≤cap):
  Calls Try.prog 54 #[.slice (some ⟨blk,off,none⟩) zs.length cap] w fun e w'=>e= .returned (.slice (some ⟨blk,off,none⟩) (Lib.compact zs).length cap)∧∃q,w'=putRow (Value.int .i64) (Sort.ahead w q) blk off (Lib.compact zs++List.replicate (zs.length - (Lib.compact zs).length) 0).toArray:=Any.slices_Compact_int Try.laysNm220 blk off cap zs w hH hsz hcap
open Go.RowKit Go.Lib Go.Sort in
theorem Try.slices_Compact_int_empty(a:Option Addr)(cap:Nat)(w:World):
  Calls Try.prog 54 #[.slice a 0 cap] w fun e w'=>e= .returned (.slice a 0 cap)∧w'=w:=Any.slices_Compact_int_empty Try.laysNm220 a cap w
open Go.RowKit Go.Sort in
theorem Try.slices_Sort_int_none(p:Option Addr)(cap:Nat)(w:World):
  Calls Try.prog 39 #[.slice p 0 cap] w fun e w'=>e= .returned (.tuple #[])∧w'=w:=Any.slices_Sort_int_none Try.lays189 p cap w
end Go.Proofs
end
section
open Go.Proofs Go Go.Am Go.Op
namespace Go.Proofs.Ytdkidgkiplcggaa.d
section
set_option linter.unusedSectionVars false
def srt(l:List Int):List Int:=l.mergeSort fun x y=>decide (x≤y)
theorem b4O(l:List Int):(srt l).length=l.length:=List.length_mergeSort l
theorem c7F:b6V Try.prog a2R srt (fun _=>none) where
 has blk off cap zs w hH hb hz hc:=Try.slices_Sort_int blk off cap zs w hH hb hz
 empty a cap w:=Try.slices_Sort_int_none a cap w
 len zs:=b4O zs
 outL zs m h:=by cases h
theorem a9c(l:List Int):(Lib.compact l).length≤l.length:=by
 unfold Lib.compact Lib.compactUpTo
 rw[List.length_map]
 exact Nat.le_trans (List.length_filter_le _ _) (by simp)
theorem c2m:b6V Try.prog a0N (fun l=>Lib.compact l++List.replicate (l.length - (Lib.compact l).length) 0) (fun l=>some (Lib.compact l).length) where
 has blk off cap zs w hH hb hz hc:=Calls.mono (Try.slices_Compact_int blk off cap zs w hH (by omega) hc) fun e w' ⟨h1,q,h2⟩=>⟨h1,q, #[],by rw[Sort.grow_empty];exact h2⟩
 empty a cap w:=Try.slices_Compact_int_empty a cap w
 len zs:=by rw[List.length_append,List.length_replicate];have:=a9c zs;omega
 outL zs m h:=by cases h;exact a9c zs
theorem b9O{d:Array Int}:∀ {m:Nat},m≤d.size→(∀i j:Nat,i<j→j<d.size→d[i]! ≤d[j]!)→
  (Lib.compactUpTo d m).Pairwise (· < ·)∧(∀n,n∈Lib.compactUpTo d m↔ ∃j,j<m∧d[j]! =n)
 |0,_,_=>by
  have:Lib.compactUpTo d 0=[]:=rfl
  rw[this]
  exact⟨List.Pairwise.nil,fun n=>⟨fun h=>(by cases h),fun⟨j,h,_⟩=>absurd h (Nat.not_lt_zero j)⟩⟩
 |m+1,hm,hs=>by
  obtain⟨h1,h2⟩:=b9O (m:=m) (by omega) hs
  rw[Lib.compactUpTo_succ]
  by_cases hk:Lib.keeps d m=true
  ·rw[if_pos hk]
   have hk':m=0∨d[m]! ≠d[m - 1]! :=by unfold Lib.keeps at hk;exact of_decide_eq_true hk
   refine⟨List.pairwise_append.2 ⟨h1,List.pairwise_singleton _ _,fun a ha b hb=> ?_⟩,fun n=> ?_⟩
   ·rw[List.mem_singleton.1 hb]
    obtain⟨j,hj,rfl⟩:=(h2 a).1 ha
    have e1:d[j]! ≤d[m - 1]! :=by
     by_cases e:j=m - 1
     ·rw[e];exact Int.le_refl _
     ·exact hs j (m - 1) (by omega) (by omega)
    have e2:=hs (m - 1) m (by omega) (by omega)
    rcases hk' with hk'|hk'
    ·omega
    ·omega
   ·rw[List.mem_append,h2,List.mem_singleton]
    constructor
    ·rintro(⟨j,hj,e⟩|rfl)
     ·exact⟨j,by omega,e⟩
     ·exact⟨m,by omega,rfl⟩
    ·rintro⟨j,hj,e⟩
     by_cases hjm:j=m
     ·subst hjm;exact .inr e.symm
     ·exact .inl ⟨j,by omega,e⟩
  ·rw[if_neg hk,List.append_nil]
   have hk':¬(m=0∨d[m]! ≠d[m - 1]!):=fun h=>hk (by unfold Lib.keeps;exact decide_eq_true h)
   refine⟨h1,fun n=> ?_⟩
   rw[h2]
   constructor
   ·rintro⟨j,hj,e⟩;exact⟨j,by omega,e⟩
   ·rintro⟨j,hj,e⟩
    by_cases hjm:j=m
    ·subst hjm
     have h0:¬j=0:=fun h=>hk' (.inl h)
     have h3:d[j]! =d[j - 1]! :=Classical.not_not.1 fun h=>hk' (.inr h)
     exact⟨j - 1,by omega,by rw[←h3];exact e⟩
    ·exact⟨j,by omega,e⟩
def c7o(l:List Int):List Int:=Lib.compact (srt l)
theorem b9E(l:List Int):(c7o l).Pairwise (· < ·)∧∀n,n∈c7o l↔n∈l:=by
 have hp:(srt l).Pairwise fun a b=>a≤b:=by
  have:=List.pairwise_mergeSort (le:=fun x y:Int=>decide (x≤y)) (fun a b c h1 h2=>by simp at*;omega) (fun a b=>by simp;omega) l
  exact this.imp fun h=>by simpa using h
 have hget:∀j,j<(srt l).length→(srt l).toArray[j]! =(srt l)[j]! :=fun j hj=>by simp
 obtain⟨h1,h2⟩:=b9O (d:=(srt l).toArray) (m:=(srt l).length) (by simp) (fun i j hij hj=>by
  have hj':j<(srt l).length:=by simpa using hj
  have:=List.pairwise_iff_getElem.1 hp i j (by omega) hj' hij
  rw[getElem!_pos _ i (by simpa using(by omega:i<(srt l).length)),getElem!_pos _ j (by simpa using hj')]
  simpa using this)
 refine⟨h1,fun n=> ?_⟩
 have hm:n∈c7o l↔ ∃j,j<(srt l).length∧(srt l).toArray[j]! =n:=h2 n
 rw[hm, ←List.mem_mergeSort (le:=fun x y:Int=>decide (x≤y)) (l:=l),List.mem_iff_getElem]
 constructor
 ·rintro⟨j,hj,e⟩
  refine⟨j,hj, ?_⟩
  rw[getElem!_pos _ j (by rw[List.size_toArray];exact hj)]at e
  have e':(srt l)[j]=n:=by simpa using e
  exact e'
 ·rintro⟨j,hj,e⟩
  refine⟨j,hj, ?_⟩
  rw[getElem!_pos _ j (by rw[List.size_toArray];exact hj)]
  have e':(srt l)[j]'hj=n:=e
  rw[List.getElem_toArray]
  exact e'
theorem c3r{a b:List Int}(ha:a.Pairwise (· < ·))(hb:b.Pairwise (· < ·))(h:∀n,n∈a↔n∈b):a=b:=by
 refine List.Perm.eq_of_pairwise (le:=(· < ·)) (fun x y _ _ h1 h2=>by omega) ha hb ?_
 refine(List.perm_ext_iff_of_nodup ?_ ?_).2 h
 ·exact ha.imp fun h=>by omega
 ·exact hb.imp fun h=>by omega
section
variable{E:i9}{w0:j7}
theorem b5t(l:List Int):a0D l=iC l:=by simp[a0D,iC,A9]
theorem Own.sort{S0 S:b8}{d:D}{l:List Int}(h:Own S0 d l S)(h0:l≠[])(hl:l.length<2^60){Q:D→b8→Prop}(hQ:∀v S',Own S0 d (srt l) S'→Q v S'):j6 Try.prog E w0 a2R [d] S Q:=by
 rcases h with ⟨_,e,_⟩|⟨k,acs,ex,hk,rfl,rfl⟩
 ·exact absurd e h0
 ·refine c7F.fnD (zs:=l) (b8.set_same _ _ _) rfl (by rw[s6];omega) (by rw[List.drop_zero,List.take_of_length_le (by rw[s6];exact Nat.le_refl _),b5t]) (by omega) fun acs'=> ?_
  rw[b8.set_set]
  refine hQ _ _ (.inr ⟨k,acs',ex,hk,by rw[b4O], ?_⟩)
  rw[List.take_zero,List.nil_append,Nat.zero_add,List.drop_of_length_le (by rw[s6];exact Nat.le_refl _),List.append_nil,b5t]
theorem Own.compact{S0 S:b8}{d:D}{l:List Int}(h:Own S0 d l S)(h0:l≠[])(hl:l.length<2^60){Q:D→b8→Prop}(hQ:d9 E Q (iD (Lib.compact l)) S0):j6 Try.prog E w0 a0N [d] S fun v S'=>d9 E Q v S':=by
 rcases h with ⟨_,e,_⟩|⟨k,acs,ex,hk,rfl,rfl⟩
 ·exact absurd e h0
 ·refine c2m.fnD (zs:=l) (b8.set_same _ _ _) rfl (by rw[s6];omega) (by rw[List.drop_zero,List.take_of_length_le (by rw[s6];exact Nat.le_refl _),b5t]) (by omega) fun acs'=> ?_
  have hle:=a9c l
  refine d9.freeze (b8.set_same _ _ _) rfl (by simp[a0D]<;>omega) hle ?_
  rw[b8.set_set,b8.erase_set _ _ _ hk]
  have:D.lst (((List.take 0 (iC l)++(a0D (Lib.compact l++List.replicate (l.length - (Lib.compact l).length) 0)++List.drop (0+l.length) (iC l))).drop 0).take (Lib.compact l).length) 1=iD (Lib.compact l):=by
   rw[List.take_zero,List.nil_append,List.drop_zero,b5t,a3w,List.append_assoc,List.take_append_of_le_length (by rw[s6];exact Nat.le_refl _),List.take_of_length_le (by rw[s6];exact Nat.le_refl _)]
   rfl
  rw[this]
  exact hQ
theorem Own.under{S0 S:b8}{d:D}{l:List Int}(h:Own S0 d l S){k:Nat}{o:D6}(hk:S k=none):Own (S0.set k o) d l (S.set k o):=by
 rcases h with ⟨rfl,rfl,rfl⟩|⟨j,acs,ex,h,rfl,rfl⟩
 ·exact .inl ⟨rfl,rfl,rfl⟩
 ·obtain⟨hne,hk0⟩:=b8.fresh hk
  refine .inr ⟨j,acs,ex, ?_,rfl,b8.set_comm _ (Ne.symm hne) _ _⟩
  rw[b8.set_ne _ _ _ (Ne.symm hne)];exact h
theorem Own.push{S0 S:b8}{d:D}{l news:List Int}(h:Own S0 d l S){v:D}(hv:rowsS S 1 v=some (iC news))(hn:news≠[])(hb:l.length+news.length<2^40){K:D→b8→Prop}(hK:∀d' S',Own S0 d' (l++news) S'→K d' S'):s8 S 1 8 d v K:=by
 have hn':iC news≠[]:=fun e=>hn (List.length_eq_zero_iff.1 (by rw[←s6,e];rfl))
 simp only[s8,hv]
 rcases h with ⟨rfl,rfl,rfl⟩|⟨k,acs,ex,hk,rfl,rfl⟩
 ·simp only[a0B]
  rw[if_neg hn']
  refine⟨by rw[s6];omega, .inr fun k acs hk=>hK _ _ (.inr ⟨k,acs,false,hk,by simp,by simp⟩)⟩
 ·simp only[a0B]
  rw[if_neg hn',b8.set_same]
  simp only
  rw[if_pos ⟨by trivial,by trivial,by rw[s6];omega⟩]
  refine⟨by rw[s6];omega, .inr fun k' acs' hk'=> ?_⟩
  rw[b8.erase_set _ _ _ hk]at hk' ⊢
  refine hK _ _ (.inr ⟨k',acs',false,hk',by simp, ?_⟩)
  rw[List.drop_zero,List.take_of_length_le (by rw[s6];exact Nat.le_refl _),a3w]
theorem d1y(n:Int):c7o [n]=[n]:=c3r (b9E _).1 (List.pairwise_singleton _ _) (b9E [n]).2
def a0w(y:In)(next:Int):List Int:=
 if y.op=51∨y.op=52 then[]else if y.op=46 then[y.a]else c7o (if y.op=47∨y.op=48 then[next,y.a]else if y.op=49 then y.b::y.arms.map (·.2) else[next])
theorem d3Q{S:b8}{y:In}{K:D→b8→Prop}(h:∀k a,S k=none→K (.ptr k 0) (S.set k ⟨4,[O2 y],a⟩)):b7 (o4 (inD y)) fun cs=>j8 S cs K:=by
 rw[inD,W3,oD]
 intro k a n
 exact h k a n
theorem d3z{S:b8}{a:Int}{K:D→b8→Prop}(h:∀d S',Own S d [a] S'→K d S'):m8 S 1 (j1 1 (List.replicate 1 [(.int .i64 0)]) [(0, .int .i64 a)]) 1 K:=B4 (l:=[a]) h
theorem b6a{y:In}(hal:y.arms.length≤65535){next:Int}:P9 Try.prog E w0 a3A [inD y, .int .i64 next] (iD (a0w y next)):=fun S=>by
 refine b2A ?_
 unfold a7V
 refine d3Q fun k a n=> ?_
 have hk:z7 (S.set k ⟨4,[O2 y],a⟩) k 4 (O2 y):=z7.new
 have l1:S.le (S.set k ⟨4,[O2 y],a⟩):=b8.le_new n
 generalize (S.set k ⟨4,[O2 y],a⟩)=B at hk l1
 refine d3z fun d T hT=> ?_
 obtain⟨i0,i1,i2,i3⟩:=c7Z y
 have hk0:=hk
 have hk:=hk.le hT.le
 have g0:∀ {T:b8},z7 T k 4 (O2 y)→d0 T (.ptr k 0)=some (.int .u8 y.op):=fun h=>h.ld 0
 have g1:∀ {T:b8},z7 T k 4 (O2 y)→d0 T (.ptr k 1)=some (.int .i64 y.a):=fun h=>h.ld 1
 have g2:∀ {T:b8},z7 T k 4 (O2 y)→d0 T (.ptr k 2)=some (.int .i64 y.b):=fun h=>h.ld 2
 have g3:∀ {T:b8},z7 T k 4 (O2 y)→d0 T (.ptr k 3)=some (b3U y.arms):=fun h=>h.ld 3
 let Q:D→b8→Prop:=fun d' S'=>d'=iD (a0w y next)∧S'=S
 have fin:∀ {B' T:b8} {d:D} {l:List Int},S.le B'→Own B' d l T→l≠[]→l.length<2^60→a0w y next=c7o l→E2 E w0 (d9 E Q) d T:=by
  intro B' T d l hle ho h0 hl he
  refine a9r ?_
  unfold a4V
  refine ho.sort h0 hl fun v S' ho'=> ?_
  refine Own.compact ho' (fun e=>h0 (List.length_eq_zero_iff.1 (by rw[←b4O,e];rfl))) (by rw[b4O];exact hl) ?_
  exact d9.less hle (d9.here ⟨by rw[he];rfl,rfl⟩)
 have jump:∀ {T:b8} {d:D},Own B d [next] T→y.op=46→∃p,p9 1 d (.int .i64 0)=some p∧i7 T 1 p (.int .i64 y.a) fun v14 S15=>E2 E w0 (d9 E Q) d S15:=by
  intro T d ho h46
  exact c8P ho (i:=0) (by simp) fun S' ho'=>fin l1 ho' (by simp) (by simp) (by unfold a0w;rw[if_neg (by omega),if_pos h46];exact(d1y _).symm)
 have sw:∀ {T:b8} {d:D},Own B d [next] T→y.op=49→∃p,p9 1 d (.int .i64 0)=some p∧i7 T 1 p (.int .i64 y.b) fun v26 S27=>b7 (d0 S27 (.ptr k 3)) fun v29=>b7 (m9 v29) fun v30=>
   j3 Try.prog E w0 (.loop Z4) (l9 52 [5,36,37,38] [d,v29,v30,(.int .i64 0)]) S27 (Y6 E w0 (d9 E Q)):=by
  intro T d ho h49
  refine c8P ho (i:=0) (by simp) fun S' ho'=> ?_
  have hk:=(hk0.le ho'.le)
  rw[g3 hk,oD]
  rw[b1N,oD]
  refine b0j (I:=fun n x5 x36 x37 x38 T=>x36=b3U y.arms∧x37= .int .i64 (y.arms.length:Int)∧∃(i:Nat) (B':b8),x38= .int .i64 (i:Int)∧i+n=y.arms.length∧B.le B'∧Own B' x5 (y.b::(y.arms.take i).map (·.2)) T) ?_ (n:=y.arms.length)
   ⟨rfl,rfl,0,B,rfl,by omega,b8.le_refl _,ho'⟩
  rintro n x5 _ _ _ T ⟨rfl,rfl,i,B',rfl,hi,hB,ho⟩
  unfold a1U
  rw[L7,oD,M0]
  refine⟨fun hlt=> ?_,fun hge=> ?_⟩
  ·have hlt:i<y.arms.length:=by omega
   have ha:y.arms[i]? =some y.arms[i]:=List.getElem?_eq_getElem hlt
   rw[c8Q ha,oD,laE,if_pos ⟨by decide,by simp[a0x]⟩,oD]
   intro k3 a3 n3
   refine(z7.new (sz:=2) (c:=[.int .i64 0, .int .i64 0])).st (ds:=a0x y.arms[i]) (W3 _) ⟨rfl,by decide,by simp⟩ fun a4=> ?_
   rw[b8.set_set,show l7 [D.int .i64 0, .int .i64 0] 0 (a0x y.arms[i])=a0x y.arms[i]from rfl]
   have hb:=ho.under (o:=⟨2,[a0x y.arms[i]],a4⟩) n3
   simp only[F8,Nat.zero_add,oD]
   rw[(z7.new).ld 1,show(a0x y.arms[i])[1]? =some (.int .i64 y.arms[i].2) from rfl,oD,show j1 1 (List.replicate 1 [D.int .i64 0]) [(0, .int .i64 y.arms[i].2)]=some (iC [y.arms[i].2]) from rfl]
   refine C9 rfl ?_
   refine hb.push (news:=[y.arms[i].2]) (by simp[rowsS,J2]) (by simp) (by simp;omega) fun d' T' ho'=> ?_
   rw[H7,oD,m7 (by omega) (by omega)]
   refine⟨n - 1,by omega,by trivial,by trivial,i+1,B'.set k3 ⟨2,[a0x y.arms[i]],a4⟩,by trivial,by omega,b8.le_set hB (b8.none_of hB (b8.none_of ho.le n3)), ?_⟩
   have e:y.b::(y.arms.take (i+1)).map (·.2)=(y.b::(y.arms.take i).map (·.2))++[y.arms[i].2]:=by rw[List.take_add_one,ha,List.map_append];rfl
   rw[e]
   exact ho'
  ·rw[List.take_of_length_le (by omega)]at ho
   exact fin (b8.le_trans l1 hB) ho (by simp) (by simp;omega) (by unfold a0w;rw[if_neg (by omega),if_neg (by omega),if_neg (by omega),if_pos h49])
 have c41:∀ {b:Bool},y.op≠51∧y.op≠52∧y.op≠46→b=decide (y.op=47∨y.op=48)→V4 E w0 (d9 E Q) (.ptr k 0) d (.int .u8 y.op) (.bool b) T:=by
  intro b hne hb
  subst hb
  refine a8F ?_
  unfold a4U
  rw[M0]
  refine⟨fun h=> ?_,fun h=> ?_⟩
  ·simp only[F8,Nat.zero_add,oD,g1 hk]
   rw[show j1 1 (List.replicate 1 [D.int .i64 0]) [(0, .int .i64 y.a)]=some (iC [y.a]) from rfl]
   refine C9 rfl ?_
   refine hT.push (news:=[y.a]) (by simp[rowsS,J2]) (by simp) (by simp) fun d' T' ho'=> ?_
   exact fin l1 ho' (by simp) (by simp) (by unfold a0w;rw[if_neg (by omega),if_neg (by omega),if_pos h];rfl)
  ·rw[L1,oD,M0]
   refine⟨fun h49=> ?_,fun h49=> ?_⟩
   ·simp only[F8,Nat.zero_add,oD,g2 hk]
    obtain⟨p,e1,e2⟩:=sw hT h49
    rw[show(D.int .i64 0)= .int .i64 ((0:Nat):Int) from rfl]at*
    rw[e1,oD]
    exact e2
   ·exact fin l1 hT (by simp) (by simp) (by unfold a0w;rw[if_neg (by omega),if_neg (by omega),if_neg h,if_neg h49])
 have c21:∀ {b:Bool},b=decide (y.op=51∨y.op=52)→V2 E w0 (d9 E Q) (.ptr k 0) d (.int .u8 y.op) (.bool b) T:=by
  intro b hb
  subst hb
  refine a9B ?_
  unfold a4Q
  rw[M0]
  refine⟨fun h=> ?_,fun h=> ?_⟩
  ·refine d9.less (b8.le_trans l1 hT.le) (d9.weak (d':=iD []) (Wk.nil 1) (d9.here ⟨by unfold a0w;rw[if_pos h],rfl⟩))
  ·rw[L1,oD,M0]
   refine⟨fun h46=> ?_,fun h46=> ?_⟩
   ·simp only[F8,Nat.zero_add,oD,g1 hk]
    obtain⟨p,e1,e2⟩:=jump hT h46
    rw[e1,oD]
    exact e2
   ·rw[L1,oD,M0]
    refine⟨fun h47=>c41 (by omega) (by rw[decide_eq_true h47,decide_eq_true (.inl h47)]),fun h47=> ?_⟩
    rw[L1,oD]
    exact c41 (by omega) (by by_cases h48:y.op=48<;>simp[h47,h48])
 simp only[F8,Nat.zero_add,oD,g0 hk,L1]
 rw[M0]
 refine⟨fun h51=>c21 (by rw[decide_eq_true h51,decide_eq_true (.inl h51)]),fun h51=>c21 (by by_cases h52:y.op=52<;>simp[h51,h52])⟩
end
end
section
set_option linter.unusedSectionVars false
def c7w(S:b8)(d:D)(l:List Int)(S':b8):Prop:=(d= .nilSlc∧l=[]∧S'=S)∨∃k acs,S k=none∧d= .tip k (iC l) 1∧S'=S.set k (d2e acs)
theorem c7w.le{S S':b8}{d:D}{l:List Int}(h:c7w S d l S'):S.le S':=by
 rcases h with ⟨_,_,rfl⟩|⟨k,acs,h,_,rfl⟩
 ·exact b8.le_refl _
 ·exact b8.le_new h
theorem c7w.wk{S S':b8}{d:D}{l:List Int}(h:c7w S d l S'):Wk d (iD l):=by
 rcases h with ⟨rfl,rfl,_⟩|⟨k,acs,_,rfl,_⟩
 ·exact Wk.nil 1
 ·exact Wk.tip _ _ _
theorem c7w.push{S S' T:b8}{d:D}{l:List Int}(h:c7w S d l S')(hle:S'.le T){n:Int}{v:D}(hv:rowsS T 1 v=some (iC [n]))(hb:l.length<2^40){K:D→b8→Prop}(hK:∀T',S.le T'→(∀j o,S' j≠some o→T j=some o→T' j=some o)→K (iD (l++[n])) T'):s8 T 1 8 d v K:=by
 simp only[s8,hv]
 rcases h with ⟨rfl,rfl,rfl⟩|⟨k,acs,hk,rfl,rfl⟩
 ·simp only[a0B]
  rw[if_neg (by simp[iC,A9])]
  refine⟨by simp[iC,A9], .inl ?_⟩
  rw[List.take_of_length_le (Nat.le_refl _)]
  exact hK T hle fun j o _ h=>h
 ·refine d2u (hle _ _ (b8.set_same _ _ _)) (by simp[iC,A9]) (by rw[s6,s6];simp;omega) ?_
  rw[←a3w]
  refine hK _ (b8.le_erase (b8.le_trans (b8.le_new hk) hle) hk) fun j o h1 h2=> ?_
  rw[b8.erase_ne]
  ·exact h2
  ·rintro rfl
   have:=hle _ _ (b8.set_same S j (d2e acs))
   rw[h2]at this
   cases this
   exact h1 (b8.set_same _ _ _)
section
variable{E:i9}{w0:j7}
def d1J(S:b8)(r:Except Int (List (Dat×Nat)))(v:D)(T:b8):Prop:=match r with
 | .ok l=>∃u,v= .tup [b6q (a3k l),u, .int .i64 0]∧c7w S u (a0h l) T
 | .error e=>v= .tup [b6q [],iD [], .int .i64 e]∧T=S
theorem c7m{bs:List Int}(hb:∀b∈bs,F5 b)(hl:bs.length<2^30){S:b8}:j6 Try.prog E w0 a5u [bD bs] S (d1J S (a6P bs)):=
 (b8q hb hl).fin fun v T h=>by
  cases hr:a6P bs with
  |error e=>
   rw[hr]at h
   obtain⟨rfl,rfl⟩:=h
   exact d9.weak (d':= .tup [b6q [],iD [], .int .i64 e]) (Wk.tup ⟨Wk.nil 4,Wk.nil 1,Wk.refl _,trivial⟩) (d9.here ⟨rfl,rfl⟩)
  |ok l=>
   rw[hr]at h
   obtain⟨t,u,rfl,h1,h2,h3,h4⟩:=h
   refine d9.grA (pre:=[]) h3 h1 fun T' hle he=> ?_
   have h4':GrA S (ob t++[]) u (iC (a0h l)) 1 T':=h4.apart (fun j hj=>he j fun hm=>h3.ob_av j hm (List.mem_append_left _ hj)) fun j hj hm=>h4.ob_av j hj hm
   rcases h4' with ⟨rfl,e⟩|⟨k,acs,h0,_,rfl,hk⟩
   ·refine d9.less hle (d9.here ⟨_,rfl, .inl ⟨rfl, ?_,rfl⟩⟩)
    cases hp:a0h l with
    |nil=>rfl
    |cons a b=>rw[hp]at e;simp[iC,A9]at e
   ·refine d9.tipT (lp:=[.lst ((a3k l).map O2) 4]) (acs:=[]) hk rfl (by simp) (Nat.le_refl _) ?_
    rw[List.drop_zero]
    refine d9.less (S':=S.set k (d2e [])) (fun j o e=> ?_) (d9.here ⟨_,rfl, .inr ⟨k,[],h0,rfl,rfl⟩⟩)
    unfold b8.set at e ⊢
    split at e
    ·rename_i hj;rw[if_pos hj];exact e
    ·rename_i hj;rw[if_neg hj];exact hle _ _ e
theorem d1s{n:Int}:P9 Try.prog E w0 a1O [.int .i64 n] (.bool false):=fun S=>by
 refine b4c ?_
 unfold a9T
 rw[c2E,oD,show(n != n)=false by simp]
 exact d9.here ⟨rfl,rfl⟩
theorem d2M{a b:Int}:P9 Try.prog E w0 a5J [.int .i64 a, .int .i64 b] (.bool (decide (a<b))):=fun S=>by
 refine b4S ?_
 unfold b1b
 refine d1s.use ?_
 simp only[N6,t3,t2',vdF,vdT,gdF,oD,P0,Bool.false_eq_true,if_false,L7,wdU]
 exact d9.here ⟨rfl,rfl⟩
theorem d5S{n:Nat}(h:n<2^62):IntKind.u64.wrap (n:Int)=n:=d1I (by omega) (by omega)
theorem d0M{n:Int}:P9 Try.prog E w0 Y3 [.int .i64 n] (.bool false):=fun S=>by
 refine b0i ?_
 unfold a5x
 rw[c2E,oD,show(n != n)=false by simp]
 exact d9.here ⟨rfl,rfl⟩
theorem c3W{l:List Int}(hl:l.length<2^40)(hs:l.Pairwise (· < ·)){t:Int}{S:b8}:j6 Try.prog E w0 E0 [iD l, .int .i64 t] S fun d S'=>S'=S∧∃i:Nat,d= .tup [.int .i64 (i:Int), .bool (decide (t∈l))]∧(t∈l→l[i]? =some t):=by
 refine a4C ?_
 unfold a1q
 rw[a3I,oD]
 refine a3u (I:=fun n x0 x1 x6 x7 x8 T=>S=T∧x0=iD l∧x1= .int .i64 t∧x6= .int .i64 (l.length:Int)∧∃i j:Nat,x7= .int .i64 (i:Int)∧x8= .int .i64 (j:Int)∧i+n=j∧j≤l.length∧(∀p (hp:p<l.length),p<i→l[p]<t)∧(∀p (hp:p<l.length),j≤p→t≤l[p])) ?_ (n:=l.length)
  ⟨rfl,rfl,rfl,rfl,0,l.length,rfl,rfl,by omega,Nat.le_refl _,fun p _ h=>absurd h (Nat.not_lt_zero p),fun p hp h=>absurd hp (by omega)⟩
 rintro n _ _ _ _ _ _ ⟨rfl,rfl,rfl,rfl,i,j,rfl,rfl,hij,hj,h1,h2⟩
 unfold L9
 have hmono:∀p q (hp:p<l.length) (hq:q<l.length),p<q→l[p]<l[q]:=fun p q hp hq h=>List.pairwise_iff_getElem.1 hs p q hp hq h
 rw[L7,oD,M0]
 refine⟨fun hlt=> ?_,fun hge=> ?_⟩
 ·have hlt:i<j:=by omega
  rw[H7,oD,m7 (by omega) (by omega),cvI,oD,show((i:Int)+j)=((i+j:Nat):Int) by omega,d5S (by omega),c9k _ _ _ _ (by decide),oD]
  have hdiv:((i+j:Nat):Int).fdiv (2^(min (1:Int).toNat IntKind.u64.bits))=(((i+j) / 2:Nat):Int):=by
   rw[show(min (1:Int).toNat IntKind.u64.bits)=1 from rfl,Int.fdiv_eq_ediv_of_nonneg _ (by decide)]
   omega
  rw[hdiv,cvI,oD,m7 (by omega) (by omega)]
  have hm1:i≤(i+j) / 2:=by omega
  have hm2:(i+j) / 2<j:=by omega
  generalize (i+j) / 2=h at hm1 hm2
  have hh:h<l.length:=by omega
  rw[b3m (List.getElem?_eq_getElem hh),oD,lsE,List.getElem?_cons_zero,oD]
  refine d2M.use ?_
  rw[M0]
  refine⟨fun hc=> ?_,fun hc=> ?_⟩
  ·rw[H7,oD,m7 (by omega) (by omega)]
   refine⟨j - (h+1),by omega,rfl,rfl,rfl,rfl,h+1,j,rfl,rfl,by omega,hj,fun p hp hpi=> ?_,h2⟩
   by_cases e:p=h
   ·subst e;exact hc
   ·have:=hmono p h hp hh (by omega);omega
  ·refine⟨h - i,by omega,rfl,rfl,rfl,rfl,i,h,rfl,rfl,by omega,by omega,h1,fun p hp hpi=> ?_⟩
   by_cases e:p=h
   ·subst e;omega
   ·have:=hmono h p hh hp (by omega);omega
 ·have hij:i=j:=by omega
  subst hij
  rw[L7,oD]
  have fin:∀b:Bool,b=decide (t∈l)→(t∈l→l[i]? =some t)→d9 E (fun d S'=>S'=S∧∃i:Nat,d= .tup [.int .i64 (i:Int), .bool (decide (t∈l))]∧(t∈l→l[i]? =some t)) (.tup [.int .i64 (i:Int), .bool b]) S:=fun b hb hi=>d9.here ⟨rfl,i,by rw[hb],hi⟩
  have hin:t∈l→∃h:i<l.length,l[i]=t:=fun hm=>by
   obtain⟨p,hp,e⟩:=List.mem_iff_getElem.1 hm
   have a1:¬p<i:=fun h=>by have:=h1 p hp h;omega
   have hi:i<l.length:=by omega
   refine⟨hi, ?_⟩
   by_cases e':p=i
   ·subst e';exact e
   ·have:=hmono i p hi hp (by omega)
    have:=h2 i hi (Nat.le_refl _)
    omega
  by_cases c:i<l.length
  ·have c':(i:Int)<(l.length:Int):=by omega
   simp only[decide_eq_true c',N6,t4,vdT,oD,b3m (List.getElem?_eq_getElem c),lsE,List.getElem?_cons_zero,L1]
   by_cases ce:l[i]=t
   ·simp only[decide_eq_true ce,N6,t1',vdF,oD,P0,if_true,wdU,gdF]
    exact fin true (by rw[decide_eq_true];rw[←ce];exact List.getElem_mem c) fun _=>by rw[List.getElem?_eq_getElem c,ce]
   ·have hn:t ∉ l:=fun hm=>ce (hin hm).2
    simp only[decide_eq_false ce,N6,t2',vdT,oD,gdT]
    rw[b3m (List.getElem?_eq_getElem c),oD,lsE,List.getElem?_cons_zero,oD]
    refine d0M.use ?_
    simp only[N6,t3,vdF,oD,P0,Bool.false_eq_true,if_false,if_true,wdU,gdF]
    exact fin false (by rw[decide_eq_false hn]) fun hm=>absurd hm hn
  ·have c':¬(i:Int)<(l.length:Int):=by omega
   have hn:t ∉ l:=fun hm=>c (hin hm).1
   simp only[decide_eq_false c',N6,t3,vdF,oD,P0,Bool.false_eq_true,if_false,wdU,gdF]
   exact fin false (by rw[decide_eq_false hn]) fun hm=>absurd hm hn
end
end
section
set_option linter.unusedSectionVars false
def Sl(S0:b8)(av:List Nat)(d:D)(l:List Int)(T:b8):Prop:=
 (d= .nilSlc∧l=[])∨∃k cap ex rows acs,S0 k=none∧k ∉ av∧d= .raw k 0 l.length cap ex 1∧T k=some ⟨1,rows,acs⟩∧rows.take l.length=iC l∧l.length≤cap
theorem Sl.cells{S0 T:b8}{av:List Nat}{d:D}{l:List Int}(h:Sl S0 av d l T):o4 d=some [d]:=by
 rcases h with ⟨rfl,_⟩|⟨k,cap,ex,rows,acs,_,_,rfl,_⟩<;>rfl
theorem Sl.len{S0 T:b8}{av:List Nat}{d:D}{l:List Int}(h:Sl S0 av d l T):m9 d=some (.int .i64 (l.length:Int)):=by
 rcases h with ⟨rfl,rfl⟩|⟨k,cap,ex,rows,acs,_,_,rfl,_⟩<;>rfl
theorem c3D{rows:List (List D)}{l:List Int}(h:rows.take l.length=iC l):l.length≤rows.length:=by
 have:=congrArg List.length h
 rw[s6,List.length_take]at this
 omega
theorem c5e{rows:List (List D)}{l:List Int}(h:rows.take l.length=iC l){i:Nat}{v:Int}(hv:l[i]? =some v):rows[i]? =some [.int .i64 v]:=by
 have hi:=(List.getElem?_eq_some_iff.1 hv).1
 have:=c9B hv
 rw[←h,List.getElem?_take,if_pos hi]at this
 exact this
theorem Sl.of{S0 T T':b8}{av:List Nat}{d:D}{l:List Int}(h:Sl S0 av d l T)(e:∀j∈ob d,T' j=T j):Sl S0 av d l T':=by
 rcases h with h|⟨k,cap,ex,rows,acs,h0,h1,rfl,h2,h3⟩
 ·exact .inl h
 ·exact .inr ⟨k,cap,ex,rows,acs,h0,h1,rfl,by rw[e k (by simp[ob])];exact h2,h3⟩
theorem Sl.ob_none{S0 T:b8}{av:List Nat}{d:D}{l:List Int}(h:Sl S0 av d l T):∀j∈ob d,S0 j=none∧j ∉ av:=by
 rcases h with ⟨rfl,_⟩|⟨k,cap,ex,rows,acs,h0,h1,rfl,_⟩
 ·simp[ob]
 ·simpa [ob]using⟨h0,h1⟩
theorem Sl.ob_some{S0 T:b8}{av:List Nat}{d:D}{l:List Int}(h:Sl S0 av d l T):∀j∈ob d,T j≠none:=by
 rcases h with ⟨rfl,_⟩|⟨k,cap,ex,rows,acs,h0,h1,rfl,h2,_⟩
 ·simp[ob]
 ·simp[ob,h2]
theorem Sl.rd{S0 T:b8}{av:List Nat}{d:D}{l:List Int}(h:Sl S0 av d l T):RdI T d l:=by
 refine⟨h.len,fun i v hv=> ?_⟩
 rcases h with ⟨rfl,rfl⟩|⟨k,cap,ex,rows,acs,h0,h1,rfl,h2,h3,h4⟩
 ·simp at hv
 ·have hi:=(List.getElem?_eq_some_iff.1 hv).1
  refine⟨_,d0q hi, ?_⟩
  rw[Nat.zero_add,ldR h2 (c5e h3 hv)]
  rfl
def StT(S0:b8)(k:Nat)(f:Fr)(lim:Int)(T:b8):Prop:=
 ∃l s,z7 T k 3 [l,s, .int .i64 lim]∧S0 k=none∧S0.le T∧Sl S0 (k::ob s) l f.locals T∧Sl S0 (k::ob l) s f.stack T
def okW(anyt:Bool)(t h:Int):Bool:= !(decide (t≠0)&&decide (h≠t)||decide (t=0)&&decide (h=0)&& !anyt)
def b8d(types taken:List Int)(anyt:Bool):Bool:=(types.zip taken).all fun p=>okW anyt p.1 p.2
theorem d4X{S0 T:b8}{av:List Nat}{d:D}{l:List Int}(h:Sl S0 av d l T){n:Nat}(hn:n≤l.length)(hl:l.length<2^40):∃d',a0E 1 d (some (.int .i64 (n:Int))) none none=some d'∧RdI T d' (l.drop n)∧∀T',(∀j∈ob d,T' j=T j)→RdI T' d' (l.drop n):=by
 have main:∀T',(∀j∈ob d,T' j=T j)→∃d',a0E 1 d (some (.int .i64 (n:Int))) none none=some d'∧RdI T' d' (l.drop n):=by
  intro T' he
  rcases h.of he with ⟨rfl,rfl⟩|⟨k,cap,ex,rows,acs,h0,h1,rfl,h2,h3,h4⟩
  ·have:n=0:=by simpa using hn
   subst this
   exact⟨.nilSlc,rfl,rfl,fun i v hv=>by simp at hv⟩
  ·refine⟨.raw k (0+n) (l.length - n) (cap - n) (ex||false) 1, ?_, ?_,fun i v hv=> ?_⟩
   ·simp only[a0E,M6,c4S,b0L,b8z,if_true,Option.bind_some,d5f hn,Option.map_some,Option.isSome_none]
   ·rw[List.length_drop];rfl
   ·rw[List.getElem?_drop]at hv
    have hi:=(List.getElem?_eq_some_iff.1 hv).1
    refine⟨_,d0q (by omega), ?_⟩
    rw[ldR h2 (by rw[show 0+n+i=n+i by omega];exact c5e h3 hv)]
    rfl
 obtain⟨d',e1,e2⟩:=main T fun _ _=>rfl
 refine⟨d',e1,e2,fun T' he=> ?_⟩
 obtain⟨d2,e3,e4⟩:=main T' he
 rw[e1]at e3
 cases e3
 exact e4
theorem d5a{S0 T:b8}{av:List Nat}{d:D}{l:List Int}(h:Sl S0 av d l T){n:Nat}(hn:n≤l.length):∃d',a0E 1 d none (some (.int .i64 (n:Int))) (some (.int .i64 (n:Int)))=some d'∧ob d'=ob d∧Sl S0 av d' (l.take n) T:=by
 rcases h with ⟨rfl,rfl⟩|⟨k,cap,ex,rows,acs,h0,h1,rfl,h2,h3,h4⟩
 ·have:n=0:=by simpa using hn
  subst this
  exact⟨.nilSlc,rfl,rfl, .inl ⟨rfl,rfl⟩⟩
 ·have hnl:(l.take n).length=n:=by rw[List.length_take];omega
  refine⟨.raw k (0+0) (n - 0) (n - 0) (ex||true) 1, ?_,rfl, .inr ⟨k,n,ex||true,rows,acs,h0,h1,by rw[hnl];rfl,h2, ?_,by rw[hnl];exact Nat.le_refl _⟩⟩
  ·simp only[a0E,M6,c4S,b0L,b8z,if_true,Option.bind_some,d5f (show n≤cap by omega),d5f (Nat.le_refl n),Option.map_some,Option.isSome_some]
  ·rw[hnl]
   have:=congrArg (List.take n) h3
   rw[List.take_take,Nat.min_eq_left hn]at this
   rw[this]
   simp[iC,A9,List.map_take]
def c2Z(S0:b8)(k:Nat)(f:Fr)(lim:Int)(types:List Int)(anyt:Bool)(T:b8)(v:D)(T':b8):Prop:=
 if f.stack.length<types.length then v= .tup [.nilSlc, .int .i64 210]∧T'=T
 else if b8d types (f.stack.drop (f.stack.length - types.length)) anyt=true then ∃d,v= .tup [d, .int .i64 0]∧RdI T' d (f.stack.drop (f.stack.length - types.length))∧StT S0 k ⟨f.locals,f.stack.take (f.stack.length - types.length)⟩ lim T'∧∀j,j≠k→T' j=T j
 else v= .tup [.nilSlc, .int .i64 211]∧T'=T
section
variable{E:i9}{w0:j7}
theorem d2O{S0 T:b8}{k:Nat}{f:Fr}{lim:Int}(h:StT S0 k f lim T)(hs:f.stack.length<2^40){types:List Int}(ht:types.length<2^40){anyt:Bool}:
  j6 Try.prog E w0 a0u [.ptr k 0,iD types, .bool anyt] T (c2Z S0 k f lim types anyt T):=by
 obtain⟨l,s,hc,hk0,hle,hl,hst⟩:=h
 refine a7B ?_
 unfold a3j
 have g1:d0 T (.ptr k 1)=some s:=hc.ld 1
 simp only[ndP,oD,F8,Nat.zero_add,g1,hst.len,a3I,b3c,m7 (show -9223372036854775808≤(f.stack.length:Int) - types.length by omega) (by omega),L7]
 rw[M0]
 refine⟨fun h=> ?_,fun h=> ?_⟩
 ·exact d9.here (by unfold c2Z;rw[if_pos (by omega)];exact⟨rfl,rfl⟩)
 obtain⟨n,hn⟩:∃n:Nat,n=f.stack.length - types.length:=⟨_,rfl⟩
 have hn':(f.stack.length:Int) - types.length=(n:Int):=by omega
 rw[hn']
 obtain⟨dt,e1,e2,e3⟩:=d4X hst (n:=n) (by omega) hs
 rw[e1,oD]
 obtain⟨ds,f1,f2,f3⟩:=d5a hst (n:=n) (by omega)
 have htl:(f.stack.drop n).length=types.length:=by rw[List.length_drop];omega
 refine a5P (I:=fun m x0 x2 x8 x9 x30 x31 x32 T'=>T=T'∧x0= .ptr k 0∧x2= .bool anyt∧x8= .int .i64 (n:Int)∧dt=x9∧x30=iD types∧x31= .int .i64 (types.length:Int)∧∃i:Nat,x32= .int .i64 (i:Int)∧i+m=types.length∧((types.zip (f.stack.drop n)).take i).all (fun p=>okW anyt p.1 p.2)=true) ?_ (n:=types.length)
  ⟨rfl,rfl,rfl,rfl,rfl,rfl,rfl,0,rfl,by omega,rfl⟩
 rintro m _ _ _ _ _ _ _ _ ⟨rfl,rfl,rfl,rfl,rfl,rfl,rfl,i,rfl,hi,hall⟩
 unfold V8
 have hzl:(types.zip (f.stack.drop n)).length=types.length:=by rw[List.length_zip,htl,Nat.min_self]
 rw[L7,oD,M0]
 refine⟨fun hlt=> ?_,fun hge=> ?_⟩
 ·have hlt:i<types.length:=by omega
  have hi1:types[i]? =some types[i]:=List.getElem?_eq_getElem hlt
  have hi2:(f.stack.drop n)[i]? =some (f.stack.drop n)[i]:=List.getElem?_eq_getElem (by omega)
  obtain⟨p,p1,p2⟩:=e2.2 i _ hi2
  generalize (f.stack.drop n)[i]=b at hi2 p2
  generalize types[i]=a at hi1
  have hz:(types.zip (f.stack.drop n))[i]? =some (a,b):=by rw[List.getElem?_zip_eq_some];exact⟨hi1,hi2⟩
  have next:okW anyt a b=true→((types.zip (f.stack.drop n)).take (i+1)).all (fun p=>okW anyt p.1 p.2)=true:=fun h=>by
   rw[List.take_add_one,hz,List.all_append,hall];simp[h]
  have bad:okW anyt a b=false→b8d types (f.stack.drop n) anyt=false:=fun h=>by
   unfold b8d
   rw[List.all_eq_false]
   exact⟨(a,b),List.mem_of_getElem? hz,by rw[h];decide⟩
  have fin:∀c:Bool,okW anyt a b= !c→i5 (.bool c) (d9 E (c2Z S0 k f lim types anyt T) (.tup [.nilSlc,(.int .i64 211)]) T)
    (b7 (f9 .add (.int .i64 (i:Int)) (.int .i64 1)) fun v39=>∃m',m'<m∧(True∧True∧True∧True∧True∧True∧True∧∃i:Nat,v39= .int .i64 (i:Int)∧i+m'=types.length∧((types.zip (f.stack.drop n)).take i).all (fun p=>okW anyt p.1 p.2)=true)):=by
   intro c hcc
   cases c with
   |true=>
    rw[cdT]
    refine d9.here ?_
    unfold c2Z
    rw[if_neg (by omega), ←hn,if_neg (by rw[bad hcc];decide)]
    exact⟨rfl,rfl⟩
   |false=>
    rw[cdF,H7,oD,m7 (by omega) (by omega)]
    exact⟨m - 1,by omega,trivial,trivial,trivial,trivial,trivial,trivial,trivial,i+1,rfl,by omega,next hcc⟩
  simp only[b3m hi1,oD,lsE,List.getElem?_cons_zero,a5M]
  by_cases ca:a=0
  ·simp only[decide_eq_false (fun h:a≠0=>h ca),N6,t3,t2',vdF,vdT,oD,P0,Bool.false_eq_true,if_false,L1,decide_eq_true ca,t4,p1,p2]
   by_cases cb:b=0
   ·simp only[decide_eq_true cb,N6,t4,vdT,oD,unN,P0,if_true,Bool.false_eq_true,if_false]
    exact fin (!anyt) (by unfold okW;simp[ca,cb])
   ·simp only[decide_eq_false cb,N6,t3,vdF,oD,P0,Bool.false_eq_true,if_false,if_true]
    exact fin false (by unfold okW;simp[ca,cb])
  ·simp only[decide_eq_true (show a≠0 from ca),N6,t4,vdT,oD,p1,p2,a5M,P0,if_true]
   by_cases cb:b=a
   ·simp only[decide_eq_false (fun h:b≠a=>h cb),N6,t2',vdT,oD,L1,decide_eq_false ca,t3,vdF,P0,Bool.false_eq_true,if_false,if_true,wdU]
    exact fin false (by unfold okW;simp[ca,cb])
   ·simp only[decide_eq_true (show b≠a from cb),N6,t1',vdF,oD,P0,if_true]
    exact fin true (by unfold okW;simp[ca,cb])
 ·have hall:b8d types (f.stack.drop n) anyt=true:=by
   rw[List.take_of_length_le (by omega)]at hall
   exact hall
  simp only[ndP,oD,F8,Nat.zero_add,g1,f1]
  refine hc.st (ds:=[ds]) f3.cells ⟨rfl,by decide,by simp⟩ fun a'=> ?_
  rw[show l7 [l,s, .int .i64 lim] 1 [ds]=[l,ds, .int .i64 lim]from rfl]
  refine d9.here ?_
  unfold c2Z
  rw[if_neg (by omega), ←hn,if_pos hall]
  have hnk:∀j,j≠k→(T.set k ⟨3,[[l,ds, .int .i64 lim]],a'⟩) j=T j:=fun j hj=>b8.set_ne _ _ _ hj
  have nk:∀d∈[l,s],∀j∈ob d,j≠k:=by
   intro d hd j hj e
   rcases List.mem_cons.1 hd with rfl|hd
   ·exact(hl.ob_none j hj).2 (by rw[e];exact List.mem_cons_self)
   ·rw[List.mem_singleton.1 hd]at hj
    exact(hst.ob_none j hj).2 (by rw[e];exact List.mem_cons_self)
  refine⟨_,rfl,e3 _ fun j hj=>hnk j (nk s (by simp) j hj),⟨l,ds,z7.new,hk0,fun j o e=> ?_, ?_, ?_⟩,hnk⟩
  ·rw[hnk]
   ·exact hle _ _ e
   ·rintro rfl;rw[hk0]at e;cases e
  ·rw[f2];exact hl.of fun j hj=>hnk j (nk l (by simp) j hj)
  ·exact f3.of fun j hj=>hnk j (nk s (by simp) j (by rw[←f2];exact hj))
end
end
end Go.Proofs.Ytdkidgkiplcggaa.d
end
