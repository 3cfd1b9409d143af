/-
  BlocksCutsSaid: part Pba of its proof.
-/
import Derived.Test.YtdkidgkiplcggaaPay
import Derived.Test.YtdkidgkiplcggaaPaz
import Derived.Test.YtdkidgkiplcggaaPax
import Derived.Test.YtdkidgkiplcggaaPaw
set_option linter.unusedVariables false
set_option linter.unusedSimpArgs false
set_option maxRecDepth 100000
section
open Go.Proofs Go Go.Am Go.Op
namespace Go.Proofs.Ytdkidgkiplcggaa.d
set_option linter.unusedSectionVars false
def a0l(y:In):Bool:=decide (46≤y.op∧y.op≤49∨y.op=51∨y.op=52)
section
variable{E:g8}{w0:j0}
theorem Own.compactO{S0 S:b5}{d:D}{l:List Int}(h:Own S0 d l S)(h0:l≠[])(hl:l.length<2^60){K:D→b5→Prop}(hK:∀v S',S0.le S'→Sl S0 [] v (Lib.compact l) S'→K v S'):p8 Try.prog E w0 K8 [d] S K:=by
 rcases h with ⟨_,e,_⟩|⟨k,acs,ex,hk,rfl,rfl⟩
 ·exact absurd e h0
 ·refine a9v.fnD (zs:=l) (b5.set_same _ _ _) rfl (by rw[m8];omega) (by rw[List.drop_zero,List.take_of_length_le (by rw[m8];exact Nat.le_refl _),a1j]) (by omega) fun acs'=> ?_
  have hle:=a1G l
  rw[b5.set_set]
  refine hK _ _ (b5.le_new hk) (.inr ⟨k,l.length,ex,_,acs',hk,by simp,rfl,b5.set_same _ _ _, ?_,hle⟩)
  rw[List.take_zero,List.nil_append,a1j,a0S,List.append_assoc,List.take_append_of_le_length (by rw[m8];exact Nat.le_refl _),List.take_of_length_le (by rw[m8];exact Nat.le_refl _)]
theorem Sl.under{S0 S1 S:b5}{d:D}{l:List Int}(h:Sl S1 [] d l S)(hle:S0.le S1):Sl S0 [] d l S:=by
 rcases h with h|⟨k,cap,ex,rows,acs,h0,h⟩
 ·exact .inl h
 ·exact .inr ⟨k,cap,ex,rows,acs,b5.none_of hle h0,h⟩
theorem Sl.finTT{S0 T:b5}{d:D}{l:List Int}(h:Sl S0 [] d l T)(hle:S0.le T){Q:D→b5→Prop}{lp lq:List D}(hq:b9 E Q (.tup (lp++iD l::lq)) S0):b9 E Q (.tup (lp++d::lq)) T:=by
 rcases h with ⟨rfl,rfl⟩|⟨k,cap,ex,rows,acs,h0,h1,rfl,h2,h3,h4⟩
 ·exact b9.less hle (b9.nilT hq)
 ·refine b9.freezeT h2 rfl (by have:=a8Q h3;simp only;omega) h4 ?_
  rw[List.drop_zero,h3]
  exact b9.less (b5.le_erase hle h0) hq
theorem a5I{y:In}(hal:y.arms.length≤65535){next:Int}{S:b5}:p8 Try.prog E w0 I9 [inD y, .int .i64 next] S fun v T=>S.le T∧∃d,v= .tup [d, .bool (a0l y)]∧Sl S [] d (p4 y next) T:=by
 refine b1o ?_
 unfold a7N
 refine c8F fun k a n=> ?_
 have hk:D3 (S.set k ⟨4,[N7 y],a⟩) k 4 (N7 y):=D3.new
 have l1:S.le (S.set k ⟨4,[N7 y],a⟩):=b5.le_new n
 generalize (S.set k ⟨4,[N7 y],a⟩)=B at hk l1
 obtain⟨i0,i1,i2,i3⟩:=c9j y
 have hk0:=hk
 have g0:∀ {T:b5},D3 T k 4 (N7 y)→d9 T (.ptr k 0)=some (.int .u8 y.op):=fun h=>h.ld 0
 have g1:∀ {T:b5},D3 T k 4 (N7 y)→d9 T (.ptr k 1)=some (.int .i64 y.a):=fun h=>h.ld 1
 have g2:∀ {T:b5},D3 T k 4 (N7 y)→d9 T (.ptr k 2)=some (.int .i64 y.b):=fun h=>h.ld 2
 have g3:∀ {T:b5},D3 T k 4 (N7 y)→d9 T (.ptr k 3)=some (a5e y.arms):=fun h=>h.ld 3
 let Q:D→b5→Prop:=fun v T=>S.le T∧∃d,v= .tup [d, .bool (a0l y)]∧Sl S [] d (p4 y next) T
 have fin:∀ {B' T:b5} {d:D} {l:List Int},S.le B'→Own B' d l T→l≠[]→l.length<2^60→a0l y=true→p4 y next=X8 l→U9 E w0 (b9 E Q) d T:=by
  intro B' T d l hle ho h0 hl hen he
  refine a7F ?_
  unfold a4i
  refine ho.sort h0 hl fun v S' ho'=> ?_
  refine ho'.compactO (fun e=>h0 (List.length_eq_zero_iff.1 (by rw[←a6d,e];rfl))) (by rw[a6d];exact hl) fun w S2 hle2 hs=> ?_
  exact b9.here ⟨b5.le_trans hle hle2,w,by rw[hen],by rw[he];exact hs.under hle⟩
 have sw:∀ {T:b5} {d:D},Own B d [y.b] T→y.op=49→b4 (d9 T (.ptr k 3)) fun v23=>b4 (j9 v23) fun v24=>f9 Try.prog E w0 (.loop Y4) (i7 49 [4,33,34,35] [d,v23,v24,(.int .i64 0)]) T (Z2 E w0 (b9 E Q)):=by
  intro T d ho' h49
  have hk:=(hk0.le ho'.le)
  rw[g3 hk,oD]
  rw[c1e,oD]
  refine a8Z (I:=fun n x5 x36 x37 x38 T=>x36=a5e y.arms∧x37= .int .i64 (y.arms.length:Int)∧∃(i:Nat) (B':b5),x38= .int .i64 (i:Int)∧i+n=y.arms.length∧B.le B'∧Own B' x5 (y.b::(y.arms.take i).map (·.2)) T) ?_ (n:=y.arms.length)
   ⟨rfl,rfl,0,B,rfl,by omega,b5.le_refl _,ho'⟩
  rintro n x5 _ _ _ T ⟨rfl,rfl,i,B',rfl,hi,hB,ho⟩
  unfold a1C
  rw[M7,oD,V7]
  refine⟨fun hlt=> ?_,fun hge=> ?_⟩
  ·have hlt:i<y.arms.length:=by omega
   have ha:y.arms[i]? =some y.arms[i]:=List.getElem?_eq_getElem hlt
   rw[c4R ha,oD,laE,if_pos ⟨by decide,by simp[Y1]⟩,oD]
   intro k3 a3 n3
   refine(D3.new (sz:=2) (c:=[.int .i64 0, .int .i64 0])).st (ds:=Y1 y.arms[i]) (clA _) ⟨rfl,by decide,by simp⟩ fun a4=> ?_
   rw[b5.set_set,show j4 [D.int .i64 0, .int .i64 0] 0 (Y1 y.arms[i])=Y1 y.arms[i]from rfl]
   have hb:=ho.under (o:=⟨2,[Y1 y.arms[i]],a4⟩) n3
   simp only[ofP,Nat.zero_add,oD]
   rw[(D3.new).ld 1,show(Y1 y.arms[i])[1]? =some (.int .i64 y.arms[i].2) from rfl,oD,show o7 1 (List.replicate 1 [D.int .i64 0]) [(0, .int .i64 y.arms[i].2)]=some (iC [y.arms[i].2]) from rfl]
   refine E8 rfl ?_
   refine hb.push (news:=[y.arms[i].2]) (by simp[rowsS,C1]) (by simp) (by simp;omega) fun d' T' ho'=> ?_
   rw[C4,oD,i6 (by omega) (by omega)]
   refine⟨n - 1,by omega,by trivial,by trivial,i+1,B'.set k3 ⟨2,[Y1 y.arms[i]],a4⟩,by trivial,by omega,b5.le_set hB (b5.none_of hB (b5.none_of ho.le n3)), ?_⟩
   have e:y.b::(y.arms.take (i+1)).map (·.2)=(y.b::(y.arms.take i).map (·.2))++[y.arms[i].2]:=by rw[List.take_add_one,ha,List.map_append];rfl
   rw[e]
   exact ho'
  ·rw[List.take_of_length_le (by omega)]at ho
   exact fin (b5.le_trans l1 hB) ho (by simp) (by simp;omega) (by unfold a0l;simp[h49]) (by unfold p4;rw[if_neg (by omega),if_neg (by omega),if_neg (by omega),if_pos h49])
 have c41:∀ {b:Bool},y.op≠51∧y.op≠52∧y.op≠46→b=decide (y.op=47∨y.op=48)→U7 E w0 (b9 E Q) (.int .i64 next) (.ptr k 0) (.int .u8 y.op) (.bool b) B:=by
  intro b hne hb
  subst hb
  refine a7w ?_
  unfold a4E
  rw[V7]
  refine⟨fun h=> ?_,fun h=> ?_⟩
  ·simp only[ofP,Nat.zero_add,oD,g1 hk]
   refine c4Y (l:=[y.a,next]) fun d T hT=> ?_
   refine fin l1 hT (by simp) (by simp) (by unfold a0l;rcases h with h|h<;>simp[h]) ?_
   unfold p4
   rw[if_neg (by omega),if_neg (by omega),if_pos h]
   exact O1 (D4 _).1 (D4 _).1 fun n=>by rw[(D4 _).2,(D4 _).2];simp[or_comm]
  ·rw[O7,oD,V7]
   refine⟨fun h49=> ?_,fun h49=> ?_⟩
   ·simp only[ofP,Nat.zero_add,oD,g2 hk]
    exact a8O fun d T hT=>sw hT h49
   ·refine a8O fun d T hT=> ?_
    have e1:p4 y next=[next]:=by unfold p4;rw[if_neg (by omega),if_neg (by omega),if_neg h,if_neg h49];exact c2k _
    have e2:a0l y=false:=by unfold a0l;simp;omega
    exact b9.here ⟨b5.le_trans l1 hT.le,d,by rw[e2],by rw[e1];exact c0m hT l1 (by simp)⟩
 have c21:∀ {b:Bool},b=decide (y.op=51∨y.op=52)→V5 E w0 (b9 E Q) (.int .i64 next) (.ptr k 0) (.int .u8 y.op) (.bool b) B:=by
  intro b hb
  subst hb
  refine a7Z ?_
  unfold a4v
  rw[V7]
  refine⟨fun h=> ?_,fun h=> ?_⟩
  ·have e1:p4 y next=[]:=by unfold p4;rw[if_pos h]
   have e2:a0l y=true:=by unfold a0l;rcases h with h|h<;>simp[h]
   exact b9.here ⟨l1, .nilSlc,by rw[e2], .inl ⟨rfl,e1⟩⟩
  ·rw[O7,oD,V7]
   refine⟨fun h46=> ?_,fun h46=> ?_⟩
   ·simp only[ofP,Nat.zero_add,oD,g1 hk]
    refine a8O fun d T hT=> ?_
    have e1:p4 y next=[y.a]:=by unfold p4;rw[if_neg h,if_pos h46]
    have e2:a0l y=true:=by unfold a0l;simp[h46]
    exact b9.here ⟨b5.le_trans l1 hT.le,d,by rw[e2],by rw[e1];exact c0m hT l1 (by simp)⟩
   ·rw[O7,oD,V7]
    refine⟨fun h47=>c41 (by omega) (by rw[decide_eq_true h47,decide_eq_true (.inl h47)]),fun h47=> ?_⟩
    rw[O7,oD]
    exact c41 (by omega) (by by_cases h48:y.op=48<;>simp[h47,h48])
 simp only[ofP,Nat.zero_add,oD,g0 hk,O7]
 rw[V7]
 refine⟨fun h51=>c21 (by rw[decide_eq_true h51,decide_eq_true (.inl h51)]),fun h51=>c21 (by by_cases h52:y.op=52<;>simp[h51,h52])⟩
theorem a6O{y:In}(hal:y.arms.length≤65535){next:Int}:U2 Try.prog E w0 I9 [inD y, .int .i64 next] (.tup [iD (p4 y next), .bool (a0l y)]):=fun S=>
 (a5I hal).fin fun v T ⟨hle,d,e,hs⟩=>by
  subst e
  exact hs.finTT (lp:=[]) hle (b9.here ⟨rfl,rfl⟩)
end
end Go.Proofs.Ytdkidgkiplcggaa.d
end
section
namespace Go.Am
section
section
variable{P:Program}{E:g8}{w0:j0}
theorem c2B(k:Nat)(o:A2):∀(ds:List D) (i:Nat) (v:D),a0W k o (ds.set i v)=(a0W k o ds).set i (frz k o v)
 | [],i,v=>by simp[a0W]
 |d::ds,0,v=>by simp[a0W]
 |d::ds,i+1,v=>by simp only[List.set_cons_succ,a0W,c2B k o ds i v]
theorem c1p(k:Nat)(o:A2):∀n:Nat,a0W k o (List.replicate n .any)=List.replicate n .any
 |0=>rfl
 |n+1=>by simp only[List.replicate_succ,a0W,c1p k o n];simp[frz]
theorem b3V(k:Nat)(o:A2):∀(T:List D) (L:List Nat) (vs:List D),a0W k o (a0K T L vs)=a0K (a0W k o T) L (a0W k o vs)
 |T,i::L,v::vs=>by simp only[a0K,a0W];rw[b3V k o _ L vs,c2B]
 |T,[],[]=>by simp[a0K,a0W]
 |T,[],_::_=>by simp[a0K,a0W]
 |T,_::_,[]=>by simp[a0K,a0W]
theorem c0T{c:Code}{n:Nat}{L:List Nat}{vs:List D}{S:b5}{Q:j7→List D→b5→Prop}{k:Nat}{o:A2}(hk:S k=some o)(hc:c3j o)(h:f9 P E w0 c (i7 n L (a0W k o vs)) (S.erase k) Q):f9 P E w0 c (i7 n L vs) S Q:=fun R H avs F hC hT=>by
 obtain⟨h1,h2⟩:=hC.freeze hk hc
 have e:a0W k o (i7 n L vs)=i7 n L (a0W k o vs):=by unfold i7;rw[b3V,c1p]
 have hT':=a8N hC hk h2 (fun _=>if_pos rfl) hT
 rw[e]at hT'
 have:=(E6.at_le h2 (h _ H avs F h1 hT')).mono fun ex T' H' hq=>a3i.le h2 hq
 rw[j2]at this
 show E6 P E (w0.at E R) c avs H (c7l E R (i7 n L vs).length Q)
 rw[j2]
 exact this
end
end
section
def b4N(t:Int×Int×Nat):List D:=[.int .i64 t.1, .int .i64 t.2.1, .int .i64 (t.2.2:Int)]
structure N6 (S:b5) (k:Nat) (ts:List (Int×Int×Nat)):Prop where
 has:∃acs,S k=some (b5a (ts.map b4N) acs)
 keys:(ts.map (·.1)).Nodup
 stamps:(ts.map (·.2.2)).Nodup
theorem a8x(rows:List (List D))(acs:List AV):a6S (b5a rows acs)=some rows:=by
 unfold a6S b5a
 rw[if_pos rfl]
theorem a3I(q:Int):∀(ts:List (Int×Int×Nat)) (i:Nat),(q ∉ ts.map (·.1)∧a9q (.int .i64 q) (ts.map b4N) i=some none)∨
  ∃j t,ts[j]? =some t∧t.1=q∧a9q (.int .i64 q) (ts.map b4N) i=some (some (i+j, .int .i64 t.2.1, .int .i64 (t.2.2:Int)))
 | [],i=> .inl ⟨by simp,rfl⟩
 |t::ts,i=>by
  simp only[List.map_cons,b4N,a9q,b9R,if_true]
  by_cases h:q=t.1
  ·refine .inr ⟨0,t,rfl,h.symm, ?_⟩
   rw[show(q==t.1)=true by simpa using h]
   rfl
  ·rw[show(q==t.1)=false by simpa using h]
   rcases a3I q ts (i+1) with ⟨h1,h2⟩|⟨j,t',h1,h2,h3⟩
   ·exact .inl ⟨by simpa [h]using h1,h2⟩
   ·exact .inr ⟨j+1,t',h1,h2,by rw[h3,Nat.add_assoc,Nat.add_comm 1 j]⟩
theorem N6.of{S S':b5}{k:Nat}{ts:List (Int×Int×Nat)}(h:N6 S k ts)(e:S' k=S k):N6 S' k ts:=⟨by rw[e];exact h.has,h.keys,h.stamps⟩
theorem N6.there{S:b5}{k:Nat}{ts:List (Int×Int×Nat)}(h:N6 S k ts):S k≠none:=by obtain⟨a,e⟩:=h.has;rw[e];simp
theorem N6.put{S:b5}{k:Nat}{ts:List (Int×Int×Nat)}(h:N6 S k ts){q v:Int}{K:D→b5→Prop}
  (hK:∀ts' S',(∀n,n∈ts'.map (·.1)↔n=q∨n∈ts.map (·.1))→N6 S' k ts'→(∀j,j≠k→S' j=S j)→K b6 S'):b4t S 0 (.mp k) (.int .i64 q) (.int .i64 v) K:=by
 obtain⟨acs,hS⟩:=h.has
 simp only[b4t,b1N,hS,a8x,beq_self_eq_true,if_true]
 rcases a3I q ts 0 with ⟨h1,h2⟩|⟨j,t,h1,h2,h3⟩
 ·rw[h2]
  intro n acs' hn
  refine hK (ts++[(q,v,n)]) _ (fun m=>by simp[or_comm]) ⟨⟨acs',by rw[b5.set_same,List.map_append];rfl⟩, ?_, ?_⟩ fun j hj=>b5.set_ne _ _ _ hj
  ·rw[List.map_append,List.nodup_append]
   exact⟨h.keys,by simp,fun a ha b hb=>by simp at hb;subst hb;exact fun e=>h1 (by rw[←e];exact ha)⟩
  ·rw[List.map_append,List.nodup_append]
   refine⟨h.stamps,by simp,fun a ha b hb=> ?_⟩
   simp at hb
   subst hb
   rintro rfl
   obtain⟨t,ht,e⟩:=List.mem_map.1 ha
   exact hn (b4N t) (List.mem_map.2 ⟨t,ht,rfl⟩) (by simp[b4N,e])
 ·rw[h3]
  intro acs'
  have hj:j<ts.length:=(List.getElem?_eq_some_iff.1 h1).1
  have e0:∀ {α:Type} (f:Int×Int×Nat→α),f (q,v,t.2.2)=f t→(ts.set j (q,v,t.2.2)).map f=ts.map f:=fun f hf=>by
   rw[List.map_set,hf]
   apply List.ext_getElem?
   intro i
   rw[List.getElem?_set]
   split
   ·rename_i e
    subst e
    rw[List.length_map,if_pos hj,List.getElem?_map,h1];rfl
   ·rfl
  have k1:=e0 (·.1) h2.symm
  have k2:=e0 (·.2.2) rfl
  refine hK (ts.set j (q,v,t.2.2)) _ (fun n=> ?_) ⟨⟨acs', ?_⟩,by rw[k1];exact h.keys,by rw[k2];exact h.stamps⟩ fun j hj=>b5.set_ne _ _ _ hj
  ·rw[k1]
   constructor
   ·exact .inr
   ·rintro(rfl|h)
    ·exact List.mem_map.2 ⟨t,List.mem_of_getElem? h1,h2⟩
    ·exact h
  ·rw[b5.set_same,List.map_set,Nat.zero_add];rfl
theorem N6.look{S:b5}{k:Nat}{ts:List (Int×Int×Nat)}(h:N6 S k ts)(q:Int):∃v:Int,a7O S 0 (.int .i64 0) false (.mp k) (.int .i64 q)=some (.int .i64 v):=by
 obtain⟨acs,hS⟩:=h.has
 simp only[a7O,b1N,c3D,hS,a8x,beq_self_eq_true,if_true]
 rcases a3I q ts 0 with ⟨h1,h2⟩|⟨j,t,h1,h2,h3⟩
 ·rw[h2];exact⟨0,rfl⟩
 ·rw[h3];exact⟨t.2.1,rfl⟩
theorem N6.new{S:b5}{K:D→b5→Prop}(h:∀k S',S k=none→N6 S' k []→(∀j,j≠k→S' j=S j)→K (.mp k) S'):b7l S K:=fun k acs hk=>h k _ hk ⟨⟨acs,b5.set_same _ _ _⟩,by simp,by simp⟩ fun j hj=>b5.set_ne _ _ _ hj
theorem a8t{α β:Type}{f:α→β}:∀ {l:List α},(l.map f).Nodup→∀ {a b:α},a∈l→b∈l→f a=f b→a=b
 | [],_,a,b,ha,_,_=>by cases ha
 |x::l,h,a,b,ha,hb,e=>by
  simp only[List.map_cons,List.nodup_cons]at h
  rcases List.mem_cons.1 ha with h1|h1<;>rcases List.mem_cons.1 hb with h2|h2
  ·rw[h1,h2]
  ·exact(h.1 (List.mem_map.2 ⟨b,h2,by rw[←e,h1]⟩)).elim
  ·exact(h.1 (List.mem_map.2 ⟨a,h1,by rw[e,h2]⟩)).elim
  ·exact a8t h.2 h1 h2 e
def a5F(S:b5)(j m:Nat)(dn ts:List (Int×Int×Nat)):Prop:=∃acs,S j=some ⟨b4m,[.mp m]::dn.map (fun t=> .int .i64 (t.2.2:Int))::ts.map b4N,acs⟩
theorem N6.range{S:b5}{k:Nat}{ts:List (Int×Int×Nat)}(h:N6 S k ts){K:D→b5→Prop}(hK:∀j S',S j=none→a5F S' j k [] ts→(∀i,i≠j→i≠k→S' i=S i)→K (.ptr j 0) S'):b0a S (.mp k) K:=by
 obtain⟨acs,hS⟩:=h.has
 simp only[b0a,hS,a8x]
 exact fun j acs' hj=>hK j _ hj ⟨acs',b5.set_same _ _ _⟩ fun i h1 h2=>by rw[b5.set_ne _ _ _ h1,b5.erase_ne _ _ h2]
theorem c4z(m:Nat)(sr:List D)(rows:List (List D))(acs:List AV):b8I ⟨b4m,[.mp m]::sr::rows,acs⟩=some (m,sr,rows):=by
 unfold b8I
 rw[if_pos rfl]
theorem a5F.next{S:b5}{j m:Nat}{dn ts:List (Int×Int×Nat)}(h:a5F S j m dn ts)(hst:(ts.map (·.2.2)).Nodup)(hsub:∀t∈dn,t∈ts){K:D→b5→Prop}
  (h1:∀t∈ts,t ∉ dn→∀S',a5F S' j m (dn++[t]) ts→(∀i,i≠j→S' i=S i)→K (.tup [.bool true, .int .i64 t.1, .int .i64 t.2.1]) S') (h2:(∀t∈ts,t∈dn)→K (.tup [.bool false]) S):b8F S (.ptr j 0) K:=by
 obtain⟨acs,hS⟩:=h
 simp only[b8F,hS,c4z]
 have uniq:∀a∈ts,∀b∈ts,a.2.2=b.2.2→a=b:=fun a ha b hb e=>a8t hst ha hb e
 refine⟨fun key x n hrow hn acs'=> ?_,fun hall=>h2 fun t ht=> ?_⟩
 ·obtain⟨t,ht,e⟩:=List.mem_map.1 hrow
  simp only[b4N,List.cons.injEq,and_true]at e
  obtain⟨rfl,rfl,rfl⟩:=e
  refine h1 t ht (fun hd=>hn (List.mem_map.2 ⟨t,hd,rfl⟩)) _ ⟨acs', ?_⟩ fun i hi=>b5.set_ne _ _ _ hi
  rw[b5.set_same,List.map_append];rfl
 ·have:=hall _ _ _ (List.mem_map.2 ⟨t,ht,rfl⟩)
  obtain⟨t',ht',e⟩:=List.mem_map.1 this
  simp only[D.int.injEq,true_and,Int.natCast_inj]at e
  rw[uniq t ht t' (hsub t' ht') e.symm]
  exact ht'
theorem a5F.entry{S:b5}{j m:Nat}{dn ts:List (Int×Int×Nat)}{t:Int×Int×Nat}(h:a5F S j m (dn++[t]) ts)(ht:t∈ts){K:D→b5→Prop}(hK:K (.tup [.int .i64 t.1, .int .i64 t.2.1]) S):b2L S (.ptr j 0) K:=by
 obtain⟨acs,hS⟩:=h
 simp only[b2L,hS,c4z]
 exact⟨_,_,_,List.mem_map.2 ⟨t,ht,rfl⟩,by simp,hK⟩
theorem a5F.of{S S':b5}{j m:Nat}{dn ts:List (Int×Int×Nat)}(h:a5F S j m dn ts)(e:S' j=S j):a5F S' j m dn ts:=by
 obtain⟨acs,hS⟩:=h
 exact⟨acs,by rw[e];exact hS⟩
theorem a5F.there{S:b5}{j m:Nat}{dn ts:List (Int×Int×Nat)}(h:a5F S j m dn ts):S j≠none:=by obtain⟨a,e⟩:=h;rw[e];simp
end
end Go.Am
end
section
open Go.Proofs Go Go.Am Go.Op
namespace Go.Proofs.Ytdkidgkiplcggaa.d
section
set_option linter.unusedSectionVars false
theorem b6w{bs:List Int}:∀(n p:Nat) (e:Int),a2r bs n p= .error e→e≠0
 |0,p,e,h=>by cases h
 |n+1,p,e,h=>by
  by_cases hp:p<bs.length
  ·rw[a2W hp]at h
   by_cases he:(s4 bs p).2.2=0
   ·rw[if_pos he]at h
    cases hr:a2r bs n (s4 bs p).2.1 with
    |error e'=>rw[hr]at h;cases h;exact b6w n _ _ hr
    |ok l'=>rw[hr]at h;cases h
   ·rw[if_neg he]at h;cases h;exact he
  ·rw[a2r,if_pos (by omega)]at h;cases h
section
variable{E:g8}{w0:j0}
theorem StT.base{S0 S1 T:b5}{k:Nat}{l s:D}{f:Fr}(hle:S0.le S1)(hk0:S1 k=none)(hl:Sl S1 (k::ob s) l f.locals T)(hs:Sl S1 (k::ob l) s f.stack T):S0 k=none∧Sl S0 (k::ob s) l f.locals T∧Sl S0 (k::ob l) s f.stack T:=by
 have go:∀ {av d li},Sl S1 av d li T→Sl S0 av d li T:=fun h=>by
  rcases h with h|⟨k,cap,ex,rows,acs,z0,z1,z2,z3,z4⟩
  ·exact .inl h
  ·exact .inr ⟨k,cap,ex,rows,acs,b5.none_of hle z0,z1,z2,z3,z4⟩
 exact⟨b5.none_of hle hk0,go hl,go hs⟩
theorem c4u{S S':b5}(h:S.le S'){k:Nat}(hk:S k≠none):S' k=S k:=by
 cases e:S k with
 |none=>exact absurd e hk
 |some o=>exact h _ _ e
end
end
section
set_option linter.unusedSectionVars false
theorem a8K(l:List In):j9 (H6 l)=some (.int .i64 l.length):=by simp[H6]
def b1x(ys:List In)(ext:List Int)(i:Nat):List Int:=match ys[i]? with
 |some y=>if a0l y then p4 y (ext.getD (i+1) 0)++(if i+1<ys.length then[ext.getD (i+1) 0]else[]) else[]
 |none=>[]
def l7(ys:List In)(ext:List Int)(n:Nat):List Int:=0::(List.range n).flatMap (b1x ys ext)
theorem H7(ys:List In)(ext:List Int)(n:Nat):l7 ys ext (n+1)=l7 ys ext n++b1x ys ext n:=by
 unfold l7
 rw[List.range_succ,List.flatMap_append]
 simp
section
variable{E:g8}{w0:j0}
theorem d1o{x0:D}{ys:List In}{ext:List Int}(he:ext.length=ys.length+1)(hyl:ys.length<2^40){k:Nat}{to:List Int}(htl:to.length<2^40){i:Nat}(hi:i<ys.length){N0:D→D→D→D→D→D→D→b5→Prop}{Q:D→b5→Prop}{S:b5}{ts:List (Int×Int×Nat)}(hm:N6 S k ts)
  (hN:∀ts' S',(∀n,n∈ts'.map (·.1)↔n∈ts.map (·.1)∨n∈to++(if i+1<ys.length then[ext.getD (i+1) 0]else[]))→N6 S' k ts'→(∀j,j≠k→S' j=S j)→N0 x0 (H6 ys) (iD ext) (.mp k) (H6 ys) (.int .i64 (ys.length:Int)) (.int .i64 ((i:Int)+1)) S'):
  f9 Try.prog E w0 (.loop a1U) (i7 173 [0,4,5,7,8,38,39,40,57,58,59] [x0,H6 ys,iD ext, .mp k, .int .i64 (i:Int),H6 ys, .int .i64 (ys.length:Int), .int .i64 (i:Int),iD to, .int .i64 (to.length:Int),(.int .i64 0)]) S (a1K E w0 N0 Q):=by
 refine b2U (I:=fun n y0 x4 x5 x7 x8 x38 x39 x40 x57 x58 x59 T=>x0=y0∧x4=H6 ys∧x5=iD ext∧x7= .mp k∧x8= .int .i64 (i:Int)∧x38=H6 ys∧x39= .int .i64 (ys.length:Int)∧x40= .int .i64 (i:Int)∧x57=iD to∧x58= .int .i64 (to.length:Int)∧
   ∃(j:Nat) (ts':List (Int×Int×Nat)),x59= .int .i64 (j:Int)∧j+n=to.length∧(∀m,m∈ts'.map (·.1)↔m∈ts.map (·.1)∨m∈to.take j)∧N6 T k ts'∧∀j,j≠k→T j=S j) ?_ (n:=to.length)
  ⟨rfl,rfl,rfl,rfl,rfl,rfl,rfl,rfl,rfl,rfl,0,ts,rfl,by omega,fun m=>by simp,hm,fun _ _=>rfl⟩
 rintro n _ _ _ _ _ _ _ _ _ _ _ T ⟨rfl,rfl,rfl,rfl,rfl,rfl,rfl,rfl,rfl,rfl,j,ts',rfl,hj,hkeys,hm',hsame⟩
 unfold a5i
 rw[M7,oD,V7]
 refine⟨fun hlt=> ?_,fun hge=> ?_⟩
 ·have hlt:j<to.length:=by omega
  have ht:to[j]? =some to[j]:=List.getElem?_eq_getElem hlt
  generalize to[j]=q at ht
  rw[a0y ht,oD,lsE,List.getElem?_cons_zero,oD]
  obtain⟨v,hv⟩:=hm'.look q
  rw[hv,oD,C4,oD]
  refine hm'.put fun ts2 T2 hk2 hm2 hs2=> ?_
  rw[C4,oD,i6 (by omega) (by omega)]
  refine⟨n - 1,by omega,by trivial,by trivial,by trivial,by trivial,by trivial,by trivial,by trivial,by trivial,by trivial,by trivial,j+1,ts2,by trivial,by omega,fun m=> ?_,hm2,fun j hj=>by rw[hs2 j hj,hsame j hj]⟩
  rw[hk2,hkeys,List.take_add_one,ht]
  simp
  constructor
  ·rintro(h|h|h)
   ·exact .inr (.inr h)
   ·exact .inl h
   ·exact .inr (.inl h)
  ·rintro(h|h|h)
   ·exact .inr (.inl h)
   ·exact .inr (.inr h)
   ·exact .inl h
 ·rw[List.take_of_length_le (by omega)]at hkeys
  simp only[C4,oD,a8K,M7]
  rw[i6 (by omega) (by omega),V7]
  refine⟨fun h1=> ?_,fun h1=> ?_⟩
  ·have h1:i+1<ys.length:=by omega
   have hx:ext[i+1]? =some (ext.getD (i+1) 0):=by rw[List.getD_eq_getElem?_getD,List.getElem?_eq_getElem (by omega)];rfl
   have hix:j5 1 (iD ext) (.int .i64 ((i:Int)+1))=some (.elt [.int .i64 (ext.getD (i+1) 0)] 0):=a0y hx
   rw[hix,oD,lsE,List.getElem?_cons_zero,oD]
   obtain⟨v,hv⟩:=hm'.look (ext.getD (i+1) 0)
   rw[hv,oD,C4,oD]
   refine hm'.put fun ts2 T2 hk2 hm2 hs2=>hN ts2 T2 (fun m=> ?_) hm2 fun j hj=>by rw[hs2 j hj,hsame j hj]
   rw[hk2,hkeys,if_pos h1]
   simp
   constructor
   ·rintro(h|h|h)
    ·exact .inr (.inr h)
    ·exact .inl h
    ·exact .inr (.inl h)
   ·rintro(h|h|h)
    ·exact .inr (.inl h)
    ·exact .inr (.inr h)
    ·exact .inl h
  ·exact hN ts' T (fun m=>by rw[hkeys,if_neg (by omega),List.append_nil]) hm' hsame
theorem d1t{x0:D}{ys:List In}{ext:List Int}(he:ext.length=ys.length+1)(hyl:ys.length<2^40)(harm:∀y∈ys,y.arms.length≤65535){k:Nat}{Q:D→b5→Prop}{S0 S:b5}{ts:List (Int×Int×Nat)}(hm:N6 S k ts)(hk0:S0 k=none)(hle:S0.le S)(hkeys:∀n,n∈ts.map (·.1)↔n=0)
  (hend:∀ts' S',(∀n,n∈ts'.map (·.1)↔n∈l7 ys ext ys.length)→N6 S' k ts'→S0.le S'→b0a S' (.mp k) fun v54 S55=>f9 Try.prog E w0 (.loop a0v) (i7 173 [0,4,5,14,83] [x0,H6 ys,iD ext, .nilSlc,v54]) S55 (a0s E w0 Q)):
  f9 Try.prog E w0 (.loop a1S) (i7 173 [0,4,5,7,38,39,40] [x0,H6 ys,iD ext, .mp k,H6 ys, .int .i64 (ys.length:Int),(.int .i64 0)]) S (a1Z E w0 Q):=by
 refine b2R (I:=fun n y0 x4 x5 x7 x38 x39 x40 T=>x0=y0∧x4=H6 ys∧x5=iD ext∧x7= .mp k∧x38=H6 ys∧x39= .int .i64 (ys.length:Int)∧
   ∃(i:Nat) (ts':List (Int×Int×Nat)),x40= .int .i64 (i:Int)∧i+n=ys.length∧(∀m,m∈ts'.map (·.1)↔m∈l7 ys ext i)∧N6 T k ts'∧S0.le T) ?_ (n:=ys.length)
  ⟨rfl,rfl,rfl,rfl,rfl,rfl,0,ts,rfl,by omega,fun m=>by rw[hkeys];simp[l7],hm,hle⟩
 rintro n _ _ _ _ _ _ _ T ⟨rfl,rfl,rfl,rfl,rfl,rfl,i,ts',rfl,hi,hks,hm',hle'⟩
 unfold a4R
 rw[M7,oD,V7]
 refine⟨fun hlt=> ?_,fun hge=> ?_⟩
 ·have hlt:i<ys.length:=by omega
  have hy:ys[i]? =some ys[i]:=List.getElem?_eq_getElem hlt
  have hmem:ys[i]∈ys:=List.getElem_mem hlt
  generalize ys[i]=y at hy hmem
  have hx:ext[i+1]? =some (ext.getD (i+1) 0):=by rw[List.getD_eq_getElem?_getD,List.getElem?_eq_getElem (by omega)];rfl
  have hix:j5 1 (iD ext) (.int .i64 ((i:Int)+1))=some (.elt [.int .i64 (ext.getD (i+1) 0)] 0):=a0y hx
  have hhd:b1x ys ext i=if a0l y then p4 y (ext.getD (i+1) 0)++(if i+1<ys.length then[ext.getD (i+1) 0]else[]) else[]:=by unfold b1x;rw[hy]
  rw[a5n hy,oD,laE,if_pos ⟨by decide,by simp[N7]⟩,oD]
  intro ka a na
  refine(D3.new (sz:=4) (c:=[.int .u8 0, .int .i64 0, .int .i64 0, .nilSlc])).st (ds:=N7 y) (clA _) ⟨rfl,by decide,by simp[N7]⟩ fun c=> ?_
  rw[b5.set_set,show j4 [D.int .u8 0, .int .i64 0, .int .i64 0, .nilSlc] 0 (N7 y)=N7 y from rfl]
  have ca:D3 (T.set ka ⟨4,[N7 y],c⟩) ka 4 (N7 y):=D3.new
  have l1:S0.le (T.set ka ⟨4,[N7 y],c⟩):=b5.le_trans hle' (b5.le_new na)
  have hne:k≠ka:=fun e=>by have:=hm'.there;rw[e,na]at this;exact this rfl
  have hm1:N6 (T.set ka ⟨4,[N7 y],c⟩) k ts':=hm'.of (b5.set_ne _ _ _ hne)
  generalize (T.set ka ⟨4,[N7 y],c⟩)=T1 at ca l1 hm1
  rw[ca.all (n:=4) (by decide) rfl,oD,C4,oD,i6 (by omega) (by omega),hix,oD,lsE,List.getElem?_cons_zero,oD]
  refine(show p8 Try.prog E w0 I9 [inD y, .int .i64 (ext.getD (i+1) 0)] T1 _ from(a6O (harm y hmem)).use ?_)
  simp only[exD,List.getElem?_cons_zero,List.getElem?_cons_succ,oD,unN]
  cases hen:a0l y with
  |false=>
   rw[Bool.not_false,cdT]
   refine⟨n - 1,by omega,by trivial,by trivial,by trivial,by trivial,by trivial,by trivial,i+1,ts',by trivial,by omega,fun m=> ?_,hm1,l1⟩
   rw[H7,hhd,hen,hks];simp
  |true=>
   rw[Bool.not_true,cdF,a1I,oD]
   have hll:=a8S (harm y hmem) (ext.getD (i+1) 0)
   refine d1o he hyl (by omega) hlt hm1 fun ts2 T2 hk2 hm2 hs2=> ?_
   refine⟨n - 1,by omega,by trivial,by trivial,by trivial,by trivial,by trivial,by trivial,i+1,ts2,by trivial,by omega,fun m=> ?_,hm2,fun j o hj=> ?_⟩
   ·rw[hk2,H7,hhd,hen,hks,if_pos rfl]
    simp only[List.mem_append]
   ·rw[hs2 j (fun e=>by rw[e,hk0]at hj;cases hj)];exact l1 _ _ hj
 ·have:i=ys.length:=by omega
  subst this
  exact hend ts' T hks hm' hle'
theorem a5E{α:Type}[DecidableEq α]:∀ {l1 l2:List α},l1.Nodup→(∀a∈l1,a∈l2)→l1.length≤l2.length
 | [],_,_,_=>Nat.zero_le _
 |a::l1,l2,h,hs=>by
  rw[List.nodup_cons]at h
  have ha:=hs a List.mem_cons_self
  have h1:=List.length_erase_of_mem ha
  have h2:=List.length_pos_of_mem ha
  have:=a5E h.2 (l2:=l2.erase a) fun b hb=>(List.mem_erase_of_ne (fun e=>h.1 (by rw[←e];exact hb))).2 (hs b (List.mem_cons_of_mem _ hb))
  rw[List.length_cons]
  omega
theorem c1H{l hs:List Int}(hn:l.Nodup)(h:∀n,n∈l↔n∈hs):srt l=X8 hs:=by
 refine O1 ?_ (D4 hs).1 fun n=> ?_
 ·have h1:(srt l).Pairwise fun a b=>a≤b:=by
   have:=List.pairwise_mergeSort (le:=fun x y:Int=>decide (x≤y)) (fun a b c h1 h2=>by simp at*;omega) (fun a b=>by simp;omega) l
   exact this.imp fun h=>by simpa using h
  have h2:(srt l).Nodup:=(List.mergeSort_perm l _).nodup_iff.2 hn
  exact(h1.and h2).imp fun⟨a,b⟩=>by omega
 ·unfold srt
  rw[List.mem_mergeSort,h,(D4 hs).2]
theorem c6x{S0 S:b5}{av:List Nat}{d:D}{l:List Int}(h:O4 S0 av d (iC l) 1 S)(h0:l≠[])(hl:l.length<2^60){Q:D→b5→Prop}(hQ:∀v k acs S',S0 k=none→k ∉ av→d= .raw k 0 l.length l.length false 1→S' k=some ⟨1,iC (srt l),acs⟩→(∀j,j≠k→S' j=S j)→Q v S'):p8 Try.prog E w0 K5 [d] S Q:=by
 rcases h with ⟨_,e⟩|⟨k,acs,hk,hav,rfl,hS⟩
 ·exact absurd e (fun e=>h0 (by cases l with|nil=>rfl|cons a l=>simp[iC,J5]at e))
 ·refine b7p.fnD (zs:=l) hS rfl (by simp) (by rw[List.drop_zero,List.take_of_length_le (Nat.le_refl _),a1j]) (by rw[m8];omega) fun acs'=> ?_
  refine hQ _ k acs' _ hk hav (by rw[m8]) ?_ fun j hj=>b5.set_ne _ _ _ hj
  rw[b5.set_same,List.take_zero,List.nil_append,Nat.zero_add,List.drop_of_length_le (Nat.le_refl _),List.append_nil,a1j]
theorem d1m{x0:D}{ys:List In}{ext hs:List Int}{m:Nat}{Q:D→b5→Prop}{S0 S:b5}{ts:List (Int×Int×Nat)}{j:Nat}(hw:a5F S j m [] ts)(hj0:S0 j=none)(hle:S0.le S)(hkn:(ts.map (·.1)).Nodup)(hst:(ts.map (·.2.2)).Nodup)(hks:∀n,n∈ts.map (·.1)↔n∈hs)(hne:hs≠[])(hlen:ts.length<2^40)
  (hend:∀k acs S',S0 k=none→S' k=some ⟨1,iC (X8 hs),acs⟩→S0.le S'→f9 Try.prog E w0 (.loop M3) (i7 173 [0,5,14,16,94,95,96] [x0,iD ext, .raw k 0 (X8 hs).length (X8 hs).length false 1, .nilSlc,H6 ys, .int .i64 (ys.length:Int),(.int .i64 0)]) S' (M4 E w0 Q)):
  f9 Try.prog E w0 (.loop a0v) (i7 173 [0,4,5,14,83] [x0,H6 ys,iD ext, .nilSlc, .ptr j 0]) S (a0s E w0 Q):=by
 refine b2X (I:=fun n y0 x4 x5 x14 x83 T=>x0=y0∧x4=H6 ys∧x5=iD ext∧x83= .ptr j 0∧∃dn:List (Int×Int×Nat),dn.length+n=ts.length∧(∀t∈dn,t∈ts)∧dn.Nodup∧a5F T j m dn ts∧O4 S0 [j] x14 (iC (dn.map (·.1))) 1 T∧S0.le T) ?_ (n:=ts.length)
  ⟨rfl,rfl,rfl,rfl,[],by simp,by simp,by simp,hw,O4.nil,hle⟩
 rintro n _ _ _ x14 _ T ⟨rfl,rfl,rfl,rfl,dn,hn,hsub,hdn,hw,hg,hle⟩
 unfold a4V
 refine hw.next hst hsub (fun t ht htn S' hw' hs'=> ?_) fun hall=> ?_
 ·simp only[exD,List.getElem?_cons_zero,List.getElem?_cons_succ,oD,cdT]
  refine hw'.entry ht ?_
  simp only[exD,List.getElem?_cons_zero,List.getElem?_cons_succ,oD]
  rw[show o7 1 (List.replicate 1 [D.int .i64 0]) [(0, .int .i64 t.1)]=some (iC [t.1]) from rfl]
  refine E8 rfl ?_
  have hle':S0.le S':=fun i o hi=>by rw[hs' i (fun e=>by rw[e,hj0]at hi;cases hi)];exact hle _ _ hi
  have hg':O4 S0 [j] x14 (iC (dn.map (·.1))) 1 S':=hg.of fun i o hi e=>by rw[hs' i (by simpa using hi)];exact e
  have hdl:dn.length+1≤ts.length:=by
   have:(dn++[t]).Nodup:=by
    rw[List.nodup_append]
    exact⟨hdn,by simp,fun a ha b hb=>by simp at hb;subst hb;exact fun e=>htn (by rw[←e];exact ha)⟩
   have:=a5E this (l2:=ts) fun a ha=>by
    rcases List.mem_append.1 ha with ha|ha
    ·exact hsub a ha
    ·rw[List.mem_singleton.1 ha];exact ht
   simpa using this
  refine hg'.push hle' (fun i hi=>by rw[List.mem_singleton.1 hi];exact hw'.there) (bytes:=8) (news:=iC [t.1]) (by simp[rowsS,C1]) (by simp[iC,J5]) (by rw[m8,m8,List.length_map];simp;omega) fun t' S2 hle2 he2 hg2=> ?_
  refine⟨n - 1,by omega,by trivial,by trivial,by trivial,by trivial,dn++[t],by simp;omega,fun a ha=> ?_, ?_,hw'.of (he2 j (by simp)), ?_,hle2⟩
  ·rcases List.mem_append.1 ha with ha|ha
   ·exact hsub a ha
   ·rw[List.mem_singleton.1 ha];exact ht
  ·rw[List.nodup_append]
   exact⟨hdn,by simp,fun a ha b hb=>by simp at hb;subst hb;exact fun e=>htn (by rw[←e];exact ha)⟩
  ·rw[List.map_append,a0S];exact hg2
 ·simp only[exD,List.getElem?_cons_zero,List.getElem?_cons_succ,oD,cdF]
  have hkeys:∀q,q∈dn.map (·.1)↔q∈hs:=fun q=>by
   rw[←hks]
   constructor
   ·intro h
    obtain⟨t,ht,e⟩:=List.mem_map.1 h
    exact List.mem_map.2 ⟨t,hsub t ht,e⟩
   ·intro h
    obtain⟨t,ht,e⟩:=List.mem_map.1 h
    exact List.mem_map.2 ⟨t,hall t ht,e⟩
  have hnd:(dn.map (·.1)).Nodup:=by
   rw[List.Nodup,List.pairwise_map]
   exact hdn.imp_of_mem fun{a b} ha hb hab e=>hab (a8t hkn (hsub a ha) (hsub b hb) e)
  have h0:dn.map (·.1)≠[]:=fun e=>by
   cases hs with
   |nil=>exact hne rfl
   |cons a hs=>have:=(hkeys a).2 List.mem_cons_self;rw[e]at this;cases this
  have hsr:=c1H hnd hkeys
  have hl:=a6d (dn.map (·.1))
  rw[hsr]at hl
  refine c6x hg h0 (by simp;omega) fun v k acs S' hk hav hd hS' hsame=> ?_
  rw[hd,a8K,oD, ←hl]
  refine hend k acs S' hk (by rw[hS',hsr]) fun i o hi=> ?_
  rw[hsame i (fun e=>by rw[e,hk]at hi;cases hi)]
  exact hle _ _ hi
end
end
section
set_option linter.unusedSectionVars false
structure L9 where
 at':Int
 end':Int
 next:List Int
 deriving DecidableEq
def D5(b:L9):List D:=[.int .i64 b.at', .int .i64 b.end',iD b.next]
def I3(l:List L9):D:= .lst (l.map D5) 3
def a0D(l:List L9)(e:Int)(n:List Int):List L9:=match l.getLast? with
 |some b=>l.dropLast++[⟨b.at',e,n⟩]
 |none=>[]
def b7s(ys:List In)(ext:List Int)(i:Nat)(st:List Int×List L9):List Int×List L9:=match ys[i]? with
 |some y=>if st.1.head? =some (ext.getD i 0) then(st.1.tail,st.2++[⟨ext.getD i 0,ext.getD (i+1) 0,p4 y (ext.getD (i+1) 0)⟩])
  else(st.1,a0D st.2 (ext.getD (i+1) 0) (p4 y (ext.getD (i+1) 0)))
 |none=>st
def s6(ys:List In)(ext tops:List Int):Nat→List Int×List L9
 |0=>(tops,[])
 |n+1=>b7s ys ext n (s6 ys ext tops n)
theorem a1h(l:List L9)(b:L9)(e:Int)(n:List Int):a0D (l++[b]) e n=l++[⟨b.at',e,n⟩]:=by
 unfold a0D
 simp
theorem b0m{ys:List In}{ext tops:List Int}(h0:tops.head? =some (ext.getD 0 0)):∀ {n:Nat},0<n→n≤ys.length→(s6 ys ext tops n).2≠[]
 |0,h,_=>by omega
 |n+1,_,hn=>by
  have hlt:n<ys.length:=hn
  obtain⟨y,hy⟩:∃y,ys[n]? =some y:=⟨_,List.getElem?_eq_getElem hlt⟩
  simp only[s6,b7s,hy]
  by_cases hc:(s6 ys ext tops n).1.head? =some (ext.getD n 0)
  ·rw[if_pos hc];simp
  ·rw[if_neg hc]
   cases n with
   |zero=>exact absurd h0 hc
   |succ n=>
    have:=b0m (ys:=ys) h0 (n:=n+1) (by omega) (by omega)
    obtain⟨l,b,e⟩:∃l b,(s6 ys ext tops (n+1)).2=l++[b]:=⟨_,_,(List.dropLast_concat_getLast this).symm⟩
    show a0D (s6 ys ext tops (n+1)).2 _ _≠[]
    rw[e,a1h]
    simp
section
variable{E:g8}{w0:j0}
theorem b5g{S0 S:b5}{t:D}{rows:List (List D)}{row:List D}(hg:O4 S0 [] t (rows++[row]) 3 S)(hle:S0.le S):∃p,j5 3 t (.int .i64 (rows.length:Int))=some p∧W6 p=some p∧
  ∀(i:Nat) (v:D),i<row.length→s5 v=some [v]→∃q,p9 i p=some q∧∀K:D→b5→Prop,(∀S',O4 S0 [] t (rows++[row.set i v]) 3 S'→S0.le S'→K b6 S')→j1 S 1 q v K:=by
 rcases hg with ⟨_,e⟩|⟨k,acs,h0,h1,rfl,h3⟩
 ·simp at e
 ·refine⟨_,c1l (by simp),ndR ..,fun i v hi hv=>⟨_,ofR ..,fun K hK=> ?_⟩⟩
  refine stR h3 (rows:=rows++[row]) (row:=row) (by simp) hv ⟨rfl,by decide,by show 0+i+1≤row.length;omega⟩ fun acs'=> ?_
  have e:(rows++[row]).set (0+rows.length) (j4 row (0+i) [v])=rows++[row.set i v]:=by
   rw[Nat.zero_add,Nat.zero_add,List.set_append_right _ _ (Nat.le_refl _),Nat.sub_self];rfl
  rw[e]
  refine hK _ (.inr ⟨k,acs',h0,h1,by simp,b5.set_same _ _ _⟩) (b5.le_set hle h0)
theorem c8H{x0 x14 x16 x94 x95:D}{ys:List In}{ext:List Int}{i:Nat}(hi:i<ys.length)(hyl:ys.length<2^40)(he:ext.length=ys.length+1){N3:D→D→D→D→D→D→D→b5→Prop}{Q:D→b5→Prop}{S0 S:b5}{rows:List (List D)}{a:D}{e0 n0:D}{to:List Int}(hrl:rows.length<2^40)
  (hg:O4 S0 [] x16 (rows++[[a,e0,n0]]) 3 S) (hle:S0.le S)
  (hN:∀S',O4 S0 [] x16 (rows++[[a, .int .i64 (ext.getD (i+1) 0),iD to]]) 3 S'→S0.le S'→N3 x0 (iD ext) x14 x16 x94 x95 (.int .i64 ((i:Int)+1)) S'):
  J2 E w0 N3 Q x0 (iD ext) x14 x16 (.int .i64 (i:Int)) (iD to) x94 x95 (.int .i64 (i:Int)) S:=by
 refine a4g ?_
 unfold a3O
 have hx:ext[i+1]? =some (ext.getD (i+1) 0):=by rw[List.getD_eq_getElem?_getD,List.getElem?_eq_getElem (by omega)];rfl
 have hix:j5 1 (iD ext) (.int .i64 ((i:Int)+1))=some (.elt [.int .i64 (ext.getD (i+1) 0)] 0):=a0y hx
 have hsub:IntKind.i64.wrap (((rows++[[a,e0,n0]]).length:Int) - 1)=(rows.length:Int):=by
  rw[List.length_append,List.length_singleton,i6 (by omega) (by omega)]
  omega
 rw[hg.len,oD,a0M,oD,hsub]
 obtain⟨p,p1,p2,p3⟩:=b5g hg hle
 rw[p1,oD,C4,oD,i6 (by omega) (by omega),hix,oD,lsE,List.getElem?_cons_zero,oD,p2,oD]
 obtain⟨q,q1,q2⟩:=p3 1 (.int .i64 (ext.getD (i+1) 0)) (by simp) rfl
 rw[q1,oD]
 refine q2 _ fun S1 hg1 hle1=> ?_
 rw[oD]
 obtain⟨p',p1',_,p3'⟩:=b5g hg1 hle1
 rw[p1]at p1'
 cases p1'
 obtain⟨q',q1',q2'⟩:=p3' 2 (iD to) (by simp) rfl
 rw[q1',oD]
 refine q2' _ fun S2 hg2 hle2=> ?_
 rw[oD]
 exact hN S2 hg2 hle2
end
end
section
set_option linter.unusedSectionVars false
theorem c4k(t:Int)(l:List Int):V2 1 (iD (t::l)) (some (.int .i64 1)) none none=some (iD l):=by
 have h:1≤(iC (t::l)).length:=by rw[m8];simp
 have hb:C6 (.int .i64 1) (iC (t::l)).length=some 1:=c7O (n:=1) h
 unfold iD
 simp only[V2,G4,b7E,a6Q,b2Q,if_true,Option.bind_some,hb,Option.map_some]
 rw[List.take_of_length_le (by rw[List.length_drop];exact Nat.le_refl _),Nat.sub_self,List.take_zero]
 rfl
theorem a8C(ys:List In)(ext tops:List Int):∀n,(s6 ys ext tops n).2.length≤n∧(s6 ys ext tops n).1.length≤tops.length
 |0=>⟨Nat.le_refl _,Nat.le_refl _⟩
 |n+1=>by
  obtain⟨h1,h2⟩:=a8C ys ext tops n
  simp only[s6,b7s]
  split
  ·split
   ·refine⟨by simp;omega, ?_⟩
    show(s6 ys ext tops n).1.tail.length≤_
    rw[List.length_tail];omega
   ·refine⟨?_,h2⟩
    show(a0D (s6 ys ext tops n).2 _ _).length≤_
    unfold a0D
    split
    ·simp;omega
    ·simp
  ·exact⟨by omega,h2⟩
theorem a3z{ys:List In}(harm:∀y∈ys,y.arms.length≤65535)(ext tops:List Int):∀n,∀b∈(s6 ys ext tops n).2,b.next.length≤65540
 |0,b,h=>by cases h
 |n+1,b,h=>by
  have ih:=a3z harm ext tops n
  simp only[s6,b7s]at h
  split at h
  ·rename_i y hy
   have hl:=a8S (harm y (List.mem_of_getElem? hy)) (ext.getD (n+1) 0)
   split at h
   ·rcases List.mem_append.1 h with h|h
    ·exact ih b h
    ·rw[List.mem_singleton.1 h];exact hl
   ·have h:b∈a0D (s6 ys ext tops n).2 (ext.getD (n+1) 0) (p4 y (ext.getD (n+1) 0)):=h
    unfold a0D at h
    split at h
    ·rcases List.mem_append.1 h with h|h
     ·exact ih b (List.dropLast_subset _ h)
     ·rw[List.mem_singleton.1 h];exact hl
    ·cases h
  ·exact ih b h
theorem c2l{S0 S:b5}{t:D}{rows:List (List D)}{row:List D}(hg:O4 S0 [] t (rows++[row]) 3 S):∃p,j5 3 t (.int .i64 (rows.length:Int))=some p∧∀i,∃q,p9 i p=some q∧d9 S q=row[i]? :=by
 rcases hg with ⟨_,e⟩|⟨k,acs,h0,h1,rfl,h3⟩
 ·simp at e
 ·refine⟨_,c1l (by simp),fun i=>⟨_,ofR .., ?_⟩⟩
  rw[ldR h3 (row:=row) (by simp),Nat.zero_add]
section
variable{E:g8}{w0:j0}
theorem c6E{l:List Int}(hl:l.length<2^40){q:Int}{S:b5}:p8 Try.prog E w0 P9 [iD l, .int .i64 q] S fun d S'=>S'=S∧∃r:Int,d= .int .i64 r∧(0≤r↔q∈l):=by
 refine a1u ?_
 unfold a0J
 rw[a1I,oD]
 refine a0L (I:=fun n x0 x1 x7 x8 T=>x0=iD l∧x1= .int .i64 q∧x7= .int .i64 (l.length:Int)∧T=S∧∃i:Nat,x8= .int .i64 (i:Int)∧i+n=l.length∧q ∉ l.take i) ?_ (n:=l.length) ⟨rfl,rfl,rfl,rfl,0,rfl,by omega,by simp⟩
 rintro n _ _ _ _ _ ⟨rfl,rfl,rfl,rfl,i,rfl,hi,hq⟩
 unfold K4
 rw[M7,oD,V7]
 refine⟨fun hlt=> ?_,fun hge=>b9.here ⟨rfl,_,rfl, ?_⟩⟩
 ·have hlt:i<l.length:=by omega
  have ht:l[i]? =some l[i]:=List.getElem?_eq_getElem hlt
  generalize l[i]=t at ht
  rw[a0y ht,oD,lsE,List.getElem?_cons_zero,oD,O7,oD,V7]
  refine⟨fun h=>b9.here ⟨rfl,_,rfl, ?_⟩,fun h=> ?_⟩
  ·rw[h];exact⟨fun _=>List.mem_of_getElem? ht,fun _=>by omega⟩
  ·rw[C4,oD,i6 (by omega) (by omega)]
   refine⟨n - 1,by omega,rfl,rfl,rfl,rfl,i+1,rfl,by omega, ?_⟩
   rw[List.take_add_one,ht]
   simp[hq,h]
 ·rw[List.take_of_length_le (by omega)]at hq
  exact⟨fun h=>by omega,fun h=>absurd h hq⟩
theorem c1d{l:List Int}(hl:l.length<2^40){q:Int}:U2 Try.prog E w0 J4 [iD l, .int .i64 q] (.bool (decide (q∈l))):=fun S=>by
 refine a0w ?_
 unfold U4
 refine(c6E hl).use ?_
 rintro d S' ⟨rfl,r,rfl,h⟩
 rw[c1u,oD]
 refine b9.here ⟨?_,rfl⟩
 congr 1
 exact decide_eq_decide.2 h
def Z9(len:Int)(st:List Int×List L9):List L9×Int:=match st.1,st.2.getLast? with
 | [],some b=>if len∈b.next then([],190) else(st.2,0)
 |_,_=>([],190)
def ofD(r:List L9×Int):D:= .tup [I3 r.1, .int .i64 r.2]
theorem d1c{code:List Int}{ys:List In}{ext tops:List Int}(h0:ys≠[]→tops.head? =some (ext.getD 0 0))(hyl:ys.length<2^39)(he:ext.length=ys.length+1)(htl:tops.length<2^40)(harm:∀y∈ys,y.arms.length≤65535){S0 S:b5}(hle:S0.le S):
  f9 Try.prog E w0 (.loop M3) (i7 173 [0,5,14,16,94,95,96] [bD code,iD ext,iD tops, .nilSlc,H6 ys, .int .i64 (ys.length:Int),(.int .i64 0)]) S (M4 E w0 (b9 E fun d S'=>d=ofD (Z9 code.length (s6 ys ext tops ys.length))∧S'=S0)):=by
 refine a5P (I:=fun n x0 x5 x14 x16 x94 x95 x96 T=>x0=bD code∧x5=iD ext∧x94=H6 ys∧x95= .int .i64 (ys.length:Int)∧∃i:Nat,x96= .int .i64 (i:Int)∧i+n=ys.length∧x14=iD (s6 ys ext tops i).1∧O4 S0 [] x16 ((s6 ys ext tops i).2.map D5) 3 T∧S0.le T) ?_ (n:=ys.length)
  ⟨rfl,rfl,rfl,rfl,0,rfl,by omega,rfl,O4.nil,hle⟩
 rintro n _ _ _ x16 _ _ _ T ⟨rfl,rfl,rfl,rfl,i,rfl,hi,rfl,hg,hle⟩
 unfold a1L
 obtain⟨b1,b2⟩:=a8C ys ext tops i
 rw[M7,oD,V7]
 refine⟨fun hlt=> ?_,fun hge=> ?_⟩
 ·have hlt:i<ys.length:=by omega
  have hy:ys[i]? =some ys[i]:=List.getElem?_eq_getElem hlt
  have hmem:ys[i]∈ys:=List.getElem_mem hlt
  generalize ys[i]=y at hy hmem
  have hx:ext[i+1]? =some (ext.getD (i+1) 0):=by rw[List.getD_eq_getElem?_getD,List.getElem?_eq_getElem (by omega)];rfl
  have hix:j5 1 (iD ext) (.int .i64 ((i:Int)+1))=some (.elt [.int .i64 (ext.getD (i+1) 0)] 0):=a0y hx
  have hx0:ext[i]? =some (ext.getD i 0):=by rw[List.getD_eq_getElem?_getD,List.getElem?_eq_getElem (by omega)];rfl
  rw[a5n hy,oD,laE,if_pos ⟨by decide,by simp[N7]⟩,oD]
  intro ka a na
  refine(D3.new (sz:=4) (c:=[.int .u8 0, .int .i64 0, .int .i64 0, .nilSlc])).st (ds:=N7 y) (clA _) ⟨rfl,by decide,by simp[N7]⟩ fun c=> ?_
  rw[b5.set_set,show j4 [D.int .u8 0, .int .i64 0, .int .i64 0, .nilSlc] 0 (N7 y)=N7 y from rfl]
  have ca:D3 (T.set ka ⟨4,[N7 y],c⟩) ka 4 (N7 y):=D3.new
  have l1:S0.le (T.set ka ⟨4,[N7 y],c⟩):=b5.le_trans hle (b5.le_new na)
  have hg:=hg.set (o:=⟨4,[N7 y],c⟩) (.inr na)
  generalize (T.set ka ⟨4,[N7 y],c⟩)=T1 at ca l1 hg
  rw[ca.all (n:=4) (by decide) rfl,oD,C4,oD,i6 (by omega) (by omega),hix,oD,lsE,List.getElem?_cons_zero,oD]
  refine(show p8 Try.prog E w0 I9 [inD y, .int .i64 (ext.getD (i+1) 0)] T1 _ from(a6O (harm y hmem)).use ?_)
  simp only[exD,List.getElem?_cons_zero,List.getElem?_cons_succ,oD,a1I,a8g]
  have hrow:∀p:Int,(⟨p,ext.getD (i+1) 0,p4 y (ext.getD (i+1) 0)⟩:L9)=⟨p,ext.getD (i+1) 0,p4 y (ext.getD (i+1) 0)⟩:=fun _=>rfl
  have stay:(s6 ys ext tops i).1.head? ≠some (ext.getD i 0)→J2 E w0 (fun x0 x5 x14 x16 x94 x95 x96 S=>∃m,m<n∧x0=bD code∧x5=iD ext∧x94=H6 ys∧x95= .int .i64 (ys.length:Int)∧∃i:Nat,x96= .int .i64 (i:Int)∧i+m=ys.length∧x14=iD (s6 ys ext tops i).1∧O4 S0 [] x16 ((s6 ys ext tops i).2.map D5) 3 S∧S0.le S) (b9 E fun d S'=>d=ofD (Z9 code.length (s6 ys ext tops ys.length))∧S'=S0) (bD code) (iD ext) (iD (s6 ys ext tops i).1) x16 (.int .i64 (i:Int)) (iD (p4 y (ext.getD (i+1) 0))) (H6 ys) (.int .i64 (ys.length:Int)) (.int .i64 (i:Int)) T1:=fun hc=>by
   have hne:(s6 ys ext tops i).2≠[]:=by
    cases i with
    |zero=>exact absurd (h0 (fun e=>by rw[e]at hlt;cases hlt)) hc
    |succ i=>exact b0m (ys:=ys) (h0 (fun e=>by rw[e]at hlt;cases hlt)) (by omega) (by omega)
   obtain⟨l,b,e⟩:∃l b,(s6 ys ext tops i).2=l++[b]:=⟨_,_,(List.dropLast_concat_getLast hne).symm⟩
   have hs:s6 ys ext tops (i+1)=((s6 ys ext tops i).1,l++[⟨b.at',ext.getD (i+1) 0,p4 y (ext.getD (i+1) 0)⟩]):=by
    simp only[s6,b7s,hy]
    rw[if_neg hc,e,a1h]
   rw[e,List.map_append]at hg
   rw[e,List.length_append,List.length_singleton]at b1
   refine c8H hlt (by omega) he (rows:=l.map D5) (a:= .int .i64 b.at') (e0:= .int .i64 b.end') (n0:=iD b.next) (by rw[List.length_map];omega) hg l1 fun S' hg' hle'=> ?_
   refine⟨n - 1,by omega,rfl,rfl,rfl,rfl,i+1,rfl,by omega,by rw[hs], ?_,hle'⟩
   rw[hs,List.map_append]
   exact hg'
  cases htp:(s6 ys ext tops i).1 with
  |nil=>
   have e1:decide (((([]:List Int).length:Nat):Int)>0)=false:=by simp
   simp only[e1,wdB,t3,vdF,oD,pdB,Bool.false_eq_true,if_false,cdF,wdU]
   rw[htp]at stay
   exact stay (by simp)
  |cons t tl=>
   have e1:decide ((((t::tl).length:Nat):Int)>0)=true:=decide_eq_true (by rw[List.length_cons];omega)
   have i0:j5 1 (iD (t::tl)) (.int .i64 0)=some (.elt [.int .i64 t] 0):=a0y (i:=0) rfl
   simp only[e1,wdB,t4,vdT,oD,i0,lsE,List.getElem?_cons_zero,a0y hx0,O7,pdB,if_true]
   rw[V7]
   refine⟨fun ht=> ?_,fun ht=> ?_⟩
   ·subst ht
    rw[c4k,oD,
     show l8 [D.int .i64 0, .int .i64 0, .nilSlc] [(0,1, .int .i64 (ext.getD i 0))]=some [.int .i64 (ext.getD i 0), .int .i64 0, .nilSlc]from rfl,agS,oD,
     show o7 3 (List.replicate 1 [D.int .i64 0, .int .i64 0, .nilSlc]) [(0, .agg [.int .i64 (ext.getD i 0), .int .i64 0, .nilSlc])]=some [[.int .i64 (ext.getD i 0), .int .i64 0, .nilSlc]]from rfl]
    refine E8 rfl ?_
    refine hg.push (news:=[[.int .i64 (ext.getD i 0), .int .i64 0, .nilSlc]]) l1 (fun j hj=>by cases hj) (by simp[rowsS,C1]) (by simp) (by simp;omega) fun t' S3 hle3 _ hg3=> ?_
    have hs:s6 ys ext tops (i+1)=(tl,(s6 ys ext tops i).2++[⟨ext.getD i 0,ext.getD (i+1) 0,p4 y (ext.getD (i+1) 0)⟩]):=by
     simp only[s6,b7s,hy]
     rw[if_pos (by rw[htp];rfl),htp];rfl
    refine c8H hlt (by omega) he (rows:=(s6 ys ext tops i).2.map D5) (by rw[List.length_map];omega) hg3 hle3 fun S' hg' hle'=> ?_
    refine⟨n - 1,by omega,rfl,rfl,rfl,rfl,i+1,rfl,by omega,by rw[hs], ?_,hle'⟩
    rw[hs,List.map_append]
    exact hg'
   ·rw[htp]at stay
    exact stay (by simp;exact ht)
 ·have hin:i=ys.length:=by omega
  subst hin
  have lb:j9 (bD code)=some (.int .i64 code.length):=by simp[bD,J5]
  have bad:Z9 code.length (s6 ys ext tops ys.length)=([],190)→b9 E (fun d S'=>d=ofD (Z9 code.length (s6 ys ext tops ys.length))∧S'=S0) (.tup [.nilSlc, .int .i64 190]) T:=fun e=>by
   rw[e]
   exact b9.less hle (b9.weak (d':=ofD ([],190)) (Wk.tup ⟨Wk.nil 3,Wk.refl _,trivial⟩) (b9.here ⟨rfl,rfl⟩))
  have hnx:=a3z harm ext tops ys.length
  generalize s6 ys ext tops ys.length=st at*
  obtain⟨tp,out⟩:=st
  simp only[a1I,oD,a8g]
  cases tp with
  |cons t tl=>
   have e1:decide ((((t::tl).length:Nat):Int)>0)=true:=decide_eq_true (by rw[List.length_cons];omega)
   simp only[e1,wdB,t1,vdF,gdF,oD,pdB,if_true,cdT]
   exact bad rfl
  |nil=>
   have e1:decide (((([]:List Int).length:Nat):Int)>0)=false:=by simp
   simp only[e1,wdB,t2,vdT,oD,hg.len,O7,pdB,Bool.false_eq_true,if_false]
   rcases List.eq_nil_or_concat out with rfl|⟨l,b,rfl⟩
   ·have e2:decide (((([]:List L9).map D5).length:Int)=0)=true:=by simp
    simp only[e2,wdB,t1,vdF,gdF,oD,pdB,if_true,cdT]
    exact bad rfl
   ·rw[List.concat_eq_append]at*
    have e2:decide ((((l++[b]).map D5).length:Int)=0)=false:=decide_eq_false (by rw[List.length_map,List.length_append,List.length_singleton];omega)
    have e3:IntKind.i64.wrap ((((l++[b]).map D5).length:Int) - 1)=((l.map D5).length:Int):=by
     rw[List.length_append,List.length_singleton]at b1
     rw[List.length_map,List.length_map,List.length_append,List.length_singleton,i6 (by omega) (by omega)];omega
    have hg2:O4 S0 [] x16 (l.map D5++[D5 b]) 3 T:=by have:=hg;rw[List.map_append]at this;exact this
    obtain⟨p,p1,p2⟩:=c2l hg2
    obtain⟨q,q1,q2⟩:=p2 2
    have q2:d9 T q=some (iD b.next):=q2
    simp only[e2,wdB,t2,vdT,oD,hg.len,a0M,e3,p1,q1,q2,lb,gdT,pdB,Bool.false_eq_true,if_false]
    refine(c1d (l:=b.next) (q:=(code.length:Int)) (by have:=hnx b (by simp);omega)).use ?_
    rw[V7]
    have he1:∀r:List L9×Int,(if(code.length:Int)∈b.next then([],190) else(l++[b],0))=r→Z9 code.length ([],l++[b])=r:=fun r h=>by
     unfold Z9
     simp only[List.getLast?_append,List.getLast?_singleton,Option.some_or]
     exact h
    refine⟨fun hm=>bad (he1 _ (if_pos hm)),fun hm=> ?_⟩
    rw[he1 (l++[b],0) (if_neg hm)]
    refine b9.grA (pre:=[]) hg hle fun T2 hle2 _=> ?_
    exact b9.less hle2 (b9.here ⟨rfl,rfl⟩)
end
end
end Go.Proofs.Ytdkidgkiplcggaa.d
end
