/-
  BlocksReachesSaid: part May of its proof.
-/
import Derived.Test.YtdkidgkiplcggaaMaw
import Derived.Test.YtdkidgkiplcggaaMax
import Derived.Test.YtdkidgkiplcggaaMav
set_option linter.unusedVariables false
set_option linter.unusedSimpArgs false
set_option maxRecDepth 100000
section
open Go.Proofs Go Go.Am Go.Op
namespace Go.Proofs.Ytdkidgkiplcggaa.d
set_option linter.unusedSectionVars false
def a2C(y:In):Bool:=decide (46≤y.op∧y.op≤49∨y.op=51∨y.op=52)
section
variable{E:d6}{w0:i5}
theorem Own.compactT{S0 S:b4}{d:D}{l:List Int}(h:Own S0 d l S)(h0:l≠[])(hl:l.length<2^60){Q:D→b4→Prop}{lp lq:List D}(hQ:b9 E Q (.tup (lp++iD (Lib.compact l)::lq)) S0):r8 Try.prog E w0 H3 [d] S fun v S'=>b9 E Q (.tup (lp++v::lq)) S':=by
 rcases h with ⟨_,e,_⟩|⟨k,acs,ex,hk,rfl,rfl⟩
 ·exact absurd e h0
 ·refine a7Q.fnD (zs:=l) (b4.set_same _ _ _) rfl (by rw[j3];omega) (by rw[List.drop_zero,List.take_of_length_le (by rw[j3];exact Nat.le_refl _),Z5]) (by omega) fun acs'=> ?_
  have hle:=a0C l
  refine b9.freezeT (b4.set_same _ _ _) rfl (by simp[E6]<;>omega) hle ?_
  rw[b4.set_set,b4.erase_set _ _ _ hk]
  have:D.lst (((List.take 0 (iC l)++(E6 (Lib.compact l++List.replicate (l.length - (Lib.compact l).length) 0)++List.drop (0+l.length) (iC l))).drop 0).take (Lib.compact l).length) 1=iD (Lib.compact l):=by
   rw[List.take_zero,List.nil_append,List.drop_zero,Z5,J9,List.append_assoc,List.take_append_of_le_length (by rw[j3];exact Nat.le_refl _),List.take_of_length_le (by rw[j3];exact Nat.le_refl _)]
   rfl
  rw[this]
  exact hQ
theorem a5h{y:In}(hal:y.arms.length≤65535){next:Int}:a1o Try.prog E w0 J3 [inD y, .int .i64 next] (.tup [iD (C4 y next), .bool (a2C y)]):=fun S=>by
 refine a9k ?_
 unfold a6b
 refine c7b fun k a n=> ?_
 have hk:I1 (S.set k ⟨4,[inC y],a⟩) k 4 (inC y):=I1.new
 have l1:S.le (S.set k ⟨4,[inC y],a⟩):=b4.le_new n
 generalize (S.set k ⟨4,[inC y],a⟩)=B at hk l1
 obtain⟨i0,i1,i2,i3⟩:=c5I y
 have hk0:=hk
 have g0:∀ {T:b4},I1 T k 4 (inC y)→c9 T (.ptr k 0)=some (.int .u8 y.op):=fun h=>h.ld 0
 have g1:∀ {T:b4},I1 T k 4 (inC y)→c9 T (.ptr k 1)=some (.int .i64 y.a):=fun h=>h.ld 1
 have g2:∀ {T:b4},I1 T k 4 (inC y)→c9 T (.ptr k 2)=some (.int .i64 y.b):=fun h=>h.ld 2
 have g3:∀ {T:b4},I1 T k 4 (inC y)→c9 T (.ptr k 3)=some (b4v y.arms):=fun h=>h.ld 3
 let Q:D→b4→Prop:=fun d' S'=>d'= .tup [iD (C4 y next), .bool (a2C y)]∧S'=S
 have fin:∀ {B' T:b4} {d:D} {l:List Int},S.le B'→Own B' d l T→l≠[]→l.length<2^60→a2C y=true→C4 y next=a2e l→O3 E w0 (b9 E Q) d T:=by
  intro B' T d l hle ho h0 hl hen he
  refine a6o ?_
  unfold a3r
  refine ho.sort h0 hl fun v S' ho'=> ?_
  refine Own.compactT (lp:=[]) (lq:=[.bool true]) ho' (fun e=>h0 (List.length_eq_zero_iff.1 (by rw[←a4P,e];rfl))) (by rw[a4P];exact hl) ?_
  exact b9.less hle (b9.here ⟨by rw[he,hen];rfl,rfl⟩)
 have sw:∀ {T:b4} {d:D},Own B d [y.b] T→y.op=49→b5 (c9 T (.ptr k 3)) fun v23=>b5 (m6 v23) fun v24=>b8 Try.prog E w0 (.loop Q6) (d8 49 [4,33,34,35] [d,v23,v24,(.int .i64 0)]) T (Q2 E w0 (b9 E Q)):=by
  intro T d ho' h49
  have hk:=(hk0.le ho'.le)
  rw[g3 hk,oD]
  rw[c3S,oD]
  refine a7s (I:=fun n x5 x36 x37 x38 T=>x36=b4v y.arms∧x37= .int .i64 (y.arms.length:Int)∧∃(i:Nat) (B':b4),x38= .int .i64 (i:Int)∧i+n=y.arms.length∧B.le B'∧Own B' x5 (y.b::(y.arms.take i).map (·.2)) T) ?_ (n:=y.arms.length)
   ⟨rfl,rfl,0,B,rfl,by omega,b4.le_refl _,ho'⟩
  rintro n x5 _ _ _ T ⟨rfl,rfl,i,B',rfl,hi,hB,ho⟩
  unfold a0E
  rw[V6,oD,cdI]
  refine⟨fun hlt=> ?_,fun hge=> ?_⟩
  ·have hlt:i<y.arms.length:=by omega
   have ha:y.arms[i]? =some y.arms[i]:=List.getElem?_eq_getElem hlt
   rw[c4h ha,oD,laE,if_pos ⟨by decide,by simp[a0L]⟩,oD]
   intro k3 a3 n3
   refine(I1.new (sz:=2) (c:=[.int .i64 0, .int .i64 0])).st (ds:=a0L y.arms[i]) (clA _) ⟨rfl,by decide,by simp⟩ fun a4=> ?_
   rw[b4.set_set,show o5 [D.int .i64 0, .int .i64 0] 0 (a0L y.arms[i])=a0L y.arms[i]from rfl]
   have hb:=ho.under (o:=⟨2,[a0L y.arms[i]],a4⟩) n3
   simp only[ofP,Nat.zero_add,oD]
   rw[(I1.new).ld 1,show(a0L y.arms[i])[1]? =some (.int .i64 y.arms[i].2) from rfl,oD,show s4 1 (List.replicate 1 [D.int .i64 0]) [(0, .int .i64 y.arms[i].2)]=some (iC [y.arms[i].2]) from rfl]
   refine I8 rfl ?_
   refine hb.push (news:=[y.arms[i].2]) (by simp[rowsS,E0]) (by simp) (by simp;omega) fun d' T' ho'=> ?_
   rw[C6,oD,g9 (by omega) (by omega)]
   refine⟨n - 1,by omega,by trivial,by trivial,i+1,B'.set k3 ⟨2,[a0L y.arms[i]],a4⟩,by trivial,by omega,b4.le_set hB (b4.none_of hB (b4.none_of ho.le n3)), ?_⟩
   have e:y.b::(y.arms.take (i+1)).map (·.2)=(y.b::(y.arms.take i).map (·.2))++[y.arms[i].2]:=by rw[List.take_add_one,ha,List.map_append];rfl
   rw[e]
   exact ho'
  ·rw[List.take_of_length_le (by omega)]at ho
   exact fin (b4.le_trans l1 hB) ho (by simp) (by simp;omega) (by unfold a2C;simp[h49]) (by unfold C4;rw[if_neg (by omega),if_neg (by omega),if_neg (by omega),if_pos h49])
 have c41:∀ {b:Bool},y.op≠51∧y.op≠52∧y.op≠46→b=decide (y.op=47∨y.op=48)→O2 E w0 (b9 E Q) (.int .i64 next) (.ptr k 0) (.int .u8 y.op) (.bool b) B:=by
  intro b hne hb
  subst hb
  refine a5O ?_
  unfold a3n
  rw[cdI]
  refine⟨fun h=> ?_,fun h=> ?_⟩
  ·simp only[ofP,Nat.zero_add,oD,g1 hk]
   refine c1j (l:=[y.a,next]) fun d T hT=> ?_
   refine fin l1 hT (by simp) (by simp) (by unfold a2C;rcases h with h|h<;>simp[h]) ?_
   unfold C4
   rw[if_neg (by omega),if_neg (by omega),if_pos h]
   exact a0D (N7 _).1 (N7 _).1 fun n=>by rw[(N7 _).2,(N7 _).2];simp[or_comm]
  ·rw[a4e,oD,cdI]
   refine⟨fun h49=> ?_,fun h49=> ?_⟩
   ·simp only[ofP,Nat.zero_add,oD,g2 hk]
    exact a9A fun d T hT=>sw hT h49
   ·refine a9A fun d T hT=> ?_
    refine hT.finT (lp:=[]) (lq:=[.bool false]) (b9.less l1 (b9.here ⟨?_,rfl⟩))
    have e1:C4 y next=[next]:=by unfold C4;rw[if_neg (by omega),if_neg (by omega),if_neg h,if_neg h49];exact c2R _
    have e2:a2C y=false:=by unfold a2C;simp;omega
    rw[e1,e2];rfl
 have c21:∀ {b:Bool},b=decide (y.op=51∨y.op=52)→O0 E w0 (b9 E Q) (.int .i64 next) (.ptr k 0) (.int .u8 y.op) (.bool b) B:=by
  intro b hb
  subst hb
  refine a6k ?_
  unfold a3f
  rw[cdI]
  refine⟨fun h=> ?_,fun h=> ?_⟩
  ·refine b9.less l1 (b9.weak (d':= .tup [iD [], .bool true]) (Wk.tup ⟨Wk.nil 1,Wk.refl _,trivial⟩) (b9.here ⟨?_,rfl⟩))
   have e1:C4 y next=[]:=by unfold C4;rw[if_pos h]
   have e2:a2C y=true:=by unfold a2C;rcases h with h|h<;>simp[h]
   rw[e1,e2]
  ·rw[a4e,oD,cdI]
   refine⟨fun h46=> ?_,fun h46=> ?_⟩
   ·simp only[ofP,Nat.zero_add,oD,g1 hk]
    refine a9A fun d T hT=> ?_
    refine hT.finT (lp:=[]) (lq:=[.bool true]) (b9.less l1 (b9.here ⟨?_,rfl⟩))
    have e1:C4 y next=[y.a]:=by unfold C4;rw[if_neg h,if_pos h46]
    have e2:a2C y=true:=by unfold a2C;simp[h46]
    rw[e1,e2];rfl
   ·rw[a4e,oD,cdI]
    refine⟨fun h47=>c41 (by omega) (by rw[decide_eq_true h47,decide_eq_true (.inl h47)]),fun h47=> ?_⟩
    rw[a4e,oD]
    exact c41 (by omega) (by by_cases h48:y.op=48<;>simp[h47,h48])
 simp only[ofP,Nat.zero_add,oD,g0 hk,a4e]
 rw[cdI]
 refine⟨fun h51=>c21 (by rw[decide_eq_true h51,decide_eq_true (.inl h51)]),fun h51=>c21 (by by_cases h52:y.op=52<;>simp[h51,h52])⟩
end
end Go.Proofs.Ytdkidgkiplcggaa.d
end
section
namespace Go.Am
section
section
variable{P:Program}{E:d6}{w0:i5}
theorem b8A(k:Nat)(o:u7):∀(ds:List D) (i:Nat) (v:D),V1 k o (ds.set i v)=(V1 k o ds).set i (frz k o v)
 | [],i,v=>by simp[V1]
 |d::ds,0,v=>by simp[V1]
 |d::ds,i+1,v=>by simp only[List.set_cons_succ,V1,b8A k o ds i v]
theorem b8o(k:Nat)(o:u7):∀n:Nat,V1 k o (List.replicate n .any)=List.replicate n .any
 |0=>rfl
 |n+1=>by simp only[List.replicate_succ,V1,b8o k o n];simp[frz]
theorem b1E(k:Nat)(o:u7):∀(T:List D) (L:List Nat) (vs:List D),V1 k o (M9 T L vs)=M9 (V1 k o T) L (V1 k o vs)
 |T,i::L,v::vs=>by simp only[M9,V1];rw[b1E k o _ L vs,b8A]
 |T,[],[]=>by simp[M9,V1]
 |T,[],_::_=>by simp[M9,V1]
 |T,_::_,[]=>by simp[M9,V1]
theorem a9p{c:Code}{n:Nat}{L:List Nat}{vs:List D}{S:b4}{Q:j2→List D→b4→Prop}{k:Nat}{o:u7}(hk:S k=some o)(hc:c0j o)(h:b8 P E w0 c (d8 n L (V1 k o vs)) (S.erase k) Q):b8 P E w0 c (d8 n L vs) S Q:=fun R H avs F hC hT=>by
 obtain⟨h1,h2⟩:=hC.freeze hk hc
 have e:V1 k o (d8 n L vs)=d8 n L (V1 k o vs):=by unfold d8;rw[b1E,b8o]
 have hT':=a6S hC hk h2 (fun _=>if_pos rfl) hT
 rw[e]at hT'
 have:=(C7.at_le h2 (h _ H avs F h1 hT')).mono fun ex T' H' hq=>a2K.le h2 hq
 rw[f9]at this
 show C7 P E (w0.at E R) c avs H (c3Z E R (d8 n L vs).length Q)
 rw[f9]
 exact this
end
end
section
def b2G(t:Int×Int×Nat):List D:=[.int .i64 t.1, .int .i64 t.2.1, .int .i64 (t.2.2:Int)]
structure K0 (S:b4) (k:Nat) (ts:List (Int×Int×Nat)):Prop where
 has:∃acs,S k=some (b2y (ts.map b2G) acs)
 keys:(ts.map (·.1)).Nodup
 stamps:(ts.map (·.2.2)).Nodup
theorem a6C(rows:List (List D))(acs:List AV):a5k (b2y rows acs)=some rows:=by
 unfold a5k b2y
 rw[if_pos rfl]
theorem a2f(q:Int):∀(ts:List (Int×Int×Nat)) (i:Nat),(q ∉ ts.map (·.1)∧a7P (.int .i64 q) (ts.map b2G) i=some none)∨
  ∃j t,ts[j]? =some t∧t.1=q∧a7P (.int .i64 q) (ts.map b2G) i=some (some (i+j, .int .i64 t.2.1, .int .i64 (t.2.2:Int)))
 | [],i=> .inl ⟨by simp,rfl⟩
 |t::ts,i=>by
  simp only[List.map_cons,b2G,a7P,b7m,if_true]
  by_cases h:q=t.1
  ·refine .inr ⟨0,t,rfl,h.symm, ?_⟩
   rw[show(q==t.1)=true by simpa using h]
   rfl
  ·rw[show(q==t.1)=false by simpa using h]
   rcases a2f q ts (i+1) with ⟨h1,h2⟩|⟨j,t',h1,h2,h3⟩
   ·exact .inl ⟨by simpa [h]using h1,h2⟩
   ·exact .inr ⟨j+1,t',h1,h2,by rw[h3,Nat.add_assoc,Nat.add_comm 1 j]⟩
theorem K0.of{S S':b4}{k:Nat}{ts:List (Int×Int×Nat)}(h:K0 S k ts)(e:S' k=S k):K0 S' k ts:=⟨by rw[e];exact h.has,h.keys,h.stamps⟩
theorem K0.there{S:b4}{k:Nat}{ts:List (Int×Int×Nat)}(h:K0 S k ts):S k≠none:=by obtain⟨a,e⟩:=h.has;rw[e];simp
theorem K0.put{S:b4}{k:Nat}{ts:List (Int×Int×Nat)}(h:K0 S k ts){q v:Int}{K:D→b4→Prop}
  (hK:∀ts' S',(∀n,n∈ts'.map (·.1)↔n=q∨n∈ts.map (·.1))→K0 S' k ts'→(∀j,j≠k→S' j=S j)→K a8 S'):b2l S 0 (.mp k) (.int .i64 q) (.int .i64 v) K:=by
 obtain⟨acs,hS⟩:=h.has
 simp only[b2l,b0e,hS,a6C,beq_self_eq_true,if_true]
 rcases a2f q ts 0 with ⟨h1,h2⟩|⟨j,t,h1,h2,h3⟩
 ·rw[h2]
  intro n acs' hn
  refine hK (ts++[(q,v,n)]) _ (fun m=>by simp[or_comm]) ⟨⟨acs',by rw[b4.set_same,List.map_append];rfl⟩, ?_, ?_⟩ fun j hj=>b4.set_ne _ _ _ hj
  ·rw[List.map_append,List.nodup_append]
   exact⟨h.keys,by simp,fun a ha b hb=>by simp at hb;subst hb;exact fun e=>h1 (by rw[←e];exact ha)⟩
  ·rw[List.map_append,List.nodup_append]
   refine⟨h.stamps,by simp,fun a ha b hb=> ?_⟩
   simp at hb
   subst hb
   rintro rfl
   obtain⟨t,ht,e⟩:=List.mem_map.1 ha
   exact hn (b2G t) (List.mem_map.2 ⟨t,ht,rfl⟩) (by simp[b2G,e])
 ·rw[h3]
  intro acs'
  have hj:j<ts.length:=(List.getElem?_eq_some_iff.1 h1).1
  have e0:∀ {α:Type} (f:Int×Int×Nat→α),f (q,v,t.2.2)=f t→(ts.set j (q,v,t.2.2)).map f=ts.map f:=fun f hf=>by
   rw[List.map_set,hf]
   apply List.ext_getElem?
   intro i
   rw[List.getElem?_set]
   split
   ·rename_i e
    subst e
    rw[List.length_map,if_pos hj,List.getElem?_map,h1];rfl
   ·rfl
  have k1:=e0 (·.1) h2.symm
  have k2:=e0 (·.2.2) rfl
  refine hK (ts.set j (q,v,t.2.2)) _ (fun n=> ?_) ⟨⟨acs', ?_⟩,by rw[k1];exact h.keys,by rw[k2];exact h.stamps⟩ fun j hj=>b4.set_ne _ _ _ hj
  ·rw[k1]
   constructor
   ·exact .inr
   ·rintro(rfl|h)
    ·exact List.mem_map.2 ⟨t,List.mem_of_getElem? h1,h2⟩
    ·exact h
  ·rw[b4.set_same,List.map_set,Nat.zero_add];rfl
theorem K0.look{S:b4}{k:Nat}{ts:List (Int×Int×Nat)}(h:K0 S k ts)(q:Int):∃v:Int,a6g S 0 (.int .i64 0) false (.mp k) (.int .i64 q)=some (.int .i64 v):=by
 obtain⟨acs,hS⟩:=h.has
 simp only[a6g,b0e,b9D,hS,a6C,beq_self_eq_true,if_true]
 rcases a2f q ts 0 with ⟨h1,h2⟩|⟨j,t,h1,h2,h3⟩
 ·rw[h2];exact⟨0,rfl⟩
 ·rw[h3];exact⟨t.2.1,rfl⟩
theorem K0.new{S:b4}{K:D→b4→Prop}(h:∀k S',S k=none→K0 S' k []→(∀j,j≠k→S' j=S j)→K (.mp k) S'):b2X S K:=fun k acs hk=>h k _ hk ⟨⟨acs,b4.set_same _ _ _⟩,by simp,by simp⟩ fun j hj=>b4.set_ne _ _ _ hj
theorem a6O{α β:Type}{f:α→β}:∀ {l:List α},(l.map f).Nodup→∀ {a b:α},a∈l→b∈l→f a=f b→a=b
 | [],_,a,b,ha,_,_=>by cases ha
 |x::l,h,a,b,ha,hb,e=>by
  simp only[List.map_cons,List.nodup_cons]at h
  rcases List.mem_cons.1 ha with h1|h1<;>rcases List.mem_cons.1 hb with h2|h2
  ·rw[h1,h2]
  ·exact(h.1 (List.mem_map.2 ⟨b,h2,by rw[←e,h1]⟩)).elim
  ·exact(h.1 (List.mem_map.2 ⟨a,h1,by rw[e,h2]⟩)).elim
  ·exact a6O h.2 h1 h2 e
def a4v(S:b4)(j m:Nat)(dn ts:List (Int×Int×Nat)):Prop:=∃acs,S j=some ⟨b2s,[.mp m]::dn.map (fun t=> .int .i64 (t.2.2:Int))::ts.map b2G,acs⟩
theorem K0.range{S:b4}{k:Nat}{ts:List (Int×Int×Nat)}(h:K0 S k ts){K:D→b4→Prop}(hK:∀j S',S j=none→a4v S' j k [] ts→(∀i,i≠j→i≠k→S' i=S i)→K (.ptr j 0) S'):a8E S (.mp k) K:=by
 obtain⟨acs,hS⟩:=h.has
 simp only[a8E,hS,a6C]
 exact fun j acs' hj=>hK j _ hj ⟨acs',b4.set_same _ _ _⟩ fun i h1 h2=>by rw[b4.set_ne _ _ _ h1,b4.erase_ne _ _ h2]
theorem c0I(m:Nat)(sr:List D)(rows:List (List D))(acs:List AV):b5B ⟨b2s,[.mp m]::sr::rows,acs⟩=some (m,sr,rows):=by
 unfold b5B
 rw[if_pos rfl]
theorem a4v.next{S:b4}{j m:Nat}{dn ts:List (Int×Int×Nat)}(h:a4v S j m dn ts)(hst:(ts.map (·.2.2)).Nodup)(hsub:∀t∈dn,t∈ts){K:D→b4→Prop}
  (h1:∀t∈ts,t ∉ dn→∀S',a4v S' j m (dn++[t]) ts→(∀i,i≠j→S' i=S i)→K (.tup [.bool true, .int .i64 t.1, .int .i64 t.2.1]) S') (h2:(∀t∈ts,t∈dn)→K (.tup [.bool false]) S):b6c S (.ptr j 0) K:=by
 obtain⟨acs,hS⟩:=h
 simp only[b6c,hS,c0I]
 have uniq:∀a∈ts,∀b∈ts,a.2.2=b.2.2→a=b:=fun a ha b hb e=>a6O hst ha hb e
 refine⟨fun key x n hrow hn acs'=> ?_,fun hall=>h2 fun t ht=> ?_⟩
 ·obtain⟨t,ht,e⟩:=List.mem_map.1 hrow
  simp only[b2G,List.cons.injEq,and_true]at e
  obtain⟨rfl,rfl,rfl⟩:=e
  refine h1 t ht (fun hd=>hn (List.mem_map.2 ⟨t,hd,rfl⟩)) _ ⟨acs', ?_⟩ fun i hi=>b4.set_ne _ _ _ hi
  rw[b4.set_same,List.map_append];rfl
 ·have:=hall _ _ _ (List.mem_map.2 ⟨t,ht,rfl⟩)
  obtain⟨t',ht',e⟩:=List.mem_map.1 this
  simp only[D.int.injEq,true_and,Int.natCast_inj]at e
  rw[uniq t ht t' (hsub t' ht') e.symm]
  exact ht'
theorem a4v.entry{S:b4}{j m:Nat}{dn ts:List (Int×Int×Nat)}{t:Int×Int×Nat}(h:a4v S j m (dn++[t]) ts)(ht:t∈ts){K:D→b4→Prop}(hK:K (.tup [.int .i64 t.1, .int .i64 t.2.1]) S):b0u S (.ptr j 0) K:=by
 obtain⟨acs,hS⟩:=h
 simp only[b0u,hS,c0I]
 exact⟨_,_,_,List.mem_map.2 ⟨t,ht,rfl⟩,by simp,hK⟩
theorem a4v.of{S S':b4}{j m:Nat}{dn ts:List (Int×Int×Nat)}(h:a4v S j m dn ts)(e:S' j=S j):a4v S' j m dn ts:=by
 obtain⟨acs,hS⟩:=h
 exact⟨acs,by rw[e];exact hS⟩
theorem a4v.there{S:b4}{j m:Nat}{dn ts:List (Int×Int×Nat)}(h:a4v S j m dn ts):S j≠none:=by obtain⟨a,e⟩:=h;rw[e];simp
end
end Go.Am
end
section
open Go.Proofs Go Go.Am Go.Op
namespace Go.Proofs.Ytdkidgkiplcggaa.d
section
set_option linter.unusedSectionVars false
theorem b1d{y:In}(ha:y.arms.length≤65535)(n:Int):(C4 y n).length≤65540:=by
 have hr:∀l:List Int,(a2e l).length≤l.length:=fun l=>by
  have:=a0C (srt l);rw[a4P]at this;exact this
 unfold C4
 split
 ·simp
 ·split
  ·simp
  ·refine Nat.le_trans (hr _) ?_
   split
   ·simp
   ·split
    ·simp;omega
    ·simp
section
variable{E:d6}{w0:i5}
theorem Own.fin{S0 S:b4}{d:D}{l:List Int}(h:Own S0 d l S){Q:D→b4→Prop}(hq:b9 E Q (iD l) S0):b9 E Q d S:=by
 rcases h with ⟨rfl,rfl,rfl⟩|⟨k,acs,ex,h,rfl,rfl⟩
 ·exact b9.nil hq
 ·refine b9.freeze (b4.set_same _ _ _) rfl (by rw[j3];omega) (Nat.le_refl _) ?_
  rw[b4.erase_set _ _ _ h,List.drop_zero,List.take_of_length_le (by rw[j3];exact Nat.le_refl _)]
  exact hq
theorem Sl.rows{S0 T:b4}{av:List Nat}{d:D}{l:List Int}(h:Sl S0 av d l T):((d= .nilSlc∧l=[])∨c5G d .nilSlc=some false)∧∀T',T.le T'→rowsS T' 1 d=some (iC l):=by
 rcases h with ⟨rfl,rfl⟩|⟨k,cap,ex,rows,acs,h0,h1,rfl,h2,h3,h4⟩
 ·exact⟨.inl ⟨rfl,rfl⟩,fun T' _=>rfl⟩
 ·refine⟨.inr rfl,fun T' hle=> ?_⟩
  simp only[rowsS,E0,hle _ _ h2]
  rw[if_pos ⟨by trivial,by trivial,by have:=b1h h3;omega⟩,List.drop_zero,h3]
theorem c3N{S0 S1 S:b4}{d:D}{l:List Int}{av:List Nat}(h:Own S1 d l S)(hle:S0.le S1)(hav:∀j∈av,S1 j≠none):Sl S0 av d l S:=by
 rcases h with ⟨rfl,rfl,rfl⟩|⟨k,acs,ex,h,rfl,rfl⟩
 ·exact .inl ⟨rfl,rfl⟩
 ·exact .inr ⟨k,l.length,ex,iC l,acs,b4.none_of hle h,fun hm=>hav k hm h,rfl,b4.set_same _ _ _,by rw[List.take_of_length_le (by rw[j3];exact Nat.le_refl _)],Nat.le_refl _⟩
end
end
section
set_option linter.unusedSectionVars false
theorem b8d{bs:List Int}:∀(n p:Nat) (e:Int),a5u bs n p= .error e→e≠0
 |0,p,e,h=>by cases h
 |n+1,p,e,h=>by
  by_cases hp:p<bs.length
  ·rw[a6L hp]at h
   by_cases he:(A7 bs p).2.2=0
   ·rw[if_pos he]at h
    cases hr:a5u bs n (A7 bs p).2.1 with
    |error e'=>rw[hr]at h;cases h;exact b8d n _ _ hr
    |ok l'=>rw[hr]at h;cases h
   ·rw[if_neg he]at h;cases h;exact he
  ·rw[a5u,if_pos (by omega)]at h;cases h
section
variable{E:d6}{w0:i5}
theorem StT.base{S0 S1 T:b4}{k:Nat}{l s:D}{f:Fr}(hle:S0.le S1)(hk0:S1 k=none)(hl:Sl S1 (k::ob s) l f.locals T)(hs:Sl S1 (k::ob l) s f.stack T):S0 k=none∧Sl S0 (k::ob s) l f.locals T∧Sl S0 (k::ob l) s f.stack T:=by
 have go:∀ {av d li},Sl S1 av d li T→Sl S0 av d li T:=fun h=>by
  rcases h with h|⟨k,cap,ex,rows,acs,z0,z1,z2,z3,z4⟩
  ·exact .inl h
  ·exact .inr ⟨k,cap,ex,rows,acs,b4.none_of hle z0,z1,z2,z3,z4⟩
 exact⟨b4.none_of hle hk0,go hl,go hs⟩
theorem c1r{S S':b4}(h:S.le S'){k:Nat}(hk:S k≠none):S' k=S k:=by
 cases e:S k with
 |none=>exact absurd e hk
 |some o=>exact h _ _ e
end
end
section
set_option linter.unusedSectionVars false
theorem b7C(l:List In):m6 (a1k l)=some (.int .i64 l.length):=by simp[a1k]
def b5d(ys:List In)(ext:List Int)(i:Nat):List Int:=match ys[i]? with
 |some y=>if a2C y then C4 y (ext.getD (i+1) 0)++(if i+1<ys.length then[ext.getD (i+1) 0]else[]) else[]
 |none=>[]
def B6(ys:List In)(ext:List Int)(n:Nat):List Int:=0::(List.range n).flatMap (b5d ys ext)
theorem a1S(ys:List In)(ext:List Int)(n:Nat):B6 ys ext (n+1)=B6 ys ext n++b5d ys ext n:=by
 unfold B6
 rw[List.range_succ,List.flatMap_append]
 simp
section
variable{E:d6}{w0:i5}
theorem c7W{x0:D}{ys:List In}{ext:List Int}(he:ext.length=ys.length+1)(hyl:ys.length<2^40){k:Nat}{to:List Int}(htl:to.length<2^40){i:Nat}(hi:i<ys.length){N0:D→D→D→D→D→D→D→b4→Prop}{Q:D→b4→Prop}{S:b4}{ts:List (Int×Int×Nat)}(hm:K0 S k ts)
  (hN:∀ts' S',(∀n,n∈ts'.map (·.1)↔n∈ts.map (·.1)∨n∈to++(if i+1<ys.length then[ext.getD (i+1) 0]else[]))→K0 S' k ts'→(∀j,j≠k→S' j=S j)→N0 x0 (a1k ys) (iD ext) (.mp k) (a1k ys) (.int .i64 (ys.length:Int)) (.int .i64 ((i:Int)+1)) S'):
  b8 Try.prog E w0 (.loop a0T) (d8 173 [0,4,5,7,8,38,39,40,57,58,59] [x0,a1k ys,iD ext, .mp k, .int .i64 (i:Int),a1k ys, .int .i64 (ys.length:Int), .int .i64 (i:Int),iD to, .int .i64 (to.length:Int),(.int .i64 0)]) S (a0R E w0 N0 Q):=by
 refine b0O (I:=fun n y0 x4 x5 x7 x8 x38 x39 x40 x57 x58 x59 T=>x0=y0∧x4=a1k ys∧x5=iD ext∧x7= .mp k∧x8= .int .i64 (i:Int)∧x38=a1k ys∧x39= .int .i64 (ys.length:Int)∧x40= .int .i64 (i:Int)∧x57=iD to∧x58= .int .i64 (to.length:Int)∧
   ∃(j:Nat) (ts':List (Int×Int×Nat)),x59= .int .i64 (j:Int)∧j+n=to.length∧(∀m,m∈ts'.map (·.1)↔m∈ts.map (·.1)∨m∈to.take j)∧K0 T k ts'∧∀j,j≠k→T j=S j) ?_ (n:=to.length)
  ⟨rfl,rfl,rfl,rfl,rfl,rfl,rfl,rfl,rfl,rfl,0,ts,rfl,by omega,fun m=>by simp,hm,fun _ _=>rfl⟩
 rintro n _ _ _ _ _ _ _ _ _ _ _ T ⟨rfl,rfl,rfl,rfl,rfl,rfl,rfl,rfl,rfl,rfl,j,ts',rfl,hj,hkeys,hm',hsame⟩
 unfold a3N
 rw[V6,oD,cdI]
 refine⟨fun hlt=> ?_,fun hge=> ?_⟩
 ·have hlt:j<to.length:=by omega
  have ht:to[j]? =some to[j]:=List.getElem?_eq_getElem hlt
  generalize to[j]=q at ht
  rw[a3q ht,oD,lsE,List.getElem?_cons_zero,oD]
  obtain⟨v,hv⟩:=hm'.look q
  rw[hv,oD,C6,oD]
  refine hm'.put fun ts2 T2 hk2 hm2 hs2=> ?_
  rw[C6,oD,g9 (by omega) (by omega)]
  refine⟨n - 1,by omega,by trivial,by trivial,by trivial,by trivial,by trivial,by trivial,by trivial,by trivial,by trivial,by trivial,j+1,ts2,by trivial,by omega,fun m=> ?_,hm2,fun j hj=>by rw[hs2 j hj,hsame j hj]⟩
  rw[hk2,hkeys,List.take_add_one,ht]
  simp
  constructor
  ·rintro(h|h|h)
   ·exact .inr (.inr h)
   ·exact .inl h
   ·exact .inr (.inl h)
  ·rintro(h|h|h)
   ·exact .inr (.inl h)
   ·exact .inr (.inr h)
   ·exact .inl h
 ·rw[List.take_of_length_le (by omega)]at hkeys
  simp only[C6,oD,b7C,V6]
  rw[g9 (by omega) (by omega),cdI]
  refine⟨fun h1=> ?_,fun h1=> ?_⟩
  ·have h1:i+1<ys.length:=by omega
   have hx:ext[i+1]? =some (ext.getD (i+1) 0):=by rw[List.getD_eq_getElem?_getD,List.getElem?_eq_getElem (by omega)];rfl
   have hix:j5 1 (iD ext) (.int .i64 ((i:Int)+1))=some (.elt [.int .i64 (ext.getD (i+1) 0)] 0):=a3q hx
   rw[hix,oD,lsE,List.getElem?_cons_zero,oD]
   obtain⟨v,hv⟩:=hm'.look (ext.getD (i+1) 0)
   rw[hv,oD,C6,oD]
   refine hm'.put fun ts2 T2 hk2 hm2 hs2=>hN ts2 T2 (fun m=> ?_) hm2 fun j hj=>by rw[hs2 j hj,hsame j hj]
   rw[hk2,hkeys,if_pos h1]
   simp
   constructor
   ·rintro(h|h|h)
    ·exact .inr (.inr h)
    ·exact .inl h
    ·exact .inr (.inl h)
   ·rintro(h|h|h)
    ·exact .inr (.inl h)
    ·exact .inr (.inr h)
    ·exact .inl h
  ·exact hN ts' T (fun m=>by rw[hkeys,if_neg (by omega),List.append_nil]) hm' hsame
theorem c7L{x0:D}{ys:List In}{ext:List Int}(he:ext.length=ys.length+1)(hyl:ys.length<2^40)(harm:∀y∈ys,y.arms.length≤65535){k:Nat}{Q:D→b4→Prop}{S0 S:b4}{ts:List (Int×Int×Nat)}(hm:K0 S k ts)(hk0:S0 k=none)(hle:S0.le S)(hkeys:∀n,n∈ts.map (·.1)↔n=0)
  (hend:∀ts' S',(∀n,n∈ts'.map (·.1)↔n∈B6 ys ext ys.length)→K0 S' k ts'→S0.le S'→a8E S' (.mp k) fun v54 S55=>b8 Try.prog E w0 (.loop V4) (d8 173 [0,4,5,14,83] [x0,a1k ys,iD ext, .nilSlc,v54]) S55 (W5 E w0 Q)):
  b8 Try.prog E w0 (.loop a0U) (d8 173 [0,4,5,7,38,39,40] [x0,a1k ys,iD ext, .mp k,a1k ys, .int .i64 (ys.length:Int),(.int .i64 0)]) S (a0V E w0 Q):=by
 refine b1z (I:=fun n y0 x4 x5 x7 x38 x39 x40 T=>x0=y0∧x4=a1k ys∧x5=iD ext∧x7= .mp k∧x38=a1k ys∧x39= .int .i64 (ys.length:Int)∧
   ∃(i:Nat) (ts':List (Int×Int×Nat)),x40= .int .i64 (i:Int)∧i+n=ys.length∧(∀m,m∈ts'.map (·.1)↔m∈B6 ys ext i)∧K0 T k ts'∧S0.le T) ?_ (n:=ys.length)
  ⟨rfl,rfl,rfl,rfl,rfl,rfl,0,ts,rfl,by omega,fun m=>by rw[hkeys];simp[B6],hm,hle⟩
 rintro n _ _ _ _ _ _ _ T ⟨rfl,rfl,rfl,rfl,rfl,rfl,i,ts',rfl,hi,hks,hm',hle'⟩
 unfold a3I
 rw[V6,oD,cdI]
 refine⟨fun hlt=> ?_,fun hge=> ?_⟩
 ·have hlt:i<ys.length:=by omega
  have hy:ys[i]? =some ys[i]:=List.getElem?_eq_getElem hlt
  have hmem:ys[i]∈ys:=List.getElem_mem hlt
  generalize ys[i]=y at hy hmem
  have hx:ext[i+1]? =some (ext.getD (i+1) 0):=by rw[List.getD_eq_getElem?_getD,List.getElem?_eq_getElem (by omega)];rfl
  have hix:j5 1 (iD ext) (.int .i64 ((i:Int)+1))=some (.elt [.int .i64 (ext.getD (i+1) 0)] 0):=a3q hx
  have hhd:b5d ys ext i=if a2C y then C4 y (ext.getD (i+1) 0)++(if i+1<ys.length then[ext.getD (i+1) 0]else[]) else[]:=by unfold b5d;rw[hy]
  rw[b9q hy,oD,laE,if_pos ⟨by decide,by simp[inC]⟩,oD]
  intro ka a na
  refine(I1.new (sz:=4) (c:=[.int .u8 0, .int .i64 0, .int .i64 0, .nilSlc])).st (ds:=inC y) (clA _) ⟨rfl,by decide,by simp[inC]⟩ fun c=> ?_
  rw[b4.set_set,show o5 [D.int .u8 0, .int .i64 0, .int .i64 0, .nilSlc] 0 (inC y)=inC y from rfl]
  have ca:I1 (T.set ka ⟨4,[inC y],c⟩) ka 4 (inC y):=I1.new
  have l1:S0.le (T.set ka ⟨4,[inC y],c⟩):=b4.le_trans hle' (b4.le_new na)
  have hne:k≠ka:=fun e=>by have:=hm'.there;rw[e,na]at this;exact this rfl
  have hm1:K0 (T.set ka ⟨4,[inC y],c⟩) k ts':=hm'.of (b4.set_ne _ _ _ hne)
  generalize (T.set ka ⟨4,[inC y],c⟩)=T1 at ca l1 hm1
  rw[ca.all (n:=4) (by decide) rfl,oD,C6,oD,g9 (by omega) (by omega),hix,oD,lsE,List.getElem?_cons_zero,oD]
  refine(show r8 Try.prog E w0 J3 [inD y, .int .i64 (ext.getD (i+1) 0)] T1 _ from(a5h (harm y hmem)).use ?_)
  simp only[exD,List.getElem?_cons_zero,List.getElem?_cons_succ,oD,unN]
  cases hen:a2C y with
  |false=>
   rw[Bool.not_false,cdT]
   refine⟨n - 1,by omega,by trivial,by trivial,by trivial,by trivial,by trivial,by trivial,i+1,ts',by trivial,by omega,fun m=> ?_,hm1,l1⟩
   rw[a1S,hhd,hen,hks];simp
  |true=>
   rw[Bool.not_true,cdF,a0c,oD]
   have hll:=b1d (harm y hmem) (ext.getD (i+1) 0)
   refine c7W he hyl (by omega) hlt hm1 fun ts2 T2 hk2 hm2 hs2=> ?_
   refine⟨n - 1,by omega,by trivial,by trivial,by trivial,by trivial,by trivial,by trivial,i+1,ts2,by trivial,by omega,fun m=> ?_,hm2,fun j o hj=> ?_⟩
   ·rw[hk2,a1S,hhd,hen,hks,if_pos rfl]
    simp only[List.mem_append]
   ·rw[hs2 j (fun e=>by rw[e,hk0]at hj;cases hj)];exact l1 _ _ hj
 ·have:i=ys.length:=by omega
  subst this
  exact hend ts' T hks hm' hle'
theorem a2g{α:Type}[DecidableEq α]:∀ {l1 l2:List α},l1.Nodup→(∀a∈l1,a∈l2)→l1.length≤l2.length
 | [],_,_,_=>Nat.zero_le _
 |a::l1,l2,h,hs=>by
  rw[List.nodup_cons]at h
  have ha:=hs a List.mem_cons_self
  have h1:=List.length_erase_of_mem ha
  have h2:=List.length_pos_of_mem ha
  have:=a2g h.2 (l2:=l2.erase a) fun b hb=>(List.mem_erase_of_ne (fun e=>h.1 (by rw[←e];exact hb))).2 (hs b (List.mem_cons_of_mem _ hb))
  rw[List.length_cons]
  omega
theorem b8J{l hs:List Int}(hn:l.Nodup)(h:∀n,n∈l↔n∈hs):srt l=a2e hs:=by
 refine a0D ?_ (N7 hs).1 fun n=> ?_
 ·have h1:(srt l).Pairwise fun a b=>a≤b:=by
   have:=List.pairwise_mergeSort (le:=fun x y:Int=>decide (x≤y)) (fun a b c h1 h2=>by simp at*;omega) (fun a b=>by simp;omega) l
   exact this.imp fun h=>by simpa using h
  have h2:(srt l).Nodup:=(List.mergeSort_perm l _).nodup_iff.2 hn
  exact(h1.and h2).imp fun⟨a,b⟩=>by omega
 ·unfold srt
  rw[List.mem_mergeSort,h,(N7 hs).2]
theorem c3C{S0 S:b4}{av:List Nat}{d:D}{l:List Int}(h:Z1 S0 av d (iC l) 1 S)(h0:l≠[])(hl:l.length<2^60){Q:D→b4→Prop}(hQ:∀v k acs S',S0 k=none→k ∉ av→d= .raw k 0 l.length l.length false 1→S' k=some ⟨1,iC (srt l),acs⟩→(∀j,j≠k→S' j=S j)→Q v S'):r8 Try.prog E w0 I0 [d] S Q:=by
 rcases h with ⟨_,e⟩|⟨k,acs,hk,hav,rfl,hS⟩
 ·exact absurd e (fun e=>h0 (by cases l with|nil=>rfl|cons a l=>simp[iC,Z7]at e))
 ·refine b4I.fnD (zs:=l) hS rfl (by simp) (by rw[List.drop_zero,List.take_of_length_le (Nat.le_refl _),Z5]) (by rw[j3];omega) fun acs'=> ?_
  refine hQ _ k acs' _ hk hav (by rw[j3]) ?_ fun j hj=>b4.set_ne _ _ _ hj
  rw[b4.set_same,List.take_zero,List.nil_append,Nat.zero_add,List.drop_of_length_le (Nat.le_refl _),List.append_nil,Z5]
theorem c7I{x0:D}{ys:List In}{ext hs:List Int}{m:Nat}{Q:D→b4→Prop}{S0 S:b4}{ts:List (Int×Int×Nat)}{j:Nat}(hw:a4v S j m [] ts)(hj0:S0 j=none)(hle:S0.le S)(hkn:(ts.map (·.1)).Nodup)(hst:(ts.map (·.2.2)).Nodup)(hks:∀n,n∈ts.map (·.1)↔n∈hs)(hne:hs≠[])(hlen:ts.length<2^40)
  (hend:∀k acs S',S0 k=none→S' k=some ⟨1,iC (a2e hs),acs⟩→S0.le S'→b8 Try.prog E w0 (.loop W7) (d8 173 [0,5,14,16,94,95,96] [x0,iD ext, .raw k 0 (a2e hs).length (a2e hs).length false 1, .nilSlc,a1k ys, .int .i64 (ys.length:Int),(.int .i64 0)]) S' (W6 E w0 Q)):
  b8 Try.prog E w0 (.loop V4) (d8 173 [0,4,5,14,83] [x0,a1k ys,iD ext, .nilSlc, .ptr j 0]) S (W5 E w0 Q):=by
 refine b1p (I:=fun n y0 x4 x5 x14 x83 T=>x0=y0∧x4=a1k ys∧x5=iD ext∧x83= .ptr j 0∧∃dn:List (Int×Int×Nat),dn.length+n=ts.length∧(∀t∈dn,t∈ts)∧dn.Nodup∧a4v T j m dn ts∧Z1 S0 [j] x14 (iC (dn.map (·.1))) 1 T∧S0.le T) ?_ (n:=ts.length)
  ⟨rfl,rfl,rfl,rfl,[],by simp,by simp,by simp,hw,Z1.nil,hle⟩
 rintro n _ _ _ x14 _ T ⟨rfl,rfl,rfl,rfl,dn,hn,hsub,hdn,hw,hg,hle⟩
 unfold a3A
 refine hw.next hst hsub (fun t ht htn S' hw' hs'=> ?_) fun hall=> ?_
 ·simp only[exD,List.getElem?_cons_zero,List.getElem?_cons_succ,oD,cdT]
  refine hw'.entry ht ?_
  simp only[exD,List.getElem?_cons_zero,List.getElem?_cons_succ,oD]
  rw[show s4 1 (List.replicate 1 [D.int .i64 0]) [(0, .int .i64 t.1)]=some (iC [t.1]) from rfl]
  refine I8 rfl ?_
  have hle':S0.le S':=fun i o hi=>by rw[hs' i (fun e=>by rw[e,hj0]at hi;cases hi)];exact hle _ _ hi
  have hg':Z1 S0 [j] x14 (iC (dn.map (·.1))) 1 S':=hg.of fun i o hi e=>by rw[hs' i (by simpa using hi)];exact e
  have hdl:dn.length+1≤ts.length:=by
   have:(dn++[t]).Nodup:=by
    rw[List.nodup_append]
    exact⟨hdn,by simp,fun a ha b hb=>by simp at hb;subst hb;exact fun e=>htn (by rw[←e];exact ha)⟩
   have:=a2g this (l2:=ts) fun a ha=>by
    rcases List.mem_append.1 ha with ha|ha
    ·exact hsub a ha
    ·rw[List.mem_singleton.1 ha];exact ht
   simpa using this
  refine hg'.push hle' (fun i hi=>by rw[List.mem_singleton.1 hi];exact hw'.there) (bytes:=8) (news:=iC [t.1]) (by simp[rowsS,E0]) (by simp[iC,Z7]) (by rw[j3,j3,List.length_map];simp;omega) fun t' S2 hle2 he2 hg2=> ?_
  refine⟨n - 1,by omega,by trivial,by trivial,by trivial,by trivial,dn++[t],by simp;omega,fun a ha=> ?_, ?_,hw'.of (he2 j (by simp)), ?_,hle2⟩
  ·rcases List.mem_append.1 ha with ha|ha
   ·exact hsub a ha
   ·rw[List.mem_singleton.1 ha];exact ht
  ·rw[List.nodup_append]
   exact⟨hdn,by simp,fun a ha b hb=>by simp at hb;subst hb;exact fun e=>htn (by rw[←e];exact ha)⟩
  ·rw[List.map_append,J9];exact hg2
 ·simp only[exD,List.getElem?_cons_zero,List.getElem?_cons_succ,oD,cdF]
  have hkeys:∀q,q∈dn.map (·.1)↔q∈hs:=fun q=>by
   rw[←hks]
   constructor
   ·intro h
    obtain⟨t,ht,e⟩:=List.mem_map.1 h
    exact List.mem_map.2 ⟨t,hsub t ht,e⟩
   ·intro h
    obtain⟨t,ht,e⟩:=List.mem_map.1 h
    exact List.mem_map.2 ⟨t,hall t ht,e⟩
  have hnd:(dn.map (·.1)).Nodup:=by
   rw[List.Nodup,List.pairwise_map]
   exact hdn.imp_of_mem fun{a b} ha hb hab e=>hab (a6O hkn (hsub a ha) (hsub b hb) e)
  have h0:dn.map (·.1)≠[]:=fun e=>by
   cases hs with
   |nil=>exact hne rfl
   |cons a hs=>have:=(hkeys a).2 List.mem_cons_self;rw[e]at this;cases this
  have hsr:=b8J hnd hkeys
  have hl:=a4P (dn.map (·.1))
  rw[hsr]at hl
  refine c3C hg h0 (by simp;omega) fun v k acs S' hk hav hd hS' hsame=> ?_
  rw[hd,b7C,oD, ←hl]
  refine hend k acs S' hk (by rw[hS',hsr]) fun i o hi=> ?_
  rw[hsame i (fun e=>by rw[e,hk]at hi;cases hi)]
  exact hle _ _ hi
end
end
section
set_option linter.unusedSectionVars false
structure G8 where
 at':Int
 end':Int
 next:List Int
 deriving DecidableEq
def C3(b:G8):List D:=[.int .i64 b.at', .int .i64 b.end',iD b.next]
def p6(l:List G8):D:= .lst (l.map C3) 3
def a1J(l:List G8)(e:Int)(n:List Int):List G8:=match l.getLast? with
 |some b=>l.dropLast++[⟨b.at',e,n⟩]
 |none=>[]
def b9u(ys:List In)(ext:List Int)(i:Nat)(st:List Int×List G8):List Int×List G8:=match ys[i]? with
 |some y=>if st.1.head? =some (ext.getD i 0) then(st.1.tail,st.2++[⟨ext.getD i 0,ext.getD (i+1) 0,C4 y (ext.getD (i+1) 0)⟩])
  else(st.1,a1J st.2 (ext.getD (i+1) 0) (C4 y (ext.getD (i+1) 0)))
 |none=>st
def B0(ys:List In)(ext tops:List Int):Nat→List Int×List G8
 |0=>(tops,[])
 |n+1=>b9u ys ext n (B0 ys ext tops n)
theorem a8V(l:List G8)(b:G8)(e:Int)(n:List Int):a1J (l++[b]) e n=l++[⟨b.at',e,n⟩]:=by
 unfold a1J
 simp
theorem b4P{ys:List In}{ext tops:List Int}(h0:tops.head? =some (ext.getD 0 0)):∀ {n:Nat},0<n→n≤ys.length→(B0 ys ext tops n).2≠[]
 |0,h,_=>by omega
 |n+1,_,hn=>by
  have hlt:n<ys.length:=hn
  obtain⟨y,hy⟩:∃y,ys[n]? =some y:=⟨_,List.getElem?_eq_getElem hlt⟩
  simp only[B0,b9u,hy]
  by_cases hc:(B0 ys ext tops n).1.head? =some (ext.getD n 0)
  ·rw[if_pos hc];simp
  ·rw[if_neg hc]
   cases n with
   |zero=>exact absurd h0 hc
   |succ n=>
    have:=b4P (ys:=ys) h0 (n:=n+1) (by omega) (by omega)
    obtain⟨l,b,e⟩:∃l b,(B0 ys ext tops (n+1)).2=l++[b]:=⟨_,_,(List.dropLast_concat_getLast this).symm⟩
    show a1J (B0 ys ext tops (n+1)).2 _ _≠[]
    rw[e,a8V]
    simp
section
variable{E:d6}{w0:i5}
theorem c1t{S0 S:b4}{t:D}{rows:List (List D)}{row:List D}(hg:Z1 S0 [] t (rows++[row]) 3 S)(hle:S0.le S):∃p,j5 3 t (.int .i64 (rows.length:Int))=some p∧a3O p=some p∧
  ∀(i:Nat) (v:D),i<row.length→s6 v=some [v]→∃q,t8 i p=some q∧∀K:D→b4→Prop,(∀S',Z1 S0 [] t (rows++[row.set i v]) 3 S'→S0.le S'→K a8 S')→j4 S 1 q v K:=by
 rcases hg with ⟨_,e⟩|⟨k,acs,h0,h1,rfl,h3⟩
 ·simp at e
 ·refine⟨_,c3K (by simp),ndR ..,fun i v hi hv=>⟨_,ofR ..,fun K hK=> ?_⟩⟩
  refine stR h3 (rows:=rows++[row]) (row:=row) (by simp) hv ⟨rfl,by decide,by show 0+i+1≤row.length;omega⟩ fun acs'=> ?_
  have e:(rows++[row]).set (0+rows.length) (o5 row (0+i) [v])=rows++[row.set i v]:=by
   rw[Nat.zero_add,Nat.zero_add,List.set_append_right _ _ (Nat.le_refl _),Nat.sub_self];rfl
  rw[e]
  refine hK _ (.inr ⟨k,acs',h0,h1,by simp,b4.set_same _ _ _⟩) (b4.le_set hle h0)
theorem c5s{x0 x14 x16 x94 x95:D}{ys:List In}{ext:List Int}{i:Nat}(hi:i<ys.length)(hyl:ys.length<2^40)(he:ext.length=ys.length+1){N3:D→D→D→D→D→D→D→b4→Prop}{Q:D→b4→Prop}{S0 S:b4}{rows:List (List D)}{a:D}{e0 n0:D}{to:List Int}(hrl:rows.length<2^40)
  (hg:Z1 S0 [] x16 (rows++[[a,e0,n0]]) 3 S) (hle:S0.le S)
  (hN:∀S',Z1 S0 [] x16 (rows++[[a, .int .i64 (ext.getD (i+1) 0),iD to]]) 3 S'→S0.le S'→N3 x0 (iD ext) x14 x16 x94 x95 (.int .i64 ((i:Int)+1)) S'):
  P6 E w0 N3 Q x0 (iD ext) x14 x16 (.int .i64 (i:Int)) (iD to) x94 x95 (.int .i64 (i:Int)) S:=by
 refine a9K ?_
 unfold a5H
 have hx:ext[i+1]? =some (ext.getD (i+1) 0):=by rw[List.getD_eq_getElem?_getD,List.getElem?_eq_getElem (by omega)];rfl
 have hix:j5 1 (iD ext) (.int .i64 ((i:Int)+1))=some (.elt [.int .i64 (ext.getD (i+1) 0)] 0):=a3q hx
 have hsub:IntKind.i64.wrap (((rows++[[a,e0,n0]]).length:Int) - 1)=(rows.length:Int):=by
  rw[List.length_append,List.length_singleton,g9 (by omega) (by omega)]
  omega
 rw[hg.len,oD,a3V,oD,hsub]
 obtain⟨p,p1,p2,p3⟩:=c1t hg hle
 rw[p1,oD,C6,oD,g9 (by omega) (by omega),hix,oD,lsE,List.getElem?_cons_zero,oD,p2,oD]
 obtain⟨q,q1,q2⟩:=p3 1 (.int .i64 (ext.getD (i+1) 0)) (by simp) rfl
 rw[q1,oD]
 refine q2 _ fun S1 hg1 hle1=> ?_
 rw[oD]
 obtain⟨p',p1',_,p3'⟩:=c1t hg1 hle1
 rw[p1]at p1'
 cases p1'
 obtain⟨q',q1',q2'⟩:=p3' 2 (iD to) (by simp) rfl
 rw[q1',oD]
 refine q2' _ fun S2 hg2 hle2=> ?_
 rw[oD]
 exact hN S2 hg2 hle2
end
end
end Go.Proofs.Ytdkidgkiplcggaa.d
end
section
namespace Go.Am
def prs(ts:List (Int×Int×Nat)):List (Int×Int):=ts.map fun t=>(t.1,t.2.1)
theorem K0.lookV{S:b4}{k:Nat}{ts:List (Int×Int×Nat)}(h:K0 S k ts)(q:Int)(ok:Bool):
  (∃v:Int,(q,v)∈prs ts∧a6g S 0 (.int .i64 0) ok (.mp k) (.int .i64 q)=some (if ok then .tup [.int .i64 v, .bool true]else .int .i64 v))∨
  ((∀v,(q,v) ∉ prs ts)∧a6g S 0 (.int .i64 0) ok (.mp k) (.int .i64 q)=some (if ok then .tup [.int .i64 0, .bool false]else .int .i64 0)):=by
 obtain⟨acs,hS⟩:=h.has
 simp only[a6g,b0e,b9D,hS,a6C,beq_self_eq_true,if_true]
 rcases a2f q ts 0 with ⟨h1,h2⟩|⟨j,t,h1,h2,h3⟩
 ·refine .inr ⟨fun v hv=>h1 ?_,by rw[h2];rfl⟩
  obtain⟨t,ht,e⟩:=List.mem_map.1 hv
  simp only[Prod.mk.injEq]at e
  exact List.mem_map.2 ⟨t,ht,e.1⟩
 ·refine .inl ⟨t.2.1,List.mem_map.2 ⟨t,List.mem_of_getElem? h1,by rw[h2]⟩,by rw[h3];rfl⟩
theorem c4C{ts:List (Int×Int×Nat)}(h:(ts.map (·.1)).Nodup){q v v':Int}(h1:(q,v)∈prs ts)(h2:(q,v')∈prs ts):v=v':=by
 obtain⟨t,ht,e⟩:=List.mem_map.1 h1
 obtain⟨t',ht',e'⟩:=List.mem_map.1 h2
 simp only[Prod.mk.injEq]at e e'
 have:=a6O (f:=fun t:Int×Int×Nat=>t.1) h ht ht' (by rw[e.1,e'.1])
 subst this
 rw[←e.2, ←e'.2]
theorem K0.putV{S:b4}{k:Nat}{ts:List (Int×Int×Nat)}(h:K0 S k ts){q v:Int}{K:D→b4→Prop}
  (hK:∀ts' S',(∀n x,(n,x)∈prs ts'↔(n=q∧x=v)∨(n≠q∧(n,x)∈prs ts))→K0 S' k ts'→(∀j,j≠k→S' j=S j)→K a8 S'):b2l S 0 (.mp k) (.int .i64 q) (.int .i64 v) K:=by
 obtain⟨acs,hS⟩:=h.has
 simp only[b2l,b0e,hS,a6C,beq_self_eq_true,if_true]
 rcases a2f q ts 0 with ⟨h1,h2⟩|⟨j,t,h1,h2,h3⟩
 ·rw[h2]
  intro n acs' hn
  refine hK (ts++[(q,v,n)]) _ (fun m x=> ?_) ⟨⟨acs',by rw[b4.set_same,List.map_append];rfl⟩, ?_, ?_⟩ fun j hj=>b4.set_ne _ _ _ hj
  ·unfold prs
   rw[List.map_append,List.mem_append]
   simp only[List.map_cons,List.map_nil,List.mem_singleton,Prod.mk.injEq]
   constructor
   ·rintro(h|h)
    ·refine .inr ⟨fun e=>h1 ?_,h⟩
     obtain⟨t,ht,e'⟩:=List.mem_map.1 h
     simp only[Prod.mk.injEq]at e'
     exact List.mem_map.2 ⟨t,ht,by rw[e'.1,e]⟩
    ·exact .inl h
   ·rintro(h|h)
    ·exact .inr h
    ·exact .inl h.2
  ·rw[List.map_append,List.nodup_append]
   exact⟨h.keys,by simp,fun a ha b hb=>by simp at hb;subst hb;exact fun e=>h1 (by rw[←e];exact ha)⟩
  ·rw[List.map_append,List.nodup_append]
   refine⟨h.stamps,by simp,fun a ha b hb=> ?_⟩
   simp at hb
   subst hb
   rintro rfl
   obtain⟨t,ht,e⟩:=List.mem_map.1 ha
   exact hn (b2G t) (List.mem_map.2 ⟨t,ht,rfl⟩) (by simp[b2G,e])
 ·rw[h3]
  intro acs'
  have hj:j<ts.length:=(List.getElem?_eq_some_iff.1 h1).1
  have e0:∀ {α:Type} (f:Int×Int×Nat→α),f (q,v,t.2.2)=f t→(ts.set j (q,v,t.2.2)).map f=ts.map f:=fun f hf=>by
   rw[List.map_set,hf]
   apply List.ext_getElem?
   intro i
   rw[List.getElem?_set]
   split
   ·rename_i e
    subst e
    rw[List.length_map,if_pos hj,List.getElem?_map,h1];rfl
   ·rfl
  have k1:=e0 (·.1) h2.symm
  have k2:=e0 (·.2.2) rfl
  have hkn:((ts.set j (q,v,t.2.2)).map (·.1)).Nodup:=by rw[k1];exact h.keys
  refine hK (ts.set j (q,v,t.2.2)) _ (fun n x=> ?_) ⟨⟨acs', ?_⟩,hkn,by rw[k2];exact h.stamps⟩ fun j hj=>b4.set_ne _ _ _ hj
  ·have hq:(q,v)∈prs (ts.set j (q,v,t.2.2)):=List.mem_map.2 ⟨_,List.mem_set hj _,rfl⟩
   constructor
   ·intro hm
    by_cases hn:n=q
    ·subst hn;exact .inl ⟨rfl,c4C hkn hm hq⟩
    ·refine .inr ⟨hn, ?_⟩
     obtain⟨t',ht',e⟩:=List.mem_map.1 hm
     rcases List.mem_or_eq_of_mem_set ht' with ht'|rfl
     ·exact List.mem_map.2 ⟨t',ht',e⟩
     ·simp only[Prod.mk.injEq]at e;exact absurd e.1.symm hn
   ·rintro(⟨rfl,rfl⟩|⟨hn,hm⟩)
    ·exact hq
    ·obtain⟨t',ht',e⟩:=List.mem_map.1 hm
     simp only[Prod.mk.injEq]at e
     obtain⟨i,hi⟩:=List.getElem?_of_mem ht'
     have hij:j≠i:=fun e'=>by
      subst e'
      rw[h1]at hi
      cases hi
      exact hn (by rw[←e.1,h2])
     refine List.mem_map.2 ⟨t',List.mem_of_getElem? (i:=i) ?_,by rw[e.1,e.2]⟩
     rw[List.getElem?_set,if_neg hij];exact hi
  ·rw[b4.set_same,List.map_set,Nat.zero_add];rfl
end Go.Am
end
section
open Go.Proofs Go Go.Am Go.Op
namespace Go.Proofs.Ytdkidgkiplcggaa.d
section
set_option linter.unusedSectionVars false
def r7(l:List G8)(n:Int):Option Nat:=l.findIdx? fun b=>decide (b.at'=n)
theorem a1V(b:G8)(l:List G8)(n:Int):r7 (b::l) n=if b.at'=n then some 0 else(r7 l n).map (· +1):=by
 unfold r7
 rw[List.findIdx?_cons]
 by_cases h:b.at'=n
 ·rw[if_pos h,decide_eq_true h];rfl
 ·rw[if_neg h,decide_eq_false h];rfl
theorem E7{l:List G8}{i:Nat}{b:G8}(h:l[i]? =some b):j5 3 (p6 l) (.int .i64 (i:Int))=some (.elt (C3 b) 0):=b5t (by rw[List.getElem?_map,h];rfl)
theorem J5(l:List G8):m6 (p6 l)=some (.int .i64 l.length):=by simp[p6]
def AtM(l:List G8)(ts:List (Int×Int×Nat))(i:Nat):Prop:=∀n x,(n,x)∈prs ts↔ ∃j,r7 (l.drop i) n=some j∧x=((i+j:Nat):Int)
section
variable{E:d6}{w0:i5}
theorem c7A{l:List G8}(hl:l.length<2^40){k:Nat}{Q:D→b4→Prop}{S0 S:b4}(hm:K0 S k [])(hk0:S0 k=none)(hle:S0.le S)
  (hend:∀ts S',K0 S' k ts→AtM l ts 0→S0.le S'→b2X S' fun v11 S12=>b5 (m6 (p6 l)) fun v55=>b5 (d4 .gtr v55 (.int .i64 0)) fun v56=>g8 v56
   (I4 S12 1 (s4 1 (List.replicate 1 [(.int .i64 0)]) [(0,(.int .i64 0))]) 1 fun v57 S58=>D5 E w0 Q (p6 l) (.mp k) v11 v57 S58)
   (D5 E w0 Q (p6 l) (.mp k) v11 .nilSlc S12)):
  b8 Try.prog E w0 (.loop R5) (d8 79 [0,3,4] [p6 l, .mp k, .int .i64 ((l.length:Int) - 1)]) S (U1 E w0 Q):=by
 refine a7z (I:=fun n x0 x3 x4 T=>x0=p6 l∧x3= .mp k∧x4= .int .i64 ((n:Int) - 1)∧n≤l.length∧∃ts,K0 T k ts∧AtM l ts n∧S0.le T) ?_ (n:=l.length)
  ⟨rfl,rfl,rfl,Nat.le_refl _,[],hm,fun n x=>by simp[prs,r7],hle⟩
 rintro n _ _ _ T ⟨rfl,rfl,rfl,hn,ts,hm,ha,hle⟩
 unfold a0J
 rw[c4b,oD,cdI]
 refine⟨fun hge=> ?_,fun hlt=> ?_⟩
 ·obtain⟨i,rfl⟩:∃i,n=i+1:=⟨n - 1,by omega⟩
  have e1:((i+1:Nat):Int) - 1=(i:Int):=by omega
  rw[e1]
  have hb:l[i]? =some l[i]:=List.getElem?_eq_getElem (by omega)
  have hd:l.drop i=l[i]::l.drop (i+1):=List.drop_eq_getElem_cons (by omega)
  generalize l[i]=b at hb hd
  rw[E7 hb,oD,ofE,oD,lsE,show(C3 b)[0+0]? =some (.int .i64 b.at') from rfl,oD]
  refine hm.putV fun ts' S' hp hm' hs'=> ?_
  rw[a3V,oD,g9 (by omega) (by omega)]
  refine⟨i,by omega,rfl,rfl,rfl,by omega,ts',hm',fun q x=> ?_,fun j o hj=>by rw[hs' j (fun e=>by rw[e,hk0]at hj;cases hj)];exact hle _ _ hj⟩
  rw[hp,hd,a1V]
  by_cases hq:b.at'=q
  ·rw[if_pos hq]
   constructor
   ·rintro(⟨_,rfl⟩|⟨h,_⟩)
    ·exact⟨0,rfl,rfl⟩
    ·exact absurd hq.symm h
   ·rintro⟨j,hj,rfl⟩
    cases hj
    exact .inl ⟨hq.symm,rfl⟩
  ·rw[if_neg hq]
   constructor
   ·rintro(⟨h,_⟩|⟨_,h⟩)
    ·exact absurd h.symm hq
    ·obtain⟨j,hj,rfl⟩:=(ha q x).1 h
     exact⟨j+1,by rw[hj];rfl,by omega⟩
   ·rintro⟨j,hj,rfl⟩
    refine .inr ⟨fun h=>hq h.symm,(ha q _).2 ?_⟩
    cases hf:r7 (l.drop (i+1)) q with
    |none=>rw[hf]at hj;cases hj
    |some j'=>rw[hf]at hj;cases hj;exact⟨j',rfl,by show((i+(j'+1):Nat):Int)=((i+1+j':Nat):Int);omega⟩
 ·have:n=0:=by omega
  subst this
  exact hend ts T hm ha hle
end
end
section
set_option linter.unusedSectionVars false
theorem c5T{S0 T:b4}{av:List Nat}{d:D}{l:List Int}(h:Sl S0 av d l T){n:Nat}(hn:n≤l.length):∃d',N6 1 d none (some (.int .i64 (n:Int))) none=some d'∧ob d'=ob d∧Sl S0 av d' (l.take n) T:=by
 rcases h with ⟨rfl,rfl⟩|⟨k,cap,ex,rows,acs,h0,h1,rfl,h2,h3,h4⟩
 ·have:n=0:=by simpa using hn
  subst this
  exact⟨.nilSlc,rfl,rfl, .inl ⟨rfl,rfl⟩⟩
 ·have hnl:(l.take n).length=n:=by rw[List.length_take];omega
  refine⟨.raw k (0+0) (n - 0) (cap - 0) (ex||false) 1, ?_,rfl, .inr ⟨k,cap,ex||false,rows,acs,h0,h1,by rw[hnl];rfl,h2, ?_,by rw[hnl];omega⟩⟩
  ·simp only[N6,D8,b5r,a5l,b0Q,if_true,Option.bind_some,c4r (show n≤cap by omega),Option.map_some,Option.isSome_none]
  ·rw[hnl]
   have:=congrArg (List.take n) h3
   rw[List.take_take,Nat.min_eq_left hn]at this
   rw[this]
   simp[iC,Z7,List.map_take]
def U6(l:List G8)(ns:List Int):List Int:=(ns.filterMap (r7 l)).map fun i:Nat=>(i:Int)
theorem b3V(l:List G8)(ns:List Int):(U6 l ns).length≤ns.length:=by
 unfold U6
 rw[List.length_map]
 exact List.length_filterMap_le _ _
section
variable{E:d6}{w0:i5}
theorem c7E{l:List G8}{k k2:Nat}{ts:List (Int×Int×Nat)}(ha:AtM l ts 0){next todo:List Int}(hnl:next.length<2^38)(htl:todo.length<2^39){N1:D→D→D→D→b4→Prop}{Q:D→b4→Prop}{S0 S:b4}(hm:K0 S k ts)(hk2:S k2≠none){x6:D}(ht:Sl S0 [k,k2] x6 todo S)(hle:S0.le S)
  (hN:∀d' S',Sl S0 [k,k2] d' (todo++U6 l next) S'→S0.le S'→S' k=S k→S' k2=S k2→N1 (p6 l) (.mp k) (.mp k2) d' S'):
  b8 Try.prog E w0 (.loop R9) (d8 79 [0,3,5,6,58,59,60] [p6 l, .mp k, .mp k2,x6,iD next, .int .i64 (next.length:Int),(.int .i64 0)]) S (R6 E w0 N1 Q):=by
 refine a7y (I:=fun n x0 x3 x5 x6 x58 x59 x60 T=>x0=p6 l∧x3= .mp k∧x5= .mp k2∧x58=iD next∧x59= .int .i64 (next.length:Int)∧∃j:Nat,x60= .int .i64 (j:Int)∧j+n=next.length∧Sl S0 [k,k2] x6 (todo++U6 l (next.take j)) T∧S0.le T∧T k=S k∧T k2=S k2) ?_ (n:=next.length)
  ⟨rfl,rfl,rfl,rfl,rfl,0,rfl,by omega,by simpa [U6]using ht,hle,rfl,rfl⟩
 rintro n _ _ _ x6 _ _ _ T ⟨rfl,rfl,rfl,rfl,rfl,j,rfl,hj,hs,hle,e1,e2⟩
 unfold a0B
 rw[V6,oD,cdI]
 refine⟨fun hlt=> ?_,fun hge=> ?_⟩
 ·have hlt:j<next.length:=by omega
  have hq:next[j]? =some next[j]:=List.getElem?_eq_getElem hlt
  generalize next[j]=q at hq
  have hm':K0 T k ts:=hm.of e1
  rw[a3q hq,oD,lsE,List.getElem?_cons_zero,oD]
  rcases hm'.lookV q true with ⟨v,hv,h1⟩|⟨hv,h1⟩
  ·obtain⟨i,hi,rfl⟩:=(ha q v).1 hv
   rw[List.drop_zero]at hi
   have hn:U6 l (next.take (j+1))=U6 l (next.take j)++[((0+i:Nat):Int)]:=by
    unfold U6
    rw[List.take_add_one,hq,List.filterMap_append,List.map_append]
    simp[hi]
   rw[h1]
   simp only[if_true,exD,List.getElem?_cons_zero,List.getElem?_cons_succ,oD,cdT]
   rw[show s4 1 (List.replicate 1 [D.int .i64 0]) [(0, .int .i64 ((0+i:Nat):Int))]=some (iC [((0+i:Nat):Int)]) from rfl]
   refine I8 rfl ?_
   have hlen:=b3V l (next.take j)
   rw[List.length_take]at hlen
   refine hs.push hle (fun x hx=> ?_) (news:=[((0+i:Nat):Int)]) (by simp[rowsS,E0]) (by rw[List.length_append,List.length_singleton];omega) fun d' T' hle' hav hs'=> ?_
   ·rcases List.mem_cons.1 hx with rfl|hx
    ·rw[e1];exact hm.there
    ·rw[List.mem_singleton.1 hx,e2];exact hk2
   ·rw[C6,oD,g9 (by omega) (by omega)]
    refine⟨n - 1,by omega,by trivial,by trivial,by trivial,by trivial,by trivial,j+1,by trivial,by omega, ?_,hle',by rw[hav k (by simp),e1],by rw[hav k2 (by simp),e2]⟩
    rw[hn, ←List.append_assoc];exact hs'
  ·have hn:U6 l (next.take (j+1))=U6 l (next.take j):=by
    have:r7 l q=none:=by
     cases hf:r7 l q with
     |none=>rfl
     |some i=>exact absurd ((ha q _).2 ⟨i,by rw[List.drop_zero];exact hf,rfl⟩) (hv _)
    unfold U6
    rw[List.take_add_one,hq,List.filterMap_append,List.map_append]
    simp[this]
   rw[h1]
   simp only[if_true,exD,List.getElem?_cons_zero,List.getElem?_cons_succ,oD,cdF,C6]
   rw[g9 (by omega) (by omega)]
   exact⟨n - 1,by omega,by trivial,by trivial,by trivial,by trivial,by trivial,j+1,by trivial,by omega,by rw[hn];exact hs,hle,e1,e2⟩
 ·rw[List.take_of_length_le (by omega)]at hs
  exact hN _ T hs hle e1 e2
end
end
end Go.Proofs.Ytdkidgkiplcggaa.d
end
