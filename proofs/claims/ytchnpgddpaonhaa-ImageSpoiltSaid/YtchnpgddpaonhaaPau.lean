/-
  ImageSpoiltSaid: part Pau of its proof.
-/
import Derived.Test.YtchnpgddpaonhaaPat
import Derived.Test.YtchnpgddpaonhaaRows
import Derived.Test.YtchnpgddpaonhaaPaq
import Derived.KernelRfl
set_option linter.unusedVariables false
set_option linter.unusedSimpArgs false
set_option maxRecDepth 100000
section
open Go.Proofs Go Go.Am Go.Op
namespace Go.Proofs.Ytchnpgddpaonhaa.d
section
def a2w(y:Int×Int):List D:=[.int .i64 y.1, .int .i64 y.2]
def b6V(arms:List (Int×Int)):D:= .lst (arms.map a2w) 2
def inC(y:In):List D:=[.int .u8 y.op, .int .i64 y.a, .int .i64 y.b,b6V y.arms]
def inD(y:In):D:= .agg (inC y)
def b9G(y:In):List Int:=if isS y=true then b3d y else[]
section
variable{E:m6}{w0:o3}{S0 S:b7}{t:D}{bs ms:List Int}
@[simp] theorem b5F(arms:List (Int×Int)):r6 (b6V arms)=some (.int .i64 arms.length):=by simp[b6V]
theorem d2A{arms:List (Int×Int)}{i:Nat}{y:Int×Int}(h:arms[i]? =some y):A7 2 (b6V arms) (.int .i64 (i:Int))=some (.elt (a2w y) 0):=b5S (by rw[List.getElem?_map,h];rfl)
theorem c5C(h:b6j S0 t bs S){y:In}(ho:y.Ok)(h49:y.op=49)(hl:bs.length<2^30):o4 Try.prog E w0 a9K [t,inD y] S fun v S'=>
  ∃t' bs',v= .tup [t', .bool (decide (y.arms.length≤65535)&&y.arms.all (c3a (IntKind.u8.wrap y.a))&&R5.may y.b)]∧b6j S0 t' bs' S'∧(y.arms.length≤65535→bs'=bs++(B9 y.arms.length 2++a3t y.arms++B9 y.b 4)):=by
 refine c1R ?_
 unfold c0d
 rw[inD,clA,oD]
 intro k0 a0 n0
 refine F9.use ?_
 rw[a4k (b3u _ _),oD]
 intro k5 a5 n5
 refine stP (ds:=[.int .i64 4,a0u 0 4294967295]) (b7.set_same _ _ _) (clA _) ⟨rfl,by decide,by simp⟩ fun a5=> ?_
 rw[b7.set_set]
 obtain⟨ne5,n5'⟩:=b7.fresh n5
 have l0:∀ {S':b7},(S.set k0 ⟨(inC y).length,[inC y],a0⟩).le S'→∀i,c9 S' (.ptr k0 i)=(inC y)[i]? :=fun h i=>ldP (h _ _ (b7.set_same _ _ _))
 rw[I3,oD,l0 (b7.le_new n5),show(inC y)[0+1]? =some (.int .i64 y.a) from rfl,oD,cvI,oD]
 refine a1o.use ?_
 rw[a4k (c1s _),oD]
 intro k6 a6 n6
 refine stP (ds:=[.int .i64 8,a6G (IntKind.u8.wrap y.a)]) (b7.set_same _ _ _) (clA _) ⟨rfl,by decide,by simp⟩ fun a6=> ?_
 rw[b7.set_set]
 have g0:=h.under (o:=⟨(inC y).length,[inC y],a0⟩) n0
 have g5:=g0.under (o:=⟨[D.int .i64 0, .nilFn].length,[o8 [D.int .i64 0, .nilFn] 0 [.int .i64 4,a0u 0 4294967295]],a5⟩) n5
 have g6:=g5.under (o:=⟨[D.int .i64 0, .nilFn].length,[o8 [D.int .i64 0, .nilFn] 0 [.int .i64 8,a6G (IntKind.u8.wrap y.a)]],a6⟩) n6
 have z0:S0 k0=none:=by
  cases e:S0 k0 with
  |none=>rfl
  |some o=>rw[h.le _ _ e]at n0;cases n0
 obtain⟨B,hB⟩:∃B,B=((S0.set k0 ⟨(inC y).length,[inC y],a0⟩).set k5 ⟨[D.int .i64 0, .nilFn].length,[o8 [D.int .i64 0, .nilFn] 0 [.int .i64 4,a0u 0 4294967295]],a5⟩).set k6 ⟨[D.int .i64 0, .nilFn].length,[o8 [D.int .i64 0, .nilFn] 0 [.int .i64 8,a6G (IntKind.u8.wrap y.a)]],a6⟩:=⟨_,rfl⟩
 rw[←hB]at g6
 generalize (((S.set k0 _).set k5 _).set k6 _)=S1 at g6 ⊢
 obtain⟨ne6,n6'⟩:=b7.fresh n6
 obtain⟨ne6',n6''⟩:=b7.fresh n6'
 have b0:B k0=some ⟨4,[inC y],a0⟩:=by rw[hB,b7.set_ne _ _ _ (Ne.symm ne6'),b7.set_ne _ _ _ (Ne.symm ne5)];exact b7.set_same _ _ _
 have b5:B k5=some ⟨2,[[.int .i64 4,a0u 0 4294967295]],a5⟩:=by rw[hB,b7.set_ne _ _ _ (Ne.symm ne6)];exact b7.set_same _ _ _
 have b6:B k6=some ⟨2,[[.int .i64 8,a6G (IntKind.u8.wrap y.a)]],a6⟩:=by rw[hB];exact b7.set_same _ _ _
 have z5:S0 k5=none:=by
  cases e:S0 k5 with
  |none=>rfl
  |some o=>rw[h.le _ _ e]at n5';cases n5'
 have z6:S0 k6=none:=by
  cases e:S0 k6 with
  |none=>rfl
  |some o=>rw[h.le _ _ e]at n6'';cases n6''
 have hle:S0.le B:=by rw[hB];exact b7.le_set (b7.le_set (b7.le_new z0) z5) z6
 clear hB n0 n5 n5' n6 n6' n6'' g0 g5 l0
 have l0:∀ {S':b7},B.le S'→∀i,c9 S' (.ptr k0 i)=(inC y)[i]? :=fun h i=>ldP (h _ _ b0)
 have l5:∀ {S':b7},B.le S'→j0 S' 2 (.ptr k5 0)=some (.agg [.int .i64 4,a0u 0 4294967295]):=fun h=>bx (h _ _ b5)
 have l6:∀ {S':b7},B.le S'→j0 S' 2 (.ptr k6 0)=some (.agg [.int .i64 8,a6G (IntKind.u8.wrap y.a)]):=fun h=>bx (h _ _ b6)
 have f5:c1w [.int .i64 4,a0u 0 4294967295] R5:=⟨_,rfl, .bet _ _⟩
 have f6:c1w [.int .i64 8,a6G (IntKind.u8.wrap y.a)] (vF (IntKind.u8.wrap y.a)):=⟨_,rfl, .fit _⟩
 have hsh:=ho.short
 simp only[I3,oD,l0 g6.le,show(inC y)[0+3]? =some (b6V y.arms) from rfl,b5F,a3z]
 rw[M6]
 refine⟨fun hbig=> ?_,fun hsm=> ?_⟩
 ·have c:decide (y.arms.length≤65535)=false:=decide_eq_false (by omega)
  refine d9.less (b7.le_trans hle g6.le) (d9.here ⟨.nilSlc,[], ?_, .inl ⟨rfl,rfl,rfl⟩,fun h=>by omega⟩)
  rw[c,Bool.false_and,Bool.false_and]
 have hsm:y.arms.length≤65535:=by omega
 rw[cvI,oD,b5A (by omega)]
 refine(a3P (s:=2) (by decide) (by decide)).use ?_
 refine(b3X g6 (by rw[s8];omega)).use fun t1 S2 g7=> ?_
 simp only[I3,oD,l0 g7.le,show(inC y)[0+3]? =some (b6V y.arms) from rfl,b5F]
 refine b8H (I:=fun n x0 x3 x6 x7 x8 x33 x34 x35 S=>∃(B':b7) (j:Nat),B.le B'∧j+n=y.arms.length∧b6j B' x0 (bs++B9 y.arms.length 2++a3t (y.arms.take j)) S∧
   x3= .ptr k0 0∧x6= .ptr k5 0∧x7= .ptr k6 0∧x8= .bool ((y.arms.take j).all (c3a (IntKind.u8.wrap y.a)))∧x33=b6V y.arms∧x34= .int .i64 (y.arms.length:Int)∧x35= .int .i64 (j:Int)) ?_ (n:=y.arms.length)
  ⟨B,0,b7.le_refl _,by omega,by simpa [a3t]using g7,rfl,rfl,rfl,rfl,rfl,rfl,rfl⟩
 rintro n x0 _ _ _ _ _ _ _ S3 ⟨B',j,hB',hj,g8,rfl,rfl,rfl,rfl,rfl,rfl,rfl⟩
 unfold a9i
 have hle8:=b7.le_trans hB' g8.le
 have hbl:(bs++B9 y.arms.length 2++a3t (y.arms.take j)).length<2^40:=by
  simp only[List.length_append,s8,a2B,List.length_take]
  omega
 rw[K3,oD,M6]
 refine⟨fun hlt=> ?_,fun hge=> ?_⟩
 ·have hlt:j<y.arms.length:=by omega
  obtain⟨z,hz⟩:∃z,z=y.arms[j]:=⟨_,rfl⟩
  have hjz:y.arms[j]? =some z:=by rw[List.getElem?_eq_getElem hlt,hz]
  obtain⟨hz1,hz2⟩:=ho.arms z (by rw[hz];exact List.getElem_mem _)
  rw[d2A hjz,oD,laE,if_pos (by simp[a2w]),oD]
  intro k a nk
  refine stP (ds:=a2w z) (b7.set_same _ _ _) (clA _) ⟨rfl,by decide,by simp[a2w]⟩ fun a=> ?_
  rw[b7.set_set]
  have hk:B.le (S3.set k ⟨[D.int .i64 0, .int .i64 0].length,[o8 [D.int .i64 0, .int .i64 0] 0 (a2w z)],a⟩):=b7.le_trans hle8 (b7.le_new nk)
  have g9:=g8.under (o:=⟨[D.int .i64 0, .int .i64 0].length,[o8 [D.int .i64 0, .int .i64 0] 0 (a2w z)],a⟩) nk
  have zk:B' k=none:=by
   cases e:B' k with
   |none=>rfl
   |some o=>rw[g8.le _ _ e]at nk;cases nk
  have lk:∀ {S':b7},(B'.set k ⟨[D.int .i64 0, .int .i64 0].length,[o8 [D.int .i64 0, .int .i64 0] 0 (a2w z)],a⟩).le S'→∀i,c9 S' (.ptr k i)=(a2w z)[i]? :=fun h i=>by
   rw[ldP (h _ _ (b7.set_same _ _ _))];rfl
  have hB9:B.le (B'.set k ⟨[D.int .i64 0, .int .i64 0].length,[o8 [D.int .i64 0, .int .i64 0] 0 (a2w z)],a⟩):=b7.le_trans hB' (b7.le_new zk)
  rw[l6 hk,oD,I3,oD,lk g9.le,show(a2w z)[0+0]? =some (.int .i64 z.1) from rfl,oD]
  refine(a3U g9 f6 hz1 (show 1≤8 by decide) (show 8≤8 by decide) hbl).use ?_
  rintro v S4 ⟨t4,rfl,g10⟩
  simp only[exD,List.getElem?_cons_zero,List.getElem?_cons_succ,oD]
  rw[l5 (b7.le_trans hB9 g10.le),oD,I3,oD,lk g10.le,show(a2w z)[0+1]? =some (.int .i64 z.2) from rfl,oD]
  refine(a3U g10 f5 hz2 (by decide) (by decide) (by simp only[List.length_append,s8,a2B,List.length_take]at hbl ⊢;have:(vF (IntKind.u8.wrap y.a)).size=8:=rfl;omega)).use ?_
  rintro v S5 ⟨t5,rfl,g11⟩
  simp only[exD,List.getElem?_cons_zero,List.getElem?_cons_succ,oD]
  have e1:∀p q r:Bool,(∀K:D→Prop,K (.bool (p&&q&&r))→a9 (j9 (d6 (.bool p) true) (some (.bool q))) fun v55=>a9 (z2 (.bool p) v55 (.bool false)) fun v56=>a9 (j9 (d6 v56 true) (some (.bool r))) fun v57=>a9 (z2 v56 v57 (.bool false)) fun v58=>K v58):=by
   intro p q r K hK
   cases p<;>cases q<;>cases r<;>simpa using hK
  refine e1 _ _ _ (fun v58=>a9 (d8 .add (.int .i64 (j:Int)) (.int .i64 1)) fun v59=>_) ?_
  rw[E2,oD,m7 (by omega) (by omega)]
  refine⟨n - 1,by omega,_,j+1,hB9,by omega, ?_,by trivial,by trivial,by trivial, ?_,by trivial,by trivial,by trivial⟩
  ·have:a3t (y.arms.take (j+1))=a3t (y.arms.take j)++(B9 z.1 8++B9 z.2 4):=by
    rw[List.take_add_one,hjz,Option.toList_some]
    simp[a3t,d2O,List.flatMap_append]
   rw[this, ←List.append_assoc, ←List.append_assoc]
   exact g11
  ·rw[List.take_add_one,hjz,Option.toList_some,List.all_append,List.all_cons,List.all_nil,Bool.and_true,c8O,Bool.and_assoc]
 ·have hj':j=y.arms.length:=by omega
  subst hj'
  rw[List.take_length]at g8 hbl ⊢
  rw[l5 hle8,oD,I3,oD,l0 hle8,show(inC y)[0+2]? =some (.int .i64 y.b) from rfl,oD]
  refine(a3U g8 f5 ho.b (by decide) (by decide) hbl).use ?_
  rintro v S4 ⟨t4,rfl,g9⟩
  simp only[exD,List.getElem?_cons_zero,List.getElem?_cons_succ,oD]
  obtain⟨S5,hl5,g10⟩:=g9.base (b7.le_trans hle hB')
  have e1:∀p q:Bool,(∀K:D→Prop,K (.bool (p&&q))→a9 (j9 (d6 (.bool p) true) (some (.bool q))) fun v55=>a9 (z2 (.bool p) v55 (.bool false)) fun v56=>K v56):=by
   intro p q K hK
   cases p<;>cases q<;>simpa using hK
  refine e1 _ _ (fun v=>d9 E _ (.tup [t4,v]) S4) ?_
  refine d9.less hl5 (d9.here ⟨t4,_, ?_,g10,fun _=> ?_⟩)
  ·rw[decide_eq_true hsm,Bool.true_and]
  ·simp only[List.append_assoc];rfl
end
end
section
theorem c3h(y:In)(f:Fld):∀(l:List Fld) (i:Nat),a4a y i (l++[f])=a4a y i l++B9 (y.num (i+l.length)) f.size
 | [],i=>by simp[a4a]
 |g::l,i=>by
  rw[List.cons_append,a4a,a4a,c3h y f l (i+1),List.append_assoc,List.length_cons,show i+1+l.length=i+(l.length+1) by omega]
theorem b9Y(y:In)(f:Fld):∀(l:List Fld) (i:Nat),a3d y i (l++[f])=(a3d y i l&&f.may (y.num (i+l.length)))
 | [],i=>by simp[a3d]
 |g::l,i=>by
  rw[List.cons_append,a3d,a3d,b9Y y f l (i+1),Bool.and_assoc,List.length_cons,show i+1+l.length=i+(l.length+1) by omega]
theorem b4p(y:In):∀(l:List Fld) (i:Nat),(∀f∈l,f.size≤8)→(a4a y i l).length≤8*l.length
 | [],i,_=>by simp[a4a]
 |g::l,i,h=>by
  have:=b4p y l (i+1) fun f hf=>h f (List.mem_cons_of_mem _ hf)
  have:=h g List.mem_cons_self
  rw[a4a,List.length_append,s8,List.length_cons]
  omega
theorem c1w.load{row:List D}{f:Fld}(h:c1w row f):row.length=2:=by obtain⟨fv,rfl,_⟩:=h;rfl
section
variable{E:m6}{w0:o3}{S0 S:b7}{t:D}{bs:List Int}{y:In}
theorem c8J{B:b7}(h:b6j B t bs S)(hB:S0.le B){ok:Bool}(hok:isS y=ok)(hbs:ok=true→bs=b3d y):
  F8 E w0 (d9 E fun d' S'=>d'= .tup [bD (b9G y), .int .i64 (if isS y=true then 0 else 120)]∧S'=S0) (.bool ok) t S:=by
 unfold F8
 rw[unN,oD]
 cases ok with
 |false=>
  simp only[Bool.not_false,cdT]
  refine d9.less (b7.le_trans hB h.le) (d9.nilT (lp:=[]) (sz:=1) (d9.here ⟨?_,rfl⟩))
  rw[b9G,hok];rfl
 |true=>
  simp only[Bool.not_true,cdF]
  obtain⟨S',hl,hg⟩:=h.base hB
  refine d9.less hl (hg.finT (lp:=[]) (d9.here ⟨?_,rfl⟩))
  rw[b9G,hok,hbs rfl];rfl
theorem c2k(ho:y.Ok):Y7 Try.prog E w0 a9n [inD y] (.tup [bD (b9G y), .int .i64 (if isS y=true then 0 else 120)]):=fun S=>by
 refine b9d ?_
 unfold b6b
 rw[inD,clA,oD]
 intro k0 a0 n0
 have b0:(S.set k0 ⟨4,[inC y],a0⟩) k0=some ⟨4,[inC y],a0⟩:=b7.set_same _ _ _
 have l0:∀ {S':b7},(S.set k0 ⟨(inC y).length,[inC y],a0⟩).le S'→∀i,c9 S' (.ptr k0 i)=(inC y)[i]? :=fun h i=>ldP (h _ _ b0)
 have hle:S.le (S.set k0 ⟨(inC y).length,[inC y],a0⟩):=b7.le_new n0
 rw[I3,oD,l0 (b7.le_refl _),show(inC y)[0+0]? =some (.int .u8 y.op) from rfl,oD]
 refine b3r.use ?_
 simp only[exD,List.getElem?_cons_zero,List.getElem?_cons_succ,oD]
 rw[l0 (b7.le_refl _),show(inC y)[0+0]? =some (.int .u8 y.op) from rfl,oD]
 simp only[p9,clI,List.length_cons,List.length_nil,List.replicate,List.set]
 rw[if_pos (by decide)]
 refine M7 rfl ?_
 refine(b3X (bs:=[]) (ms:=[y.op]) (Grw.nil _ 1) (by simp)).use fun t1 S1 g1=> ?_
 rw[lnL,oD,a4V]
 obtain⟨l,hl⟩:∃l,l=(lay y.op).getD []:=⟨_,rfl⟩
 have hl2:l.length≤2:=by rw[hl];exact b4A
 have hgood:∀f∈l,b1L f:=by rw[hl];exact b7p _
 have hs8:∀f∈l,f.size≤8:=fun f hf=>a6h (hgood f hf)
 rw[←hl]
 refine b5N (I:=fun n x1 x4 x5 x6 x21 x22 x23 S'=>∃(B:b7) (j:Nat),(S.set k0 ⟨(inC y).length,[inC y],a0⟩).le B∧j+n=l.length∧b6j B x6 (y.op::a4a y 0 (l.take j)) S'∧
   x1= .ptr k0 0∧x4= .lst (a4w y.op) 2∧x5= .bool ((lay y.op).isSome&&a3d y 0 (l.take j))∧x21= .lst (a4w y.op) 2∧x22= .int .i64 (l.length:Int)∧x23= .int .i64 (j:Int)) ?_ (n:=l.length)
  ⟨_,0,b7.le_refl _,by omega,by simpa [a4a]using g1,rfl,rfl,by simp[a3d],rfl,rfl,rfl⟩
 rintro n _ _ _ x6 _ _ _ S2 ⟨B,j,hB,hj,g2,rfl,rfl,rfl,rfl,rfl,rfl⟩
 unfold a5y
 have hle2:=b7.le_trans hB g2.le
 rw[K3,oD,M6]
 refine⟨fun hlt=> ?_,fun hge=> ?_⟩
 ·have hlt:j<l.length:=by omega
  obtain⟨f,hf⟩:∃f,f=l[j]:=⟨_,rfl⟩
  have hjf:l[j]? =some f:=by rw[List.getElem?_eq_getElem hlt,hf]
  obtain⟨row,hrow,hfd⟩:=c6P (op:=y.op) (i:=j) (f:=f) (by rw[←hl];exact hjf)
  obtain⟨hg1,_⟩:=hgood f (by rw[hf];exact List.getElem_mem _)
  have hg8:=hs8 f (by rw[hf];exact List.getElem_mem _)
  have hrl:=hfd.load
  rw[b5S hrow,oD,laE,if_pos ⟨by decide,by omega⟩,oD,List.drop_zero,List.take_of_length_le (by omega)]
  intro k a nk
  have hcl:r7 (.agg row)=some row:=rfl
  refine stP (ds:=row) (b7.set_same _ _ _) (clA _) ⟨hrl,by decide,by simp⟩ fun a=> ?_
  rw[b7.set_set]
  have hset:o8 [D.int .i64 0, .nilFn] 0 row=row:=by
   obtain⟨fv,rfl,_⟩:=hfd;rfl
  rw[hset]
  have g3:=g2.under (o:=⟨[D.int .i64 0, .nilFn].length,[row],a⟩) nk
  have zk:B k=none:=by
   cases e:B k with
   |none=>rfl
   |some o=>rw[g2.le _ _ e]at nk;cases nk
  have hB3:(S.set k0 ⟨(inC y).length,[inC y],a0⟩).le (B.set k ⟨[D.int .i64 0, .nilFn].length,[row],a⟩):=b7.le_trans hB (b7.le_new zk)
  have hnum:∀n',n'=y.num j→a2D E w0 (fun x1 x4 x5 x6 x21 x22 x23 S'=>∃m,m<n∧∃(B:b7) (j:Nat),(S.set k0 ⟨(inC y).length,[inC y],a0⟩).le B∧j+m=l.length∧b6j B x6 (y.op::a4a y 0 (l.take j)) S'∧
    x1= .ptr k0 0∧x4= .lst (a4w y.op) 2∧x5= .bool ((lay y.op).isSome&&a3d y 0 (l.take j))∧x21= .lst (a4w y.op) 2∧x22= .int .i64 (l.length:Int)∧x23= .int .i64 (j:Int))
    (d9 E fun d' S'=>d'= .tup [bD (b9G y), .int .i64 (if isS y=true then 0 else 120)]∧S'=S) (.ptr k0 0) (.lst (a4w y.op) 2) (.bool ((lay y.op).isSome&&a3d y 0 (l.take j))) x6 (.ptr k 0) (.int .i64 n') (.lst (a4w y.op) 2) (.int .i64 (l.length:Int)) (.int .i64 (j:Int))
    (S2.set k ⟨[D.int .i64 0, .nilFn].length,[row],a⟩):=by
   rintro _ rfl
   unfold a2D
   rw[laP (b7.set_same _ _ _) ⟨by decide,by omega⟩,oD,List.drop_zero,List.take_of_length_le (by omega)]
   have hi:I64 (y.num j):=by unfold In.num;split;exact ho.b;exact ho.a
   have hbl:=b4p y (l.take j) 0 fun f hf=>hs8 f (List.mem_of_mem_take hf)
   refine(a3U g3 hfd hi hg1 hg8 (by rw[List.length_cons];rw[List.length_take]at hbl;omega)).use ?_
   rintro v S4 ⟨t4,rfl,g4⟩
   simp only[exD,List.getElem?_cons_zero,List.getElem?_cons_succ,oD]
   have e1:∀p q:Bool,(∀K:D→Prop,K (.bool (p&&q))→a9 (j9 (d6 (.bool p) true) (some (.bool q))) fun v55=>a9 (z2 (.bool p) v55 (.bool false)) fun v56=>K v56):=by
    intro p q K hK
    cases p<;>cases q<;>simpa using hK
   refine e1 _ _ (fun v30=>a9 (d8 .add (.int .i64 (j:Int)) (.int .i64 1)) fun v31=>_) ?_
   rw[E2,oD,m7 (by omega) (by omega)]
   have htk:l.take (j+1)=l.take j++[f]:=by rw[List.take_add_one,hjf];rfl
   have hlj:(l.take j).length=j:=by rw[List.length_take];omega
   refine⟨n - 1,by omega,_,j+1,hB3,by omega, ?_,by trivial,by trivial, ?_,by trivial,by trivial,by trivial⟩
   ·rw[htk,c3h,hlj,Nat.zero_add, ←List.cons_append];exact g4
   ·rw[htk,b9Y,hlj,Nat.zero_add,Bool.and_assoc]
  have hle3:(S.set k0 ⟨(inC y).length,[inC y],a0⟩).le (S2.set k ⟨[D.int .i64 0, .nilFn].length,[row],a⟩):=b7.le_trans hB3 g3.le
  rw[I3,oD,l0 hle3,show(inC y)[0+1]? =some (.int .i64 y.a) from rfl,oD,a1T,oD,cdB]
  refine⟨fun h1=> ?_,fun h1=> ?_⟩
  ·rw[I3,oD,l0 hle3,show(inC y)[0+2]? =some (.int .i64 y.b) from rfl,oD]
   have h1:j=1:=by have:(j:Int)=1:=by simpa using h1
                   omega
   exact hnum _ (by unfold In.num;rw[if_pos h1])
  ·have h1:¬j=1:=by have:¬(j:Int)=1:=by simpa using h1
                    omega
   exact hnum _ (by unfold In.num;rw[if_neg h1])
 ·have hj':j=l.length:=by omega
  subst hj'
  rw[List.take_length]at g2 ⊢
  have hisS:isS y=(((lay y.op).isSome&&a3d y 0 l)&&
    if y.op=49 then decide (y.arms.length≤65535)&&y.arms.all (c3a (IntKind.u8.wrap y.a))&&decide (0≤y.b∧y.b≤4294967295)
    else decide (y.arms.length=0)&&(decide (2≤l.length)||decide (y.b=0))&&(decide (1≤l.length)||decide (y.a=0))):=by rw[hl];rfl
  have henc:b3d y=y.op::a4a y 0 l++if y.op=49 then B9 y.arms.length 2++a3t y.arms++B9 y.b 4 else[]:=by rw[hl];rfl
  generalize hok:((lay y.op).isSome&&a3d y 0 l)=ok at hisS ⊢
  have hbl:=b4p y l 0 hs8
  have hSB:S.le B:=b7.le_trans hle hB
  rw[I3,oD,l0 hle2,show(inC y)[0+0]? =some (.int .u8 y.op) from rfl,oD,a1T,oD]
  have nope:∀ {ok':Bool},isS y=ok'→(ok'=true→y.op::a4a y 0 l=b3d y)→F8 E w0 (d9 E fun d' S'=>d'= .tup [bD (b9G y), .int .i64 (if isS y=true then 0 else 120)]∧S'=S) (.bool ok') x6 S2:=fun h1 h2=>c8J g2 hSB h1 h2
  have ll3:c9 S2 (.ptr k0 3)=some (b6V y.arms):=l0 hle2 3
  have ll2:c9 S2 (.ptr k0 2)=some (.int .i64 y.b):=l0 hle2 2
  have ll1:c9 S2 (.ptr k0 1)=some (.int .i64 y.a):=l0 hle2 1
  obtain⟨p1,hp1⟩:∃p,decide ((y.arms.length:Int)>0)=p:=⟨_,rfl⟩
  obtain⟨p2,hp2⟩:∃p,decide ((l.length:Int)<2)=p:=⟨_,rfl⟩
  obtain⟨p3,hp3⟩:∃p,(y.b != 0)=p:=⟨_,rfl⟩
  obtain⟨p4,hp4⟩:∃p,decide ((l.length:Int)<1)=p:=⟨_,rfl⟩
  obtain⟨p5,hp5⟩:∃p,(y.a != 0)=p:=⟨_,rfl⟩
  have key:(decide (y.arms.length=0)&&(decide (2≤l.length)||decide (y.b=0))&&(decide (1≤l.length)||decide (y.a=0)))=(!p1&&(!p2|| !p3)&&(!p4|| !p5)):=by
   have q1:decide (y.arms.length=0)= !p1:=by rw[←hp1, ←decide_not];exact decide_eq_decide.2 (by omega)
   have q2:decide (2≤l.length)= !p2:=by rw[←hp2, ←decide_not];exact decide_eq_decide.2 (by omega)
   have q3:decide (y.b=0)= !p3:=by rw[←hp3];by_cases h:y.b=0<;>simp[h]
   have q4:decide (1≤l.length)= !p4:=by rw[←hp4, ←decide_not];exact decide_eq_decide.2 (by omega)
   have q5:decide (y.a=0)= !p5:=by rw[←hp5];by_cases h:y.a=0<;>simp[h]
   rw[q1,q2,q3,q4,q5]
  by_cases h49:y.op=49
  ·have e49:(y.op==49)=true:=by simp[h49]
   rw[if_pos h49]at hisS henc
   simp only[e49,wdB,beq_self_eq_true,vdT,oD,pdB,if_true]
   cases ok with
   |true=>
    simp only[cdT]
    rw[laP (hle2 _ _ b0) ⟨by decide,by simp[inC]⟩,oD]
    show o4 Try.prog E w0 a9K [x6,inD y] S2 _
    refine(c5C g2 ho h49 (by rw[List.length_cons];omega)).use ?_
    rintro v S3 ⟨t3,bs3,rfl,g3,hb3⟩
    simp only[exD,List.getElem?_cons_zero,List.getElem?_cons_succ,oD]
    refine c8J g3 hSB (by rw[hisS,Bool.true_and];rfl) fun h=> ?_
    simp only[Bool.and_eq_true,decide_eq_true_eq]at h
    rw[hb3 h.1.1,henc]
   |false=>
    have hn:=nope (ok':=false) (by rw[hisS,Bool.false_and]) (fun h=>by cases h)
    simp only[cdF,I3,oD,Nat.zero_add,ll3,b5F,a3z,lnL,a4V, ←hl,K3,hp1,hp2,hp4]
    cases p1<;>cases p2<;>cases p3<;>cases p4<;>cases p5<;>simp[ll1,ll2,hp3,hp5]<;>exact hn
  ·have e49:(y.op==49)=false:=by simp[h49]
   rw[if_neg h49]at hisS henc
   rw[List.append_nil]at henc
   rw[key]at hisS
   simp only[e49,wdB,vdF,oD,pdB,Bool.false_eq_true,if_false,cdF,show((false==true)=false) from rfl]
   simp only[I3,oD,Nat.zero_add,ll3,b5F,a3z,lnL,a4V, ←hl,K3,hp1,hp2,hp4]
   cases p1<;>cases p2<;>cases p3<;>cases p4<;>cases p5<;>simp[ll1,ll2,hp3,hp5]<;>exact nope (by rw[hisS];simp) (fun _=>henc.symm)
theorem c6u(ho:y.Ok):Y7 Try.prog E w0 b4s [inD y] (.int .i64 ((b9G y).length:Int)):=fun S=>by
 refine c1T ?_
 unfold b9N
 rw[inD,clA,oD]
 intro k0 a0 n0
 rw[laP (b7.set_same _ _ _) ⟨by decide,by simp[inC]⟩,oD]
 refine(c2k ho).use ?_
 simp only[exD,List.getElem?_cons_zero,List.getElem?_cons_succ,oD,L9]
 exact d9.drop n0 d9.pure
end
end
section
@[simp] theorem d6E(row:List D)(rows:List (List D))(sz:Nat):A7 sz (.lst (row::rows) sz) (.int .i64 0)=some (.elt row 0):=b5S (i:=0) rfl
@[simp] theorem d6D(a row:List D)(rows:List (List D))(sz:Nat):A7 sz (.lst (a::row::rows) sz) (.int .i64 1)=some (.elt row 0):=b5S (i:=1) rfl
theorem b9S(a b:Int):(a==b)=decide (a=b):=by by_cases h:a=b<;>simp[h]
end
end Go.Proofs.Ytchnpgddpaonhaa.d
end
section
open Go.Proofs Go Go.Am
namespace Go.Proofs.Ytchnpgddpaonhaa.d
def O3:List (Nat×List Nat):=[(6,[1,2,5,6]),(14,[1,2,5,6,7]),(22,[1,2,5,8]),(30,[1,2,5,9])]
def O0:List (Nat×List Nat):=[]
def O2:List (Nat×Arr):=[]
noncomputable def a9R:Code:=(l9 [1,1,0,1,0,0,1,0,0,1,1,0,0] (Try.f9.body.getD .skip))
def a9I(E:m6)(w0:o3)(N0:D→D→D→D→b7→Prop)(Q:D→b7→Prop):r4→List D→b7→Prop:=
 (t7 2 (t7 1 (I5 Try.prog E w0 O3 O0 O2 (l9 [1,1,0,1,0,0,1,1] (Try.f9.body.getD .skip)) (C0 (fun T S=>N0 (T.getD 1 b8) (T.getD 2 b8) (T.getD 5 b8) (T.getD 6 b8) S) (t7 0 (I5 Try.prog E w0 O3 O0 O2 (l9 [1,1,1] (Try.f9.body.getD .skip)) (I4 Try.prog Try.f9 Q)))))))
def a9O(E:m6)(w0:o3)(N0:D→D→D→D→b7→Prop)(N1:D→D→D→D→D→b7→Prop)(Q:D→b7→Prop)(x1 x2 x5 x6 x7:D)(S:b7):Prop:=
 a9 (m8 0 x2) fun v35=>
 a9 (c9 S v35) fun v36=>
 a9 (A7 5 v36 x6) fun v37=>
 a9 (m8 2 v37) fun v38=>
 a9 (c9 S v38) fun v39=>
 a9 (r6 v39) fun v40=>
 a9 (d8 .lss x7 v40) fun v41=>
 a9 (j9 (d6 v41 true) (some x5)) fun v42=>
 a9 (j9 (d6 v41 true) (some x1)) fun v43=>
 a9 (j9 (d6 v41 true) (d8 .leq v42 v43)) fun v44=>
 a9 (z2 v41 v44 (.bool false)) fun v45=>
 i9 v45
 (a9 (m8 0 x2) fun v46=>
 a9 (c9 S v46) fun v47=>
 a9 (A7 5 v47 x6) fun v48=>
 a9 (m8 2 v48) fun v49=>
 a9 (c9 S v49) fun v50=>
 a9 (A7 2 v50 x7) fun v51=>
 a9 (m8 0 v51) fun v52=>
 a9 (c9 S v52) fun v53=>
 a9 (a3M v53) fun v54=>
 a9 (d8 .add x5 v54) fun v55=>
 a9 (d8 .add x7 (.int .i64 1)) fun v56=>
 N1 x1 x2 v55 x6 v56 S)
 (a9 (d8 .add x6 (.int .i64 1)) fun v57=>
 N0 x1 x2 x5 v57 S)
theorem b8r{E:m6}{w0:o3}{N0:D→D→D→D→b7→Prop}{N1:D→D→D→D→D→b7→Prop}{Q:D→b7→Prop}{x1 x2 x5 x6 x7:D}{S:b7}(h:a9O E w0 N0 N1 Q x1 x2 x5 x6 x7 S):
  k9 Try.prog E w0 a9R (n9 135 [1,2,5,6,7] [x1,x2,x5,x6,x7]) S (C0 (fun T S=>N1 (T.getD 1 b8) (T.getD 2 b8) (T.getD 5 b8) (T.getD 6 b8) (T.getD 7 b8) S) (a9I E w0 N0 Q)):=l8 O3 O0 O2 o9 (by kernel_rfl) h
theorem b8y{E:m6}{w0:o3}{N0:D→D→D→D→b7→Prop}{Q:D→b7→Prop}(I:Nat→D→D→D→D→D→b7→Prop)
  (step:∀n x1 x2 x5 x6 x7 S,I n x1 x2 x5 x6 x7 S→a9O E w0 N0 (fun x1 x2 x5 x6 x7 S=>∃m,m<n∧I m x1 x2 x5 x6 x7 S) Q x1 x2 x5 x6 x7 S)
  {n:Nat} {x1 x2 x5 x6 x7:D} {S:b7} (h:I n x1 x2 x5 x6 x7 S):k9 Try.prog E w0 (.loop a9R) (n9 135 [1,2,5,6,7] [x1,x2,x5,x6,x7]) S (a9I E w0 N0 Q):=
 r8 (k:=135) (n:=n) (I:=fun n T S=>I n (T.getD 1 b8) (T.getD 2 b8) (T.getD 5 b8) (T.getD 6 b8) (T.getD 7 b8) S) (fun n T S hl hI=>s6 [1,2,5,6,7] hl (k9.mono (b8r (step n _ _ _ _ _ S hI)) fun ex T' S' _ hq=>by cases ex<;>exact hq)) (o7 ..) (Eq.mp (by kernel_rfl) h)
noncomputable def a9J:Code:=(l9 [1,1,1,1,0,1,0,0] (Try.f9.body.getD .skip))
def a9G(E:m6)(w0:o3)(Q:D→b7→Prop):r4→List D→b7→Prop:=
 (t7 6 (I5 Try.prog E w0 O3 O0 O2 (l9 [1,1,1,1,1] (Try.f9.body.getD .skip)) (I4 Try.prog Try.f9 Q)))
def a8Z(E:m6)(w0:o3)(N3:D→D→D→D→b7→Prop)(Q:D→b7→Prop)(x1 x2 x5 x9:D)(S:b7):Prop:=
 a9 (m8 2 x2) fun v73=>
 a9 (c9 S v73) fun v74=>
 a9 (r6 v74) fun v75=>
 a9 (d8 .lss x9 v75) fun v76=>
 a9 (j9 (d6 v76 true) (some x5)) fun v77=>
 a9 (j9 (d6 v76 true) (some x1)) fun v78=>
 a9 (j9 (d6 v76 true) (d8 .leq v77 v78)) fun v79=>
 a9 (z2 v76 v79 (.bool false)) fun v80=>
 i9 v80
 (a9 (m8 2 x2) fun v81=>
 a9 (c9 S v81) fun v82=>
 a9 (A7 6 v82 x9) fun v83=>
 a9 (j0 S 6 v83) fun v84=>
 o6 S [(.str []), .nilSlc, .nilSlc,(.int .i64 0),(.int .i64 0), .nilSlc] fun v85 S86=>
 f0 S86 6 v85 v84 fun v87 S88=>
 a9 (m8 0 v85) fun v89=>
 a9 (c9 S88 v89) fun v90=>
 a9 (a3M v90) fun v91=>
 a9 (d8 .add x5 v91) fun v92=>
 a9 (m8 1 v85) fun v93=>
 a9 (c9 S88 v93) fun v94=>
 a9 (r6 v94) fun v95=>
 a9 (d8 .add v92 v95) fun v96=>
 a9 (m8 2 v85) fun v97=>
 a9 (c9 S88 v97) fun v98=>
 a9 (r6 v98) fun v99=>
 a9 (d8 .add v96 v99) fun v100=>
 a9 (m8 5 v85) fun v101=>
 a9 (c9 S88 v101) fun v102=>
 a9 (r6 v102) fun v103=>
 a9 (d8 .add v100 v103) fun v104=>
 a9 (d8 .add x9 (.int .i64 1)) fun v105=>
 N3 x1 x2 v104 v105 S88)
 (Q x5 S)
theorem b9c{E:m6}{w0:o3}{N3:D→D→D→D→b7→Prop}{Q:D→b7→Prop}{x1 x2 x5 x9:D}{S:b7}(h:a8Z E w0 N3 Q x1 x2 x5 x9 S):
  k9 Try.prog E w0 a9J (n9 135 [1,2,5,9] [x1,x2,x5,x9]) S (C0 (fun T S=>N3 (T.getD 1 b8) (T.getD 2 b8) (T.getD 5 b8) (T.getD 9 b8) S) (a9G E w0 Q)):=l8 O3 O0 O2 o9 (by kernel_rfl) h
theorem b9a{E:m6}{w0:o3}{Q:D→b7→Prop}(I:Nat→D→D→D→D→b7→Prop)
  (step:∀n x1 x2 x5 x9 S,I n x1 x2 x5 x9 S→a8Z E w0 (fun x1 x2 x5 x9 S=>∃m,m<n∧I m x1 x2 x5 x9 S) Q x1 x2 x5 x9 S)
  {n:Nat} {x1 x2 x5 x9:D} {S:b7} (h:I n x1 x2 x5 x9 S):k9 Try.prog E w0 (.loop a9J) (n9 135 [1,2,5,9] [x1,x2,x5,x9]) S (a9G E w0 Q):=
 r8 (k:=135) (n:=n) (I:=fun n T S=>I n (T.getD 1 b8) (T.getD 2 b8) (T.getD 5 b8) (T.getD 9 b8) S) (fun n T S hl hI=>s6 [1,2,5,9] hl (k9.mono (b9c (step n _ _ _ _ S hI)) fun ex T' S' _ hq=>by cases ex<;>exact hq)) (o7 ..) (Eq.mp (by kernel_rfl) h)
noncomputable def b0b:Code:=(l9 [1,1,1,0,1,0,0] (Try.f9.body.getD .skip))
def a8V(E:m6)(w0:o3)(Q:D→b7→Prop):r4→List D→b7→Prop:=
 (t7 4 (I5 Try.prog E w0 O3 O0 O2 (l9 [1,1,1,1] (Try.f9.body.getD .skip)) (I4 Try.prog Try.f9 Q)))
def a8w(E:m6)(w0:o3)(N2:D→D→D→D→b7→Prop)(Q:D→b7→Prop)(x1 x2 x5 x8:D)(S:b7):Prop:=
 a9 (m8 1 x2) fun v58=>
 a9 (c9 S v58) fun v59=>
 a9 (r6 v59) fun v60=>
 a9 (d8 .lss x8 v60) fun v61=>
 a9 (j9 (d6 v61 true) (some x5)) fun v62=>
 a9 (j9 (d6 v61 true) (some x1)) fun v63=>
 a9 (j9 (d6 v61 true) (d8 .leq v62 v63)) fun v64=>
 a9 (z2 v61 v64 (.bool false)) fun v65=>
 i9 v65
 (a9 (m8 1 x2) fun v66=>
 a9 (c9 S v66) fun v67=>
 a9 (A7 1 v67 x8) fun v68=>
 a9 (c9 S v68) fun v69=>
 a9 (a3M v69) fun v70=>
 a9 (d8 .add x5 v70) fun v71=>
 a9 (d8 .add x8 (.int .i64 1)) fun v72=>
 N2 x1 x2 v71 v72 S)
 (k9 Try.prog E w0 (.loop a9J) (n9 135 [1,2,5,9] [x1,x2,x5,(.int .i64 0)]) S (a9G E w0 Q))
theorem b8m{E:m6}{w0:o3}{N2:D→D→D→D→b7→Prop}{Q:D→b7→Prop}{x1 x2 x5 x8:D}{S:b7}(h:a8w E w0 N2 Q x1 x2 x5 x8 S):
  k9 Try.prog E w0 b0b (n9 135 [1,2,5,8] [x1,x2,x5,x8]) S (C0 (fun T S=>N2 (T.getD 1 b8) (T.getD 2 b8) (T.getD 5 b8) (T.getD 8 b8) S) (a8V E w0 Q)):=l8 O3 O0 O2 o9 (by kernel_rfl) h
theorem b8T{E:m6}{w0:o3}{Q:D→b7→Prop}(I:Nat→D→D→D→D→b7→Prop)
  (step:∀n x1 x2 x5 x8 S,I n x1 x2 x5 x8 S→a8w E w0 (fun x1 x2 x5 x8 S=>∃m,m<n∧I m x1 x2 x5 x8 S) Q x1 x2 x5 x8 S)
  {n:Nat} {x1 x2 x5 x8:D} {S:b7} (h:I n x1 x2 x5 x8 S):k9 Try.prog E w0 (.loop b0b) (n9 135 [1,2,5,8] [x1,x2,x5,x8]) S (a8V E w0 Q):=
 r8 (k:=135) (n:=n) (I:=fun n T S=>I n (T.getD 1 b8) (T.getD 2 b8) (T.getD 5 b8) (T.getD 8 b8) S) (fun n T S hl hI=>s6 [1,2,5,8] hl (k9.mono (b8m (step n _ _ _ _ S hI)) fun ex T' S' _ hq=>by cases ex<;>exact hq)) (o7 ..) (Eq.mp (by kernel_rfl) h)
noncomputable def a8N:Code:=(l9 [1,1,0,1,0,0] (Try.f9.body.getD .skip))
def a9t(E:m6)(w0:o3)(Q:D→b7→Prop):r4→List D→b7→Prop:=
 (t7 0 (I5 Try.prog E w0 O3 O0 O2 (l9 [1,1,1] (Try.f9.body.getD .skip)) (I4 Try.prog Try.f9 Q)))
def a9k(E:m6)(w0:o3)(N0:D→D→D→D→b7→Prop)(Q:D→b7→Prop)(x1 x2 x5 x6:D)(S:b7):Prop:=
 a9 (m8 0 x2) fun v13=>
 a9 (c9 S v13) fun v14=>
 a9 (r6 v14) fun v15=>
 a9 (d8 .lss x6 v15) fun v16=>
 a9 (j9 (d6 v16 true) (some x5)) fun v17=>
 a9 (j9 (d6 v16 true) (some x1)) fun v18=>
 a9 (j9 (d6 v16 true) (d8 .leq v17 v18)) fun v19=>
 a9 (z2 v16 v19 (.bool false)) fun v20=>
 i9 v20
 (a9 (m8 0 x2) fun v21=>
 a9 (c9 S v21) fun v22=>
 a9 (A7 5 v22 x6) fun v23=>
 a9 (m8 1 v23) fun v24=>
 a9 (c9 S v24) fun v25=>
 a9 (a3M v25) fun v26=>
 a9 (d8 .add x5 v26) fun v27=>
 a9 (m8 0 x2) fun v28=>
 a9 (c9 S v28) fun v29=>
 a9 (A7 5 v29 x6) fun v30=>
 a9 (m8 2 v30) fun v31=>
 a9 (c9 S v31) fun v32=>
 a9 (r6 v32) fun v33=>
 a9 (d8 .add v27 v33) fun v34=>
 k9 Try.prog E w0 (.loop a9R) (n9 135 [1,2,5,6,7] [x1,x2,v34,x6,(.int .i64 0)]) S (a9I E w0 N0 Q))
 (k9 Try.prog E w0 (.loop b0b) (n9 135 [1,2,5,8] [x1,x2,x5,(.int .i64 0)]) S (a8V E w0 Q))
theorem b8A{E:m6}{w0:o3}{N0:D→D→D→D→b7→Prop}{Q:D→b7→Prop}{x1 x2 x5 x6:D}{S:b7}(h:a9k E w0 N0 Q x1 x2 x5 x6 S):
  k9 Try.prog E w0 a8N (n9 135 [1,2,5,6] [x1,x2,x5,x6]) S (C0 (fun T S=>N0 (T.getD 1 b8) (T.getD 2 b8) (T.getD 5 b8) (T.getD 6 b8) S) (a9t E w0 Q)):=l8 O3 O0 O2 o9 (by kernel_rfl) h
theorem b8G{E:m6}{w0:o3}{Q:D→b7→Prop}(I:Nat→D→D→D→D→b7→Prop)
  (step:∀n x1 x2 x5 x6 S,I n x1 x2 x5 x6 S→a9k E w0 (fun x1 x2 x5 x6 S=>∃m,m<n∧I m x1 x2 x5 x6 S) Q x1 x2 x5 x6 S)
  {n:Nat} {x1 x2 x5 x6:D} {S:b7} (h:I n x1 x2 x5 x6 S):k9 Try.prog E w0 (.loop a8N) (n9 135 [1,2,5,6] [x1,x2,x5,x6]) S (a9t E w0 Q):=
 r8 (k:=135) (n:=n) (I:=fun n T S=>I n (T.getD 1 b8) (T.getD 2 b8) (T.getD 5 b8) (T.getD 6 b8) S) (fun n T S hl hI=>s6 [1,2,5,6] hl (k9.mono (b8A (step n _ _ _ _ S hI)) fun ex T' S' _ hq=>by cases ex<;>exact hq)) (o7 ..) (Eq.mp (by kernel_rfl) h)
def c1i(E:m6)(w0:o3)(Q:D→b7→Prop)(a0 a1:D)(S:b7):Prop:=
 a9 (r7 a0) fun cs=>o6 S cs fun v0 S1=>
 a9 (m8 0 v0) fun v2=>
 a9 (c9 S1 v2) fun v3=>
 a9 (r6 v3) fun v4=>
 a9 (m8 1 v0) fun v5=>
 a9 (c9 S1 v5) fun v6=>
 a9 (r6 v6) fun v7=>
 a9 (d8 .add v4 v7) fun v8=>
 a9 (m8 2 v0) fun v9=>
 a9 (c9 S1 v9) fun v10=>
 a9 (r6 v10) fun v11=>
 a9 (d8 .add v8 v11) fun v12=>
 k9 Try.prog E w0 (.loop a8N) (n9 135 [1,2,5,6] [a1,v0,v12,(.int .i64 0)]) S1 (a9t E w0 Q)
theorem c2z{E:m6}{w0:o3}{Q:D→b7→Prop}{a0 a1:D}{S:b7}(h:c1i E w0 (d9 E Q) a0 a1 S):o4 Try.prog E w0 b3K [a0,a1] S Q:=
 m9 O3 O0 O2 (fn:=Try.f9) (c:=Try.f9.body.getD .skip) o9 Try.func9 (by kernel_rfl) (by kernel_rfl) h
end Go.Proofs.Ytchnpgddpaonhaa.d
end
section
open Go.Proofs Go Go.Am Go.Op
namespace Go.Proofs.Ytchnpgddpaonhaa.d
section
def iC(l:List Int):List (List D):=u4 (l.map (D.int .i64))
def iD(l:List Int):D:= .lst (iC l) 1
@[simp] theorem d4J(l:List Int):(iC l).length=l.length:=by simp[iC]
theorem d5o{l:List Int}{i:Nat}{n:Int}(h:l[i]? =some n):(iC l)[i]? =some [.int .i64 n]:=b1W (by rw[List.getElem?_map,h];rfl)
theorem d3J{l:List Int}{i:Nat}{n:Int}(h:l[i]? =some n):A7 1 (iD l) (.int .i64 (i:Int))=some (.elt [.int .i64 n] 0):=b5S (d5o h)
@[simp] theorem b6U(l:List Int):r6 (iD l)=some (.int .i64 l.length):=by simp[iD]
@[simp] theorem c9i(S:b7)(l:List Int):rowsS S 1 (iD l)=some (iC l):=by simp[iD,rowsS,J5]
theorem c3j(a b:List Int):iC (a++b)=iC a++iC b:=by simp[iC,u4]
section
variable{E:m6}{w0:o3}
end
end
section
def a8U(bs:List Int):List UInt8:=bs.map fun b=>UInt8.ofNat b.toNat
theorem d2j(l:List Int):(u4 (l.map (D.int .u8))).mapM c0R=some (a8U l):=by
 induction l with
 |nil=>rfl
 |cons b l ih=>
  have:(u4 ((b::l).map (D.int .u8)))=[D.int .u8 b]::u4 (l.map (D.int .u8)):=rfl
  rw[this,List.mapM_cons,ih]
  rfl
theorem d0M(S:b7)(l:List Int):b3I S (bD l)=some (.str (a8U l)):=by
 have:J5 S 1 (bD l)=some (u4 (l.map (D.int .u8))):=by simp[bD,J5]
 simp only[b3I,this,d2j,Option.map_some]
@[simp] theorem d4M(S:b7)(arms:List (Int×Int)):rowsS S 2 (b6V arms)=some (arms.map a2w):=by simp[b6V,rowsS,J5]
theorem d3a(a b:Int):(a != b)=decide (a≠b):=by by_cases h:a=b<;>simp[h,bne]
section
variable{E:m6}{w0:o3}
end
end
section
abbrev Tx:=List UInt8
structure Ty where
 kind:Int
 name:Tx
 fields:List (Tx×Int)
 elem:Int
 len:Int
 deriving DecidableEq
structure Ro where
 name:Tx
 params:List Int
 results:List Int
 locals:Int
 stack:Int
 code:List Int
 deriving DecidableEq
structure Mo where
 types:List Ty
 texts:List Tx
 funcs:List Ro
 deriving DecidableEq
structure Ty.Ok (t:Ty):Prop where
 kind:0≤t.kind∧t.kind≤255
 name:t.name.length<2^47
 fields:t.fields.length<2^47
 names:∀f∈t.fields,f.1.length<2^47∧I64 f.2
 elem:I64 t.elem
 len:I64 t.len
structure Ro.Ok (r:Ro):Prop where
 name:r.name.length<2^47
 params:r.params.length<2^47
 results:r.results.length<2^47
 ints:∀n∈r.params++r.results,I64 n
 locals:I64 r.locals
 stack:I64 r.stack
 code:r.code.length<2^47
 bytes:∀b∈r.code,H6 b
structure Mo.Ok (m:Mo):Prop where
 types:m.types.length<2^47
 texts:m.texts.length<2^47
 funcs:m.funcs.length<2^47
 ty:∀t∈m.types,t.Ok
 tx:∀t∈m.texts,t.length<2^47
 ro:∀r∈m.funcs,r.Ok
def a0d(f:Tx×Int):List D:=[.str f.1, .int .i64 f.2]
def a3e(fs:List (Tx×Int)):D:= .lst (fs.map a0d) 2
def O4(t:Ty):List D:=[.int .u8 t.kind, .str t.name,a3e t.fields, .int .i64 t.elem, .int .i64 t.len]
def b2X(l:List Ty):D:= .lst (l.map O4) 5
def b0L(l:List Tx):D:= .lst (u4 (l.map D.str)) 1
def roR(r:Ro):List D:=[.str r.name,iD r.params,iD r.results, .int .i64 r.locals, .int .i64 r.stack,bD r.code]
def b2O(l:List Ro):D:= .lst (l.map roR) 6
def moC(m:Mo):List D:=[b2X m.types,b0L m.texts,b2O m.funcs]
def moD(m:Mo):D:= .agg (moC m)
theorem b0Z{l:List (Tx×Int)}{i:Nat}{y:Tx×Int}(h:l[i]? =some y):A7 2 (a3e l) (.int .i64 (i:Int))=some (.elt (a0d y) 0):=b5S (by rw[List.getElem?_map,h];rfl)
theorem b5Y{l:List Ty}{i:Nat}{y:Ty}(h:l[i]? =some y):A7 5 (b2X l) (.int .i64 (i:Int))=some (.elt (O4 y) 0):=b5S (by rw[List.getElem?_map,h];rfl)
theorem c3I{l:List Tx}{i:Nat}{y:Tx}(h:l[i]? =some y):A7 1 (b0L l) (.int .i64 (i:Int))=some (.elt [.str y] 0):=b5S (b1W (by rw[List.getElem?_map,h];rfl))
theorem b9m{l:List Ro}{i:Nat}{y:Ro}(h:l[i]? =some y):A7 6 (b2O l) (.int .i64 (i:Int))=some (.elt (roR y) 0):=b5S (by rw[List.getElem?_map,h];rfl)
@[simp] theorem a1y(l:List (Tx×Int)):r6 (a3e l)=some (.int .i64 l.length):=by simp[a3e]
@[simp] theorem a5t(l:List Ty):r6 (b2X l)=some (.int .i64 l.length):=by simp[b2X]
@[simp] theorem a8d(l:List Tx):r6 (b0L l)=some (.int .i64 l.length):=by simp[b0L]
@[simp] theorem a8j(l:List Ro):r6 (b2O l)=some (.int .i64 l.length):=by simp[b2O]
@[simp] theorem d1X(S:b7)(p:Tx×Int):j0 S 2 (.elt (a0d p) 0)=some (.agg (a0d p)):=(rfl)
@[simp] theorem d3W(S:b7)(p:Ty):j0 S 5 (.elt (O4 p) 0)=some (.agg (O4 p)):=(rfl)
@[simp] theorem d4g(S:b7)(p:Ro):j0 S 6 (.elt (roR p) 0)=some (.agg (roR p)):=(rfl)
theorem d5Z(a b:Tx):(a==b)=decide (a=b):=by by_cases h:a=b<;>simp[h]
theorem c9m(k:IntKind)(a b:Int):d8 .neq (.int k a) (.int k b)=some (.bool (decide (a≠b))):=by rw[b4F,d3a]
theorem a4M(k:IntKind)(a b:Int):d8 .eql (.int k a) (.int k b)=some (.bool (decide (a=b))):=by rw[a1T,b9S]
section
variable{E:m6}{w0:o3}
theorem t1:(true==false)=false:=rfl
theorem t2:(false==false)=true:=rfl
theorem t3:(false==true)=false:=rfl
theorem t4:(true==true)=true:=rfl
end
end
end Go.Proofs.Ytchnpgddpaonhaa.d
end
