/-
  TransferRisesSaid: part Qav of its proof.
-/
import Derived.Test.YtdkidgkiplcggaaGreatQau
import Derived.Test.YtdkidgkiplcggaaGreatRows
import Derived.Test.YtdkidgkiplcggaaGreatQar
import Derived.KernelRfl
set_option linter.unusedVariables false
set_option linter.unusedSimpArgs false
set_option maxRecDepth 100000
section
open Go.Proofs Go Go.Am Go.Op
namespace Go.Proofs.YtdkidgkiplcggaaGreat.d
section
def a0J(y:Int×Int):List D:=[.int .i64 y.1, .int .i64 y.2]
def b5q(arms:List (Int×Int)):D:= .lst (arms.map a0J) 2
def P8(y:In):List D:=[.int .u8 y.op, .int .i64 y.a, .int .i64 y.b,b5q y.arms]
def inD(y:In):D:= .agg (P8 y)
def c3C(y:In):List Int:=if isS y=true then b4n y else[]
section
variable{E:j2}{w0:j9}{S0 S:b8}{t:D}{bs ms:List Int}
@[simp] theorem b3n(arms:List (Int×Int)):m9 (b5q arms)=some (.int .i64 arms.length):=by simp[b5q]
theorem d1n{arms:List (Int×Int)}{i:Nat}{y:Int×Int}(h:arms[i]? =some y):o6 2 (b5q arms) (.int .i64 (i:Int))=some (.elt (a0J y) 0):=b1X (by rw[List.getElem?_map,h];rfl)
theorem c8c(h:b6A S0 t bs S){y:In}(ho:y.Ok)(h49:y.op=49)(hl:bs.length<2^30):j8 Tryz.prog E w0 b0v [t,inD y] S fun v S'=>
  ∃t' bs',v= .tup [t', .bool (decide (y.arms.length≤65535)&&y.arms.all (c3M (IntKind.u8.wrap y.a))&&Q6.may y.b)]∧b6A S0 t' bs' S'∧(y.arms.length≤65535→bs'=bs++(H8 y.arms.length 2++a3L y.arms++H8 y.b 4)):=by
 refine c4f ?_
 unfold c2X
 rw[inD,U9,oD]
 intro k0 a0 n0
 refine F0.use ?_
 rw[a4E (b4s _ _),oD]
 intro k5 a5 n5
 refine stP (ds:=[.int .i64 4,a0y 0 4294967295]) (b8.set_same _ _ _) (U9 _) ⟨rfl,by decide,by simp⟩ fun a5=> ?_
 rw[b8.set_set]
 obtain⟨ne5,n5'⟩:=b8.fresh n5
 have l0:∀ {S':b8},(S.set k0 ⟨(P8 y).length,[P8 y],a0⟩).le S'→∀i,c9 S' (.ptr k0 i)=(P8 y)[i]? :=fun h i=>ldP (h _ _ (b8.set_same _ _ _))
 rw[E2,oD,l0 (b8.le_new n5),show(P8 y)[0+1]? =some (.int .i64 y.a) from rfl,oD,cvI,oD]
 refine a1w.use ?_
 rw[a4E (c2M _),oD]
 intro k6 a6 n6
 refine stP (ds:=[.int .i64 8,a7r (IntKind.u8.wrap y.a)]) (b8.set_same _ _ _) (U9 _) ⟨rfl,by decide,by simp⟩ fun a6=> ?_
 rw[b8.set_set]
 have g0:=h.under (o:=⟨(P8 y).length,[P8 y],a0⟩) n0
 have g5:=g0.under (o:=⟨[D.int .i64 0, .nilFn].length,[l7 [D.int .i64 0, .nilFn] 0 [.int .i64 4,a0y 0 4294967295]],a5⟩) n5
 have g6:=g5.under (o:=⟨[D.int .i64 0, .nilFn].length,[l7 [D.int .i64 0, .nilFn] 0 [.int .i64 8,a7r (IntKind.u8.wrap y.a)]],a6⟩) n6
 have z0:S0 k0=none:=by
  cases e:S0 k0 with
  |none=>rfl
  |some o=>rw[h.le _ _ e]at n0;cases n0
 obtain⟨B,hB⟩:∃B,B=((S0.set k0 ⟨(P8 y).length,[P8 y],a0⟩).set k5 ⟨[D.int .i64 0, .nilFn].length,[l7 [D.int .i64 0, .nilFn] 0 [.int .i64 4,a0y 0 4294967295]],a5⟩).set k6 ⟨[D.int .i64 0, .nilFn].length,[l7 [D.int .i64 0, .nilFn] 0 [.int .i64 8,a7r (IntKind.u8.wrap y.a)]],a6⟩:=⟨_,rfl⟩
 rw[←hB]at g6
 generalize (((S.set k0 _).set k5 _).set k6 _)=S1 at g6 ⊢
 obtain⟨ne6,n6'⟩:=b8.fresh n6
 obtain⟨ne6',n6''⟩:=b8.fresh n6'
 have b0:B k0=some ⟨4,[P8 y],a0⟩:=by rw[hB,b8.set_ne _ _ _ (Ne.symm ne6'),b8.set_ne _ _ _ (Ne.symm ne5)];exact b8.set_same _ _ _
 have b5:B k5=some ⟨2,[[.int .i64 4,a0y 0 4294967295]],a5⟩:=by rw[hB,b8.set_ne _ _ _ (Ne.symm ne6)];exact b8.set_same _ _ _
 have b6:B k6=some ⟨2,[[.int .i64 8,a7r (IntKind.u8.wrap y.a)]],a6⟩:=by rw[hB];exact b8.set_same _ _ _
 have z5:S0 k5=none:=by
  cases e:S0 k5 with
  |none=>rfl
  |some o=>rw[h.le _ _ e]at n5';cases n5'
 have z6:S0 k6=none:=by
  cases e:S0 k6 with
  |none=>rfl
  |some o=>rw[h.le _ _ e]at n6'';cases n6''
 have hle:S0.le B:=by rw[hB];exact b8.le_set (b8.le_set (b8.le_new z0) z5) z6
 clear hB n0 n5 n5' n6 n6' n6'' g0 g5 l0
 have l0:∀ {S':b8},B.le S'→∀i,c9 S' (.ptr k0 i)=(P8 y)[i]? :=fun h i=>ldP (h _ _ b0)
 have l5:∀ {S':b8},B.le S'→i5 S' 2 (.ptr k5 0)=some (.agg [.int .i64 4,a0y 0 4294967295]):=fun h=>bx (h _ _ b5)
 have l6:∀ {S':b8},B.le S'→i5 S' 2 (.ptr k6 0)=some (.agg [.int .i64 8,a7r (IntKind.u8.wrap y.a)]):=fun h=>bx (h _ _ b6)
 have f5:c2k [.int .i64 4,a0y 0 4294967295] Q6:=⟨_,rfl, .bet _ _⟩
 have f6:c2k [.int .i64 8,a7r (IntKind.u8.wrap y.a)] (vF (IntKind.u8.wrap y.a)):=⟨_,rfl, .fit _⟩
 have hsh:=ho.short
 simp only[E2,oD,l0 g6.le,show(P8 y)[0+3]? =some (b5q y.arms) from rfl,b3n,a7w]
 rw[I6]
 refine⟨fun hbig=> ?_,fun hsm=> ?_⟩
 ·have c:decide (y.arms.length≤65535)=false:=decide_eq_false (by omega)
  refine d9.less (b8.le_trans hle g6.le) (d9.here ⟨.nilSlc,[], ?_, .inl ⟨rfl,rfl,rfl⟩,fun h=>by omega⟩)
  rw[c,Bool.false_and,Bool.false_and]
 have hsm:y.arms.length≤65535:=by omega
 rw[cvI,oD,c1k (by omega)]
 refine(a4s (s:=2) (by decide) (by decide)).use ?_
 refine(b5r g6 (by rw[u6];omega)).use fun t1 S2 g7=> ?_
 simp only[E2,oD,l0 g7.le,show(P8 y)[0+3]? =some (b5q y.arms) from rfl,b3n]
 refine c0D (I:=fun n x0 x3 x6 x7 x8 x33 x34 x35 S=>∃(B':b8) (j:Nat),B.le B'∧j+n=y.arms.length∧b6A B' x0 (bs++H8 y.arms.length 2++a3L (y.arms.take j)) S∧
   x3= .ptr k0 0∧x6= .ptr k5 0∧x7= .ptr k6 0∧x8= .bool ((y.arms.take j).all (c3M (IntKind.u8.wrap y.a)))∧x33=b5q y.arms∧x34= .int .i64 (y.arms.length:Int)∧x35= .int .i64 (j:Int)) ?_ (n:=y.arms.length)
  ⟨B,0,b8.le_refl _,by omega,by simpa [a3L]using g7,rfl,rfl,rfl,rfl,rfl,rfl,rfl⟩
 rintro n x0 _ _ _ _ _ _ _ S3 ⟨B',j,hB',hj,g8,rfl,rfl,rfl,rfl,rfl,rfl,rfl⟩
 unfold b0j
 have hle8:=b8.le_trans hB' g8.le
 have hbl:(bs++H8 y.arms.length 2++a3L (y.arms.take j)).length<2^40:=by
  simp only[List.length_append,u6,a3f,List.length_take]
  omega
 rw[H7,oD,I6]
 refine⟨fun hlt=> ?_,fun hge=> ?_⟩
 ·have hlt:j<y.arms.length:=by omega
  obtain⟨z,hz⟩:∃z,z=y.arms[j]:=⟨_,rfl⟩
  have hjz:y.arms[j]? =some z:=by rw[List.getElem?_eq_getElem hlt,hz]
  obtain⟨hz1,hz2⟩:=ho.arms z (by rw[hz];exact List.getElem_mem _)
  rw[d1n hjz,oD,laE,if_pos (by simp[a0J]),oD]
  intro k a nk
  refine stP (ds:=a0J z) (b8.set_same _ _ _) (U9 _) ⟨rfl,by decide,by simp[a0J]⟩ fun a=> ?_
  rw[b8.set_set]
  have hk:B.le (S3.set k ⟨[D.int .i64 0, .int .i64 0].length,[l7 [D.int .i64 0, .int .i64 0] 0 (a0J z)],a⟩):=b8.le_trans hle8 (b8.le_new nk)
  have g9:=g8.under (o:=⟨[D.int .i64 0, .int .i64 0].length,[l7 [D.int .i64 0, .int .i64 0] 0 (a0J z)],a⟩) nk
  have zk:B' k=none:=by
   cases e:B' k with
   |none=>rfl
   |some o=>rw[g8.le _ _ e]at nk;cases nk
  have lk:∀ {S':b8},(B'.set k ⟨[D.int .i64 0, .int .i64 0].length,[l7 [D.int .i64 0, .int .i64 0] 0 (a0J z)],a⟩).le S'→∀i,c9 S' (.ptr k i)=(a0J z)[i]? :=fun h i=>by
   rw[ldP (h _ _ (b8.set_same _ _ _))];rfl
  have hB9:B.le (B'.set k ⟨[D.int .i64 0, .int .i64 0].length,[l7 [D.int .i64 0, .int .i64 0] 0 (a0J z)],a⟩):=b8.le_trans hB' (b8.le_new zk)
  rw[l6 hk,oD,E2,oD,lk g9.le,show(a0J z)[0+0]? =some (.int .i64 z.1) from rfl,oD]
  refine(a4B g9 f6 hz1 (show 1≤8 by decide) (show 8≤8 by decide) hbl).use ?_
  rintro v S4 ⟨t4,rfl,g10⟩
  simp only[exD,List.getElem?_cons_zero,List.getElem?_cons_succ,oD]
  rw[l5 (b8.le_trans hB9 g10.le),oD,E2,oD,lk g10.le,show(a0J z)[0+1]? =some (.int .i64 z.2) from rfl,oD]
  refine(a4B g10 f5 hz2 (by decide) (by decide) (by simp only[List.length_append,u6,a3f,List.length_take]at hbl ⊢;have:(vF (IntKind.u8.wrap y.a)).size=8:=rfl;omega)).use ?_
  rintro v S5 ⟨t5,rfl,g11⟩
  simp only[exD,List.getElem?_cons_zero,List.getElem?_cons_succ,oD]
  have e1:∀p q r:Bool,(∀K:D→Prop,K (.bool (p&&q&&r))→b7 (f9 (d6 (.bool p) true) (some (.bool q))) fun v55=>b7 (q9 (.bool p) v55 (.bool false)) fun v56=>b7 (f9 (d6 v56 true) (some (.bool r))) fun v57=>b7 (q9 v56 v57 (.bool false)) fun v58=>K v58):=by
   intro p q r K hK
   cases p<;>cases q<;>cases r<;>simpa using hK
  refine e1 _ _ _ (fun v58=>b7 (i4 .add (.int .i64 (j:Int)) (.int .i64 1)) fun v59=>_) ?_
  rw[D7,oD,l8 (by omega) (by omega)]
  refine⟨n - 1,by omega,_,j+1,hB9,by omega, ?_,by trivial,by trivial,by trivial, ?_,by trivial,by trivial,by trivial⟩
  ·have:a3L (y.arms.take (j+1))=a3L (y.arms.take j)++(H8 z.1 8++H8 z.2 4):=by
    rw[List.take_add_one,hjz,Option.toList_some]
    simp[a3L,d5M,List.flatMap_append]
   rw[this, ←List.append_assoc, ←List.append_assoc]
   exact g11
  ·rw[List.take_add_one,hjz,Option.toList_some,List.all_append,List.all_cons,List.all_nil,Bool.and_true,d1T,Bool.and_assoc]
 ·have hj':j=y.arms.length:=by omega
  subst hj'
  rw[List.take_length]at g8 hbl ⊢
  rw[l5 hle8,oD,E2,oD,l0 hle8,show(P8 y)[0+2]? =some (.int .i64 y.b) from rfl,oD]
  refine(a4B g8 f5 ho.b (by decide) (by decide) hbl).use ?_
  rintro v S4 ⟨t4,rfl,g9⟩
  simp only[exD,List.getElem?_cons_zero,List.getElem?_cons_succ,oD]
  obtain⟨S5,hl5,g10⟩:=g9.base (b8.le_trans hle hB')
  have e1:∀p q:Bool,(∀K:D→Prop,K (.bool (p&&q))→b7 (f9 (d6 (.bool p) true) (some (.bool q))) fun v55=>b7 (q9 (.bool p) v55 (.bool false)) fun v56=>K v56):=by
   intro p q K hK
   cases p<;>cases q<;>simpa using hK
  refine e1 _ _ (fun v=>d9 E _ (.tup [t4,v]) S4) ?_
  refine d9.less hl5 (d9.here ⟨t4,_, ?_,g10,fun _=> ?_⟩)
  ·rw[decide_eq_true hsm,Bool.true_and]
  ·simp only[List.append_assoc];rfl
end
end
section
theorem c5e(y:In)(f:Fld):∀(l:List Fld) (i:Nat),a5b y i (l++[f])=a5b y i l++H8 (y.num (i+l.length)) f.size
 | [],i=>by simp[a5b]
 |g::l,i=>by
  rw[List.cons_append,a5b,a5b,c5e y f l (i+1),List.append_assoc,List.length_cons,show i+1+l.length=i+(l.length+1) by omega]
theorem c3b(y:In)(f:Fld):∀(l:List Fld) (i:Nat),a2o y i (l++[f])=(a2o y i l&&f.may (y.num (i+l.length)))
 | [],i=>by simp[a2o]
 |g::l,i=>by
  rw[List.cons_append,a2o,a2o,c3b y f l (i+1),Bool.and_assoc,List.length_cons,show i+1+l.length=i+(l.length+1) by omega]
theorem b5z(y:In):∀(l:List Fld) (i:Nat),(∀f∈l,f.size≤8)→(a5b y i l).length≤8*l.length
 | [],i,_=>by simp[a5b]
 |g::l,i,h=>by
  have:=b5z y l (i+1) fun f hf=>h f (List.mem_cons_of_mem _ hf)
  have:=h g List.mem_cons_self
  rw[a5b,List.length_append,u6,List.length_cons]
  omega
theorem c2k.load{row:List D}{f:Fld}(h:c2k row f):row.length=2:=by obtain⟨fv,rfl,_⟩:=h;rfl
section
variable{E:j2}{w0:j9}{S0 S:b8}{t:D}{bs:List Int}{y:In}
theorem d1K{B:b8}(h:b6A B t bs S)(hB:S0.le B){ok:Bool}(hok:isS y=ok)(hbs:ok=true→bs=b4n y):
  E8 E w0 (d9 E fun d' S'=>d'= .tup [bD (c3C y), .int .i64 (if isS y=true then 0 else 120)]∧S'=S0) (.bool ok) t S:=by
 unfold E8
 rw[unN,oD]
 cases ok with
 |false=>
  simp only[Bool.not_false,cdT]
  refine d9.less (b8.le_trans hB h.le) (d9.nilT (lp:=[]) (sz:=1) (d9.here ⟨?_,rfl⟩))
  rw[c3C,hok];rfl
 |true=>
  simp only[Bool.not_true,cdF]
  obtain⟨S',hl,hg⟩:=h.base hB
  refine d9.less hl (hg.finT (lp:=[]) (d9.here ⟨?_,rfl⟩))
  rw[c3C,hok,hbs rfl];rfl
theorem c4L(ho:y.Ok):K9 Tryz.prog E w0 a9W [inD y] (.tup [bD (c3C y), .int .i64 (if isS y=true then 0 else 120)]):=fun S=>by
 refine c0q ?_
 unfold b7E
 rw[inD,U9,oD]
 intro k0 a0 n0
 have b0:(S.set k0 ⟨4,[P8 y],a0⟩) k0=some ⟨4,[P8 y],a0⟩:=b8.set_same _ _ _
 have l0:∀ {S':b8},(S.set k0 ⟨(P8 y).length,[P8 y],a0⟩).le S'→∀i,c9 S' (.ptr k0 i)=(P8 y)[i]? :=fun h i=>ldP (h _ _ b0)
 have hle:S.le (S.set k0 ⟨(P8 y).length,[P8 y],a0⟩):=b8.le_new n0
 rw[E2,oD,l0 (b8.le_refl _),show(P8 y)[0+0]? =some (.int .u8 y.op) from rfl,oD]
 refine b4B.use ?_
 simp only[exD,List.getElem?_cons_zero,List.getElem?_cons_succ,oD]
 rw[l0 (b8.le_refl _),show(P8 y)[0+0]? =some (.int .u8 y.op) from rfl,oD]
 simp only[m8,clI,List.length_cons,List.length_nil,List.replicate,List.set]
 rw[if_pos (by decide)]
 refine G6 rfl ?_
 refine(b5r (bs:=[]) (ms:=[y.op]) (Grw.nil _ 1) (by simp)).use fun t1 S1 g1=> ?_
 rw[lnL,oD,a5L]
 obtain⟨l,hl⟩:∃l,l=(lay y.op).getD []:=⟨_,rfl⟩
 have hl2:l.length≤2:=by rw[hl];exact b5K
 have hgood:∀f∈l,b2z f:=by rw[hl];exact b8d _
 have hs8:∀f∈l,f.size≤8:=fun f hf=>a6A (hgood f hf)
 rw[←hl]
 refine b6y (I:=fun n x1 x4 x5 x6 x21 x22 x23 S'=>∃(B:b8) (j:Nat),(S.set k0 ⟨(P8 y).length,[P8 y],a0⟩).le B∧j+n=l.length∧b6A B x6 (y.op::a5b y 0 (l.take j)) S'∧
   x1= .ptr k0 0∧x4= .lst (a5c y.op) 2∧x5= .bool ((lay y.op).isSome&&a2o y 0 (l.take j))∧x21= .lst (a5c y.op) 2∧x22= .int .i64 (l.length:Int)∧x23= .int .i64 (j:Int)) ?_ (n:=l.length)
  ⟨_,0,b8.le_refl _,by omega,by simpa [a5b]using g1,rfl,rfl,by simp[a2o],rfl,rfl,rfl⟩
 rintro n _ _ _ x6 _ _ _ S2 ⟨B,j,hB,hj,g2,rfl,rfl,rfl,rfl,rfl,rfl⟩
 unfold a6h
 have hle2:=b8.le_trans hB g2.le
 rw[H7,oD,I6]
 refine⟨fun hlt=> ?_,fun hge=> ?_⟩
 ·have hlt:j<l.length:=by omega
  obtain⟨f,hf⟩:∃f,f=l[j]:=⟨_,rfl⟩
  have hjf:l[j]? =some f:=by rw[List.getElem?_eq_getElem hlt,hf]
  obtain⟨row,hrow,hfd⟩:=c8b (op:=y.op) (i:=j) (f:=f) (by rw[←hl];exact hjf)
  obtain⟨hg1,_⟩:=hgood f (by rw[hf];exact List.getElem_mem _)
  have hg8:=hs8 f (by rw[hf];exact List.getElem_mem _)
  have hrl:=hfd.load
  rw[b1X hrow,oD,laE,if_pos ⟨by decide,by omega⟩,oD,List.drop_zero,List.take_of_length_le (by omega)]
  intro k a nk
  have hcl:o3 (.agg row)=some row:=rfl
  refine stP (ds:=row) (b8.set_same _ _ _) (U9 _) ⟨hrl,by decide,by simp⟩ fun a=> ?_
  rw[b8.set_set]
  have hset:l7 [D.int .i64 0, .nilFn] 0 row=row:=by
   obtain⟨fv,rfl,_⟩:=hfd;rfl
  rw[hset]
  have g3:=g2.under (o:=⟨[D.int .i64 0, .nilFn].length,[row],a⟩) nk
  have zk:B k=none:=by
   cases e:B k with
   |none=>rfl
   |some o=>rw[g2.le _ _ e]at nk;cases nk
  have hB3:(S.set k0 ⟨(P8 y).length,[P8 y],a0⟩).le (B.set k ⟨[D.int .i64 0, .nilFn].length,[row],a⟩):=b8.le_trans hB (b8.le_new zk)
  have hnum:∀n',n'=y.num j→a3j E w0 (fun x1 x4 x5 x6 x21 x22 x23 S'=>∃m,m<n∧∃(B:b8) (j:Nat),(S.set k0 ⟨(P8 y).length,[P8 y],a0⟩).le B∧j+m=l.length∧b6A B x6 (y.op::a5b y 0 (l.take j)) S'∧
    x1= .ptr k0 0∧x4= .lst (a5c y.op) 2∧x5= .bool ((lay y.op).isSome&&a2o y 0 (l.take j))∧x21= .lst (a5c y.op) 2∧x22= .int .i64 (l.length:Int)∧x23= .int .i64 (j:Int))
    (d9 E fun d' S'=>d'= .tup [bD (c3C y), .int .i64 (if isS y=true then 0 else 120)]∧S'=S) (.ptr k0 0) (.lst (a5c y.op) 2) (.bool ((lay y.op).isSome&&a2o y 0 (l.take j))) x6 (.ptr k 0) (.int .i64 n') (.lst (a5c y.op) 2) (.int .i64 (l.length:Int)) (.int .i64 (j:Int))
    (S2.set k ⟨[D.int .i64 0, .nilFn].length,[row],a⟩):=by
   rintro _ rfl
   unfold a3j
   rw[laP (b8.set_same _ _ _) ⟨by decide,by omega⟩,oD,List.drop_zero,List.take_of_length_le (by omega)]
   have hi:I64 (y.num j):=by unfold In.num;split;exact ho.b;exact ho.a
   have hbl:=b5z y (l.take j) 0 fun f hf=>hs8 f (List.mem_of_mem_take hf)
   refine(a4B g3 hfd hi hg1 hg8 (by rw[List.length_cons];rw[List.length_take]at hbl;omega)).use ?_
   rintro v S4 ⟨t4,rfl,g4⟩
   simp only[exD,List.getElem?_cons_zero,List.getElem?_cons_succ,oD]
   have e1:∀p q:Bool,(∀K:D→Prop,K (.bool (p&&q))→b7 (f9 (d6 (.bool p) true) (some (.bool q))) fun v55=>b7 (q9 (.bool p) v55 (.bool false)) fun v56=>K v56):=by
    intro p q K hK
    cases p<;>cases q<;>simpa using hK
   refine e1 _ _ (fun v30=>b7 (i4 .add (.int .i64 (j:Int)) (.int .i64 1)) fun v31=>_) ?_
   rw[D7,oD,l8 (by omega) (by omega)]
   have htk:l.take (j+1)=l.take j++[f]:=by rw[List.take_add_one,hjf];rfl
   have hlj:(l.take j).length=j:=by rw[List.length_take];omega
   refine⟨n - 1,by omega,_,j+1,hB3,by omega, ?_,by trivial,by trivial, ?_,by trivial,by trivial,by trivial⟩
   ·rw[htk,c5e,hlj,Nat.zero_add, ←List.cons_append];exact g4
   ·rw[htk,c3b,hlj,Nat.zero_add,Bool.and_assoc]
  have hle3:(S.set k0 ⟨(P8 y).length,[P8 y],a0⟩).le (S2.set k ⟨[D.int .i64 0, .nilFn].length,[row],a⟩):=b8.le_trans hB3 g3.le
  rw[E2,oD,l0 hle3,show(P8 y)[0+1]? =some (.int .i64 y.a) from rfl,oD,a8b,oD,cdB]
  refine⟨fun h1=> ?_,fun h1=> ?_⟩
  ·rw[E2,oD,l0 hle3,show(P8 y)[0+2]? =some (.int .i64 y.b) from rfl,oD]
   have h1:j=1:=by have:(j:Int)=1:=by simpa using h1
                   omega
   exact hnum _ (by unfold In.num;rw[if_pos h1])
  ·have h1:¬j=1:=by have:¬(j:Int)=1:=by simpa using h1
                    omega
   exact hnum _ (by unfold In.num;rw[if_neg h1])
 ·have hj':j=l.length:=by omega
  subst hj'
  rw[List.take_length]at g2 ⊢
  have hisS:isS y=(((lay y.op).isSome&&a2o y 0 l)&&
    if y.op=49 then decide (y.arms.length≤65535)&&y.arms.all (c3M (IntKind.u8.wrap y.a))&&decide (0≤y.b∧y.b≤4294967295)
    else decide (y.arms.length=0)&&(decide (2≤l.length)||decide (y.b=0))&&(decide (1≤l.length)||decide (y.a=0))):=by rw[hl];rfl
  have henc:b4n y=y.op::a5b y 0 l++if y.op=49 then H8 y.arms.length 2++a3L y.arms++H8 y.b 4 else[]:=by rw[hl];rfl
  generalize hok:((lay y.op).isSome&&a2o y 0 l)=ok at hisS ⊢
  have hbl:=b5z y l 0 hs8
  have hSB:S.le B:=b8.le_trans hle hB
  rw[E2,oD,l0 hle2,show(P8 y)[0+0]? =some (.int .u8 y.op) from rfl,oD,a8b,oD]
  have nope:∀ {ok':Bool},isS y=ok'→(ok'=true→y.op::a5b y 0 l=b4n y)→E8 E w0 (d9 E fun d' S'=>d'= .tup [bD (c3C y), .int .i64 (if isS y=true then 0 else 120)]∧S'=S) (.bool ok') x6 S2:=fun h1 h2=>d1K g2 hSB h1 h2
  have ll3:c9 S2 (.ptr k0 3)=some (b5q y.arms):=l0 hle2 3
  have ll2:c9 S2 (.ptr k0 2)=some (.int .i64 y.b):=l0 hle2 2
  have ll1:c9 S2 (.ptr k0 1)=some (.int .i64 y.a):=l0 hle2 1
  obtain⟨p1,hp1⟩:∃p,decide ((y.arms.length:Int)>0)=p:=⟨_,rfl⟩
  obtain⟨p2,hp2⟩:∃p,decide ((l.length:Int)<2)=p:=⟨_,rfl⟩
  obtain⟨p3,hp3⟩:∃p,(y.b != 0)=p:=⟨_,rfl⟩
  obtain⟨p4,hp4⟩:∃p,decide ((l.length:Int)<1)=p:=⟨_,rfl⟩
  obtain⟨p5,hp5⟩:∃p,(y.a != 0)=p:=⟨_,rfl⟩
  have key:(decide (y.arms.length=0)&&(decide (2≤l.length)||decide (y.b=0))&&(decide (1≤l.length)||decide (y.a=0)))=(!p1&&(!p2|| !p3)&&(!p4|| !p5)):=by
   have q1:decide (y.arms.length=0)= !p1:=by rw[←hp1, ←decide_not];exact decide_eq_decide.2 (by omega)
   have q2:decide (2≤l.length)= !p2:=by rw[←hp2, ←decide_not];exact decide_eq_decide.2 (by omega)
   have q3:decide (y.b=0)= !p3:=by rw[←hp3];by_cases h:y.b=0<;>simp[h]
   have q4:decide (1≤l.length)= !p4:=by rw[←hp4, ←decide_not];exact decide_eq_decide.2 (by omega)
   have q5:decide (y.a=0)= !p5:=by rw[←hp5];by_cases h:y.a=0<;>simp[h]
   rw[q1,q2,q3,q4,q5]
  by_cases h49:y.op=49
  ·have e49:(y.op==49)=true:=by simp[h49]
   rw[if_pos h49]at hisS henc
   simp only[e49,M4,beq_self_eq_true,vdT,oD,M8,if_true]
   cases ok with
   |true=>
    simp only[cdT]
    rw[laP (hle2 _ _ b0) ⟨by decide,by simp[P8]⟩,oD]
    show j8 Tryz.prog E w0 b0v [x6,inD y] S2 _
    refine(c8c g2 ho h49 (by rw[List.length_cons];omega)).use ?_
    rintro v S3 ⟨t3,bs3,rfl,g3,hb3⟩
    simp only[exD,List.getElem?_cons_zero,List.getElem?_cons_succ,oD]
    refine d1K g3 hSB (by rw[hisS,Bool.true_and];rfl) fun h=> ?_
    simp only[Bool.and_eq_true,decide_eq_true_eq]at h
    rw[hb3 h.1.1,henc]
   |false=>
    have hn:=nope (ok':=false) (by rw[hisS,Bool.false_and]) (fun h=>by cases h)
    simp only[cdF,E2,oD,Nat.zero_add,ll3,b3n,a7w,lnL,a5L, ←hl,H7,hp1,hp2,hp4]
    cases p1<;>cases p2<;>cases p3<;>cases p4<;>cases p5<;>simp[ll1,ll2,hp3,hp5]<;>exact hn
  ·have e49:(y.op==49)=false:=by simp[h49]
   rw[if_neg h49]at hisS henc
   rw[List.append_nil]at henc
   rw[key]at hisS
   simp only[e49,M4,vdF,oD,M8,Bool.false_eq_true,if_false,cdF,show((false==true)=false) from rfl]
   simp only[E2,oD,Nat.zero_add,ll3,b3n,a7w,lnL,a5L, ←hl,H7,hp1,hp2,hp4]
   cases p1<;>cases p2<;>cases p3<;>cases p4<;>cases p5<;>simp[ll1,ll2,hp3,hp5]<;>exact nope (by rw[hisS];simp) (fun _=>henc.symm)
theorem c8M(ho:y.Ok):K9 Tryz.prog E w0 b5O [inD y] (.int .i64 ((c3C y).length:Int)):=fun S=>by
 refine c4t ?_
 unfold c3a
 rw[inD,U9,oD]
 intro k0 a0 n0
 rw[laP (b8.set_same _ _ _) ⟨by decide,by simp[P8]⟩,oD]
 refine(c4L ho).use ?_
 simp only[exD,List.getElem?_cons_zero,List.getElem?_cons_succ,oD,a2C]
 exact d9.drop n0 d9.pure
end
end
section
@[simp] theorem d9w(row:List D)(rows:List (List D))(sz:Nat):o6 sz (.lst (row::rows) sz) (.int .i64 0)=some (.elt row 0):=b1X (i:=0) rfl
@[simp] theorem d9q(a row:List D)(rows:List (List D))(sz:Nat):o6 sz (.lst (a::row::rows) sz) (.int .i64 1)=some (.elt row 0):=b1X (i:=1) rfl
theorem d0L(a b:Int):(a==b)=decide (a=b):=by by_cases h:a=b<;>simp[h]
end
end Go.Proofs.YtdkidgkiplcggaaGreat.d
end
section
open Go.Proofs Go Go.Am
namespace Go.Proofs.YtdkidgkiplcggaaGreat.d
def a5k:List (Nat×List Nat):=[(8,[0,1,5])]
def a5l:List (Nat×List Nat):=[]
def a5h:List (Nat×O6):=[]
noncomputable def a4p:Code:=(j7 [1,1,0,1,0,0] (Tryz.f22.body.getD .skip))
def a4i(E:j2)(w0:j9)(Q:D→b8→Prop):o8→List D→b8→Prop:=
 (q8 0 (H4 Tryz.prog E w0 a5k a5l a5h (j7 [1,1,1] (Tryz.f22.body.getD .skip)) (F5 Tryz.prog Tryz.f22 Q)))
def a3W(E:j2)(w0:j9)(N0:D→D→D→b8→Prop)(Q:D→b8→Prop)(x0 x1 x5:D)(S:b8):Prop:=
 b7 (m9 x0) fun v3=>
 b7 (i4 .lss x5 v3) fun v4=>
 i6 v4
 (b7 (o6 1 x0 x5) fun v5=>
 b7 (c9 S v5) fun v6=>
 b7 (o6 1 x1 x5) fun v7=>
 b7 (c9 S v7) fun v8=>
 b7 (i4 .neq v6 v8) fun v9=>
 i6 v9
 (Q (.bool false) S)
 (b7 (i4 .add x5 (.int .i64 1)) fun v10=>
 N0 x0 x1 v10 S))
 (Q (.bool true) S)
theorem b4a{E:j2}{w0:j9}{N0:D→D→D→b8→Prop}{Q:D→b8→Prop}{x0 x1 x5:D}{S:b8}(h:a3W E w0 N0 Q x0 x1 x5 S):
  j1 Tryz.prog E w0 a4p (m6 26 [0,1,5] [x0,x1,x5]) S (B0 (fun T S=>N0 (T.getD 0 b9) (T.getD 1 b9) (T.getD 5 b9) S) (a4i E w0 Q)):=j3 a5k a5l a5h mixed (by kernel_rfl) h
theorem b4c{E:j2}{w0:j9}{Q:D→b8→Prop}(I:Nat→D→D→D→b8→Prop)
  (step:∀n x0 x1 x5 S,I n x0 x1 x5 S→a3W E w0 (fun x0 x1 x5 S=>∃m,m<n∧I m x0 x1 x5 S) Q x0 x1 x5 S)
  {n:Nat} {x0 x1 x5:D} {S:b8} (h:I n x0 x1 x5 S):j1 Tryz.prog E w0 (.loop a4p) (m6 26 [0,1,5] [x0,x1,x5]) S (a4i E w0 Q):=
 o7 (k:=26) (n:=n) (I:=fun n T S=>I n (T.getD 0 b9) (T.getD 1 b9) (T.getD 5 b9) S) (fun n T S hl hI=>p8 [0,1,5] hl (j1.mono (b4a (step n _ _ _ S hI)) fun ex T' S' _ hq=>by cases ex<;>exact hq)) (m7 ..) (Eq.mp (by kernel_rfl) h)
def b1H(E:j2)(w0:j9)(Q:D→b8→Prop)(a0 a1:D)(S:b8):Prop:=
 b7 (m9 a0) fun v0=>
 b7 (m9 a1) fun v1=>
 b7 (i4 .neq v0 v1) fun v2=>
 i6 v2
 (Q (.bool false) S)
 (j1 Tryz.prog E w0 (.loop a4p) (m6 26 [0,1,5] [a0,a1,(.int .i64 0)]) S (a4i E w0 Q))
theorem b7W{E:j2}{w0:j9}{Q:D→b8→Prop}{a0 a1:D}{S:b8}(h:b1H E w0 (d9 E Q) a0 a1 S):j8 Tryz.prog E w0 Z0 [a0,a1] S Q:=
 j0 a5k a5l a5h (fn:=Tryz.f22) (c:=Tryz.f22.body.getD .skip) mixed Tryz.func22 (by kernel_rfl) (by kernel_rfl) h
def O2:List (Nat×List Nat):=[(6,[1,2,5,6]),(14,[1,2,5,6,7]),(22,[1,2,5,8]),(30,[1,2,5,9])]
def O3:List (Nat×List Nat):=[]
def O1:List (Nat×O6):=[]
noncomputable def b0I:Code:=(j7 [1,1,0,1,0,0,1,0,0,1,1,0,0] (Tryz.f20.body.getD .skip))
def a9M(E:j2)(w0:j9)(N0:D→D→D→D→b8→Prop)(Q:D→b8→Prop):o8→List D→b8→Prop:=
 (q8 2 (q8 1 (H4 Tryz.prog E w0 O2 O3 O1 (j7 [1,1,0,1,0,0,1,1] (Tryz.f20.body.getD .skip)) (B0 (fun T S=>N0 (T.getD 1 b9) (T.getD 2 b9) (T.getD 5 b9) (T.getD 6 b9) S) (q8 0 (H4 Tryz.prog E w0 O2 O3 O1 (j7 [1,1,1] (Tryz.f20.body.getD .skip)) (F5 Tryz.prog Tryz.f20 Q)))))))
def b0z(E:j2)(w0:j9)(N0:D→D→D→D→b8→Prop)(N1:D→D→D→D→D→b8→Prop)(Q:D→b8→Prop)(x1 x2 x5 x6 x7:D)(S:b8):Prop:=
 b7 (j4 0 x2) fun v35=>
 b7 (c9 S v35) fun v36=>
 b7 (o6 5 v36 x6) fun v37=>
 b7 (j4 2 v37) fun v38=>
 b7 (c9 S v38) fun v39=>
 b7 (m9 v39) fun v40=>
 b7 (i4 .lss x7 v40) fun v41=>
 b7 (f9 (d6 v41 true) (some x5)) fun v42=>
 b7 (f9 (d6 v41 true) (some x1)) fun v43=>
 b7 (f9 (d6 v41 true) (i4 .leq v42 v43)) fun v44=>
 b7 (q9 v41 v44 (.bool false)) fun v45=>
 i6 v45
 (b7 (j4 0 x2) fun v46=>
 b7 (c9 S v46) fun v47=>
 b7 (o6 5 v47 x6) fun v48=>
 b7 (j4 2 v48) fun v49=>
 b7 (c9 S v49) fun v50=>
 b7 (o6 2 v50 x7) fun v51=>
 b7 (j4 0 v51) fun v52=>
 b7 (c9 S v52) fun v53=>
 b7 (a4b v53) fun v54=>
 b7 (i4 .add x5 v54) fun v55=>
 b7 (i4 .add x7 (.int .i64 1)) fun v56=>
 N1 x1 x2 v55 x6 v56 S)
 (b7 (i4 .add x6 (.int .i64 1)) fun v57=>
 N0 x1 x2 x5 v57 S)
theorem c1f{E:j2}{w0:j9}{N0:D→D→D→D→b8→Prop}{N1:D→D→D→D→D→b8→Prop}{Q:D→b8→Prop}{x1 x2 x5 x6 x7:D}{S:b8}(h:b0z E w0 N0 N1 Q x1 x2 x5 x6 x7 S):
  j1 Tryz.prog E w0 b0I (m6 135 [1,2,5,6,7] [x1,x2,x5,x6,x7]) S (B0 (fun T S=>N1 (T.getD 1 b9) (T.getD 2 b9) (T.getD 5 b9) (T.getD 6 b9) (T.getD 7 b9) S) (a9M E w0 N0 Q)):=j3 O2 O3 O1 mixed (by kernel_rfl) h
theorem c1c{E:j2}{w0:j9}{N0:D→D→D→D→b8→Prop}{Q:D→b8→Prop}(I:Nat→D→D→D→D→D→b8→Prop)
  (step:∀n x1 x2 x5 x6 x7 S,I n x1 x2 x5 x6 x7 S→b0z E w0 N0 (fun x1 x2 x5 x6 x7 S=>∃m,m<n∧I m x1 x2 x5 x6 x7 S) Q x1 x2 x5 x6 x7 S)
  {n:Nat} {x1 x2 x5 x6 x7:D} {S:b8} (h:I n x1 x2 x5 x6 x7 S):j1 Tryz.prog E w0 (.loop b0I) (m6 135 [1,2,5,6,7] [x1,x2,x5,x6,x7]) S (a9M E w0 N0 Q):=
 o7 (k:=135) (n:=n) (I:=fun n T S=>I n (T.getD 1 b9) (T.getD 2 b9) (T.getD 5 b9) (T.getD 6 b9) (T.getD 7 b9) S) (fun n T S hl hI=>p8 [1,2,5,6,7] hl (j1.mono (c1f (step n _ _ _ _ _ S hI)) fun ex T' S' _ hq=>by cases ex<;>exact hq)) (m7 ..) (Eq.mp (by kernel_rfl) h)
noncomputable def a9P:Code:=(j7 [1,1,1,1,0,1,0,0] (Tryz.f20.body.getD .skip))
def a9q(E:j2)(w0:j9)(Q:D→b8→Prop):o8→List D→b8→Prop:=
 (q8 6 (H4 Tryz.prog E w0 O2 O3 O1 (j7 [1,1,1,1,1] (Tryz.f20.body.getD .skip)) (F5 Tryz.prog Tryz.f20 Q)))
def a9r(E:j2)(w0:j9)(N3:D→D→D→D→b8→Prop)(Q:D→b8→Prop)(x1 x2 x5 x9:D)(S:b8):Prop:=
 b7 (j4 2 x2) fun v73=>
 b7 (c9 S v73) fun v74=>
 b7 (m9 v74) fun v75=>
 b7 (i4 .lss x9 v75) fun v76=>
 b7 (f9 (d6 v76 true) (some x5)) fun v77=>
 b7 (f9 (d6 v76 true) (some x1)) fun v78=>
 b7 (f9 (d6 v76 true) (i4 .leq v77 v78)) fun v79=>
 b7 (q9 v76 v79 (.bool false)) fun v80=>
 i6 v80
 (b7 (j4 2 x2) fun v81=>
 b7 (c9 S v81) fun v82=>
 b7 (o6 6 v82 x9) fun v83=>
 b7 (i5 S 6 v83) fun v84=>
 j6 S [(.str []), .nilSlc, .nilSlc,(.int .i64 0),(.int .i64 0), .nilSlc] fun v85 S86=>
 i7 S86 6 v85 v84 fun v87 S88=>
 b7 (j4 0 v85) fun v89=>
 b7 (c9 S88 v89) fun v90=>
 b7 (a4b v90) fun v91=>
 b7 (i4 .add x5 v91) fun v92=>
 b7 (j4 1 v85) fun v93=>
 b7 (c9 S88 v93) fun v94=>
 b7 (m9 v94) fun v95=>
 b7 (i4 .add v92 v95) fun v96=>
 b7 (j4 2 v85) fun v97=>
 b7 (c9 S88 v97) fun v98=>
 b7 (m9 v98) fun v99=>
 b7 (i4 .add v96 v99) fun v100=>
 b7 (j4 5 v85) fun v101=>
 b7 (c9 S88 v101) fun v102=>
 b7 (m9 v102) fun v103=>
 b7 (i4 .add v100 v103) fun v104=>
 b7 (i4 .add x9 (.int .i64 1)) fun v105=>
 N3 x1 x2 v104 v105 S88)
 (Q x5 S)
theorem c0u{E:j2}{w0:j9}{N3:D→D→D→D→b8→Prop}{Q:D→b8→Prop}{x1 x2 x5 x9:D}{S:b8}(h:a9r E w0 N3 Q x1 x2 x5 x9 S):
  j1 Tryz.prog E w0 a9P (m6 135 [1,2,5,9] [x1,x2,x5,x9]) S (B0 (fun T S=>N3 (T.getD 1 b9) (T.getD 2 b9) (T.getD 5 b9) (T.getD 9 b9) S) (a9q E w0 Q)):=j3 O2 O3 O1 mixed (by kernel_rfl) h
theorem c0F{E:j2}{w0:j9}{Q:D→b8→Prop}(I:Nat→D→D→D→D→b8→Prop)
  (step:∀n x1 x2 x5 x9 S,I n x1 x2 x5 x9 S→a9r E w0 (fun x1 x2 x5 x9 S=>∃m,m<n∧I m x1 x2 x5 x9 S) Q x1 x2 x5 x9 S)
  {n:Nat} {x1 x2 x5 x9:D} {S:b8} (h:I n x1 x2 x5 x9 S):j1 Tryz.prog E w0 (.loop a9P) (m6 135 [1,2,5,9] [x1,x2,x5,x9]) S (a9q E w0 Q):=
 o7 (k:=135) (n:=n) (I:=fun n T S=>I n (T.getD 1 b9) (T.getD 2 b9) (T.getD 5 b9) (T.getD 9 b9) S) (fun n T S hl hI=>p8 [1,2,5,9] hl (j1.mono (c0u (step n _ _ _ _ S hI)) fun ex T' S' _ hq=>by cases ex<;>exact hq)) (m7 ..) (Eq.mp (by kernel_rfl) h)
noncomputable def b0f:Code:=(j7 [1,1,1,0,1,0,0] (Tryz.f20.body.getD .skip))
def a9V(E:j2)(w0:j9)(Q:D→b8→Prop):o8→List D→b8→Prop:=
 (q8 4 (H4 Tryz.prog E w0 O2 O3 O1 (j7 [1,1,1,1] (Tryz.f20.body.getD .skip)) (F5 Tryz.prog Tryz.f20 Q)))
def a9X(E:j2)(w0:j9)(N2:D→D→D→D→b8→Prop)(Q:D→b8→Prop)(x1 x2 x5 x8:D)(S:b8):Prop:=
 b7 (j4 1 x2) fun v58=>
 b7 (c9 S v58) fun v59=>
 b7 (m9 v59) fun v60=>
 b7 (i4 .lss x8 v60) fun v61=>
 b7 (f9 (d6 v61 true) (some x5)) fun v62=>
 b7 (f9 (d6 v61 true) (some x1)) fun v63=>
 b7 (f9 (d6 v61 true) (i4 .leq v62 v63)) fun v64=>
 b7 (q9 v61 v64 (.bool false)) fun v65=>
 i6 v65
 (b7 (j4 1 x2) fun v66=>
 b7 (c9 S v66) fun v67=>
 b7 (o6 1 v67 x8) fun v68=>
 b7 (c9 S v68) fun v69=>
 b7 (a4b v69) fun v70=>
 b7 (i4 .add x5 v70) fun v71=>
 b7 (i4 .add x8 (.int .i64 1)) fun v72=>
 N2 x1 x2 v71 v72 S)
 (j1 Tryz.prog E w0 (.loop a9P) (m6 135 [1,2,5,9] [x1,x2,x5,(.int .i64 0)]) S (a9q E w0 Q))
theorem c0h{E:j2}{w0:j9}{N2:D→D→D→D→b8→Prop}{Q:D→b8→Prop}{x1 x2 x5 x8:D}{S:b8}(h:a9X E w0 N2 Q x1 x2 x5 x8 S):
  j1 Tryz.prog E w0 b0f (m6 135 [1,2,5,8] [x1,x2,x5,x8]) S (B0 (fun T S=>N2 (T.getD 1 b9) (T.getD 2 b9) (T.getD 5 b9) (T.getD 8 b9) S) (a9V E w0 Q)):=j3 O2 O3 O1 mixed (by kernel_rfl) h
theorem c0i{E:j2}{w0:j9}{Q:D→b8→Prop}(I:Nat→D→D→D→D→b8→Prop)
  (step:∀n x1 x2 x5 x8 S,I n x1 x2 x5 x8 S→a9X E w0 (fun x1 x2 x5 x8 S=>∃m,m<n∧I m x1 x2 x5 x8 S) Q x1 x2 x5 x8 S)
  {n:Nat} {x1 x2 x5 x8:D} {S:b8} (h:I n x1 x2 x5 x8 S):j1 Tryz.prog E w0 (.loop b0f) (m6 135 [1,2,5,8] [x1,x2,x5,x8]) S (a9V E w0 Q):=
 o7 (k:=135) (n:=n) (I:=fun n T S=>I n (T.getD 1 b9) (T.getD 2 b9) (T.getD 5 b9) (T.getD 8 b9) S) (fun n T S hl hI=>p8 [1,2,5,8] hl (j1.mono (c0h (step n _ _ _ _ S hI)) fun ex T' S' _ hq=>by cases ex<;>exact hq)) (m7 ..) (Eq.mp (by kernel_rfl) h)
noncomputable def a9n:Code:=(j7 [1,1,0,1,0,0] (Tryz.f20.body.getD .skip))
def b0a(E:j2)(w0:j9)(Q:D→b8→Prop):o8→List D→b8→Prop:=
 (q8 0 (H4 Tryz.prog E w0 O2 O3 O1 (j7 [1,1,1] (Tryz.f20.body.getD .skip)) (F5 Tryz.prog Tryz.f20 Q)))
def a9L(E:j2)(w0:j9)(N0:D→D→D→D→b8→Prop)(Q:D→b8→Prop)(x1 x2 x5 x6:D)(S:b8):Prop:=
 b7 (j4 0 x2) fun v13=>
 b7 (c9 S v13) fun v14=>
 b7 (m9 v14) fun v15=>
 b7 (i4 .lss x6 v15) fun v16=>
 b7 (f9 (d6 v16 true) (some x5)) fun v17=>
 b7 (f9 (d6 v16 true) (some x1)) fun v18=>
 b7 (f9 (d6 v16 true) (i4 .leq v17 v18)) fun v19=>
 b7 (q9 v16 v19 (.bool false)) fun v20=>
 i6 v20
 (b7 (j4 0 x2) fun v21=>
 b7 (c9 S v21) fun v22=>
 b7 (o6 5 v22 x6) fun v23=>
 b7 (j4 1 v23) fun v24=>
 b7 (c9 S v24) fun v25=>
 b7 (a4b v25) fun v26=>
 b7 (i4 .add x5 v26) fun v27=>
 b7 (j4 0 x2) fun v28=>
 b7 (c9 S v28) fun v29=>
 b7 (o6 5 v29 x6) fun v30=>
 b7 (j4 2 v30) fun v31=>
 b7 (c9 S v31) fun v32=>
 b7 (m9 v32) fun v33=>
 b7 (i4 .add v27 v33) fun v34=>
 j1 Tryz.prog E w0 (.loop b0I) (m6 135 [1,2,5,6,7] [x1,x2,v34,x6,(.int .i64 0)]) S (a9M E w0 N0 Q))
 (j1 Tryz.prog E w0 (.loop b0f) (m6 135 [1,2,5,8] [x1,x2,x5,(.int .i64 0)]) S (a9V E w0 Q))
theorem c0G{E:j2}{w0:j9}{N0:D→D→D→D→b8→Prop}{Q:D→b8→Prop}{x1 x2 x5 x6:D}{S:b8}(h:a9L E w0 N0 Q x1 x2 x5 x6 S):
  j1 Tryz.prog E w0 a9n (m6 135 [1,2,5,6] [x1,x2,x5,x6]) S (B0 (fun T S=>N0 (T.getD 1 b9) (T.getD 2 b9) (T.getD 5 b9) (T.getD 6 b9) S) (b0a E w0 Q)):=j3 O2 O3 O1 mixed (by kernel_rfl) h
theorem c0T{E:j2}{w0:j9}{Q:D→b8→Prop}(I:Nat→D→D→D→D→b8→Prop)
  (step:∀n x1 x2 x5 x6 S,I n x1 x2 x5 x6 S→a9L E w0 (fun x1 x2 x5 x6 S=>∃m,m<n∧I m x1 x2 x5 x6 S) Q x1 x2 x5 x6 S)
  {n:Nat} {x1 x2 x5 x6:D} {S:b8} (h:I n x1 x2 x5 x6 S):j1 Tryz.prog E w0 (.loop a9n) (m6 135 [1,2,5,6] [x1,x2,x5,x6]) S (b0a E w0 Q):=
 o7 (k:=135) (n:=n) (I:=fun n T S=>I n (T.getD 1 b9) (T.getD 2 b9) (T.getD 5 b9) (T.getD 6 b9) S) (fun n T S hl hI=>p8 [1,2,5,6] hl (j1.mono (c0G (step n _ _ _ _ S hI)) fun ex T' S' _ hq=>by cases ex<;>exact hq)) (m7 ..) (Eq.mp (by kernel_rfl) h)
def c1U(E:j2)(w0:j9)(Q:D→b8→Prop)(a0 a1:D)(S:b8):Prop:=
 b7 (o3 a0) fun cs=>j6 S cs fun v0 S1=>
 b7 (j4 0 v0) fun v2=>
 b7 (c9 S1 v2) fun v3=>
 b7 (m9 v3) fun v4=>
 b7 (j4 1 v0) fun v5=>
 b7 (c9 S1 v5) fun v6=>
 b7 (m9 v6) fun v7=>
 b7 (i4 .add v4 v7) fun v8=>
 b7 (j4 2 v0) fun v9=>
 b7 (c9 S1 v9) fun v10=>
 b7 (m9 v10) fun v11=>
 b7 (i4 .add v8 v11) fun v12=>
 j1 Tryz.prog E w0 (.loop a9n) (m6 135 [1,2,5,6] [a1,v0,v12,(.int .i64 0)]) S1 (b0a E w0 Q)
theorem c4h{E:j2}{w0:j9}{Q:D→b8→Prop}{a0 a1:D}{S:b8}(h:c1U E w0 (d9 E Q) a0 a1 S):j8 Tryz.prog E w0 b0s [a0,a1] S Q:=
 j0 O2 O3 O1 (fn:=Tryz.f20) (c:=Tryz.f20.body.getD .skip) mixed Tryz.func20 (by kernel_rfl) (by kernel_rfl) h
end Go.Proofs.YtdkidgkiplcggaaGreat.d
end
section
open Go.Proofs Go Go.Am Go.Op
namespace Go.Proofs.YtdkidgkiplcggaaGreat.d
section
def iC(l:List Int):List (List D):=B4 (l.map (D.int .i64))
def iD(l:List Int):D:= .lst (iC l) 1
@[simp] theorem u4(l:List Int):(iC l).length=l.length:=by simp[iC]
theorem d1V{l:List Int}{i:Nat}{n:Int}(h:l[i]? =some n):(iC l)[i]? =some [.int .i64 n]:=a6q (by rw[List.getElem?_map,h];rfl)
theorem a7J{l:List Int}{i:Nat}{n:Int}(h:l[i]? =some n):o6 1 (iD l) (.int .i64 (i:Int))=some (.elt [.int .i64 n] 0):=b1X (d1V h)
@[simp] theorem Y7(l:List Int):m9 (iD l)=some (.int .i64 l.length):=by simp[iD]
@[simp] theorem c1n(S:b8)(l:List Int):rowsS S 1 (iD l)=some (iC l):=by simp[iD,rowsS,L5]
theorem a4n(a b:List Int):iC (a++b)=iC a++iC b:=by simp[iC,B4]
section
variable{E:j2}{w0:j9}
theorem b1e{a b:List Int}(hl:a.length<2^60)(hb:b.length<2^60):K9 Tryz.prog E w0 Z0 [iD a,iD b] (.bool (decide (a=b))):=fun S=>by
 refine b7W ?_
 unfold b1H
 simp only[Y7,oD,c4H]
 have e:((a.length:Int) != b.length)=decide (a.length≠b.length):=by
  by_cases h:a.length=b.length<;>simp[h,bne]
  intro h';exact h (by omega)
 rw[e,I6]
 refine⟨fun h=> ?_,fun h=> ?_⟩
 ·rw[decide_eq_false (fun e=>h (by rw[e]))]
  exact d9.pure
 have h:a.length=b.length:=by omega
 refine b4c (I:=fun n x0 x1 x5 S'=>S'=S∧x0=iD a∧x1=iD b∧∃i:Nat,x5= .int .i64 (i:Int)∧i+n=a.length∧a.take i=b.take i) ?_ (n:=a.length) ⟨rfl,rfl,rfl,0,rfl,by omega,rfl⟩
 rintro n _ _ _ _ ⟨rfl,rfl,rfl,i,rfl,hi,ht⟩
 unfold a3W
 simp only[Y7,oD,H7]
 rw[I6]
 refine⟨fun hlt=> ?_,fun hge=> ?_⟩
 ·have hlt:i<a.length:=by omega
  have ea:a[i]? =some a[i]:=List.getElem?_eq_getElem hlt
  have eb:b[i]? =some b[i]:=List.getElem?_eq_getElem (by omega)
  simp only[a7J ea,a7J eb,oD,lsE,List.getElem?_cons_zero,c4H]
  have e:(a[i] != b[i])=decide (a[i]≠b[i]):=by by_cases h:a[i]=b[i]<;>simp[h,bne]
  rw[e,I6]
  refine⟨fun hne=> ?_,fun he=> ?_⟩
  ·rw[decide_eq_false (fun e=>hne (by simp only[e]))]
   exact d9.pure
  ·rw[D7,oD,l8 (by omega) (by omega)]
   refine⟨n - 1,by omega,by trivial,by trivial,by trivial,i+1,rfl,by omega, ?_⟩
   rw[List.take_add_one,List.take_add_one,ht,ea,eb,Classical.not_not.1 he]
 ·rw[List.take_of_length_le (by omega),List.take_of_length_le (by omega)]at ht
  rw[decide_eq_true ht]
  exact d9.pure
end
end
section
def d5f(bs:List Int):List UInt8:=bs.map fun b=>UInt8.ofNat b.toNat
theorem d5a(l:List Int):(B4 (l.map (D.int .u8))).mapM c3t=some (d5f l):=by
 induction l with
 |nil=>rfl
 |cons b l ih=>
  have:(B4 ((b::l).map (D.int .u8)))=[D.int .u8 b]::B4 (l.map (D.int .u8)):=rfl
  rw[this,List.mapM_cons,ih]
  rfl
theorem d8o(S:b8)(l:List Int):c2g S (bD l)=some (.str (d5f l)):=by
 have:L5 S 1 (bD l)=some (B4 (l.map (D.int .u8))):=by simp[bD,L5]
 simp only[c2g,this,d5a,Option.map_some]
@[simp] theorem d7N(S:b8)(arms:List (Int×Int)):rowsS S 2 (b5q arms)=some (arms.map a0J):=by simp[b5q,rowsS,L5]
theorem d6a(a b:Int):(a != b)=decide (a≠b):=by by_cases h:a=b<;>simp[h,bne]
section
variable{E:j2}{w0:j9}
end
end
section
abbrev Tx:=List UInt8
structure Ty where
 kind:Int
 name:Tx
 fields:List (Tx×Int)
 elem:Int
 len:Int
 deriving DecidableEq
structure Ro where
 name:Tx
 params:List Int
 results:List Int
 locals:Int
 stack:Int
 code:List Int
 deriving DecidableEq
structure Mo where
 types:List Ty
 texts:List Tx
 funcs:List Ro
 deriving DecidableEq
structure Ty.Ok (t:Ty):Prop where
 kind:0≤t.kind∧t.kind≤255
 name:t.name.length<2^47
 fields:t.fields.length<2^47
 names:∀f∈t.fields,f.1.length<2^47∧I64 f.2
 elem:I64 t.elem
 len:I64 t.len
structure Ro.Ok (r:Ro):Prop where
 name:r.name.length<2^47
 params:r.params.length<2^47
 results:r.results.length<2^47
 ints:∀n∈r.params++r.results,I64 n
 locals:I64 r.locals
 stack:I64 r.stack
 code:r.code.length<2^47
 bytes:∀b∈r.code,a1m b
structure Mo.Ok (m:Mo):Prop where
 types:m.types.length<2^47
 texts:m.texts.length<2^47
 funcs:m.funcs.length<2^47
 ty:∀t∈m.types,t.Ok
 tx:∀t∈m.texts,t.length<2^47
 ro:∀r∈m.funcs,r.Ok
def a1F(f:Tx×Int):List D:=[.str f.1, .int .i64 f.2]
def a3a(fs:List (Tx×Int)):D:= .lst (fs.map a1F) 2
def W6(t:Ty):List D:=[.int .u8 t.kind, .str t.name,a3a t.fields, .int .i64 t.elem, .int .i64 t.len]
def b0l(l:List Ty):D:= .lst (l.map W6) 5
def b1r(l:List Tx):D:= .lst (B4 (l.map D.str)) 1
def L8(r:Ro):List D:=[.str r.name,iD r.params,iD r.results, .int .i64 r.locals, .int .i64 r.stack,bD r.code]
def a9d(l:List Ro):D:= .lst (l.map L8) 6
def M3(m:Mo):List D:=[b0l m.types,b1r m.texts,a9d m.funcs]
def moD(m:Mo):D:= .agg (M3 m)
theorem b3b{l:List (Tx×Int)}{i:Nat}{y:Tx×Int}(h:l[i]? =some y):o6 2 (a3a l) (.int .i64 (i:Int))=some (.elt (a1F y) 0):=b1X (by rw[List.getElem?_map,h];rfl)
theorem b6r{l:List Ty}{i:Nat}{y:Ty}(h:l[i]? =some y):o6 5 (b0l l) (.int .i64 (i:Int))=some (.elt (W6 y) 0):=b1X (by rw[List.getElem?_map,h];rfl)
theorem c5Z{l:List Tx}{i:Nat}{y:Tx}(h:l[i]? =some y):o6 1 (b1r l) (.int .i64 (i:Int))=some (.elt [.str y] 0):=b1X (a6q (by rw[List.getElem?_map,h];rfl))
theorem b3O{l:List Ro}{i:Nat}{y:Ro}(h:l[i]? =some y):o6 6 (a9d l) (.int .i64 (i:Int))=some (.elt (L8 y) 0):=b1X (by rw[List.getElem?_map,h];rfl)
@[simp] theorem a1Q(l:List (Tx×Int)):m9 (a3a l)=some (.int .i64 l.length):=by simp[a3a]
@[simp] theorem a6k(l:List Ty):m9 (b0l l)=some (.int .i64 l.length):=by simp[b0l]
@[simp] theorem a8N(l:List Tx):m9 (b1r l)=some (.int .i64 l.length):=by simp[b1r]
@[simp] theorem a6Y(l:List Ro):m9 (a9d l)=some (.int .i64 l.length):=by simp[a9d]
@[simp] theorem d4a(S:b8)(p:Tx×Int):i5 S 2 (.elt (a1F p) 0)=some (.agg (a1F p)):=(rfl)
@[simp] theorem d7c(S:b8)(p:Ty):i5 S 5 (.elt (W6 p) 0)=some (.agg (W6 p)):=(rfl)
@[simp] theorem d7m(S:b8)(p:Ro):i5 S 6 (.elt (L8 p) 0)=some (.agg (L8 p)):=(rfl)
theorem d8Q(a b:Tx):(a==b)=decide (a=b):=by by_cases h:a=b<;>simp[h]
theorem a3s(k:IntKind)(a b:Int):i4 .neq (.int k a) (.int k b)=some (.bool (decide (a≠b))):=by rw[c4H,d6a]
theorem Q2(k:IntKind)(a b:Int):i4 .eql (.int k a) (.int k b)=some (.bool (decide (a=b))):=by rw[a8b,d0L]
section
variable{E:j2}{w0:j9}
theorem t1:(true==false)=false:=rfl
theorem t2:(false==false)=true:=rfl
theorem t3:(false==true)=false:=rfl
theorem t4:(true==true)=true:=rfl
end
end
end Go.Proofs.YtdkidgkiplcggaaGreat.d
end
