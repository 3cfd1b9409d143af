/-
  ImageBackSaid: part Kau of its proof.
-/
import Derived.Test.YtchnpgddpaonhaaKat
import Derived.Test.YtchnpgddpaonhaaRows
import Derived.Test.YtchnpgddpaonhaaKaq
import Derived.KernelRfl
set_option linter.unusedVariables false
set_option linter.unusedSimpArgs false
set_option maxRecDepth 100000
section
open Go.Proofs Go Go.Am Go.Op
namespace Go.Proofs.Ytchnpgddpaonhaa.d
section
def a2I(y:Int×Int):List D:=[.int .i64 y.1, .int .i64 y.2]
def b8q(arms:List (Int×Int)):D:= .lst (arms.map a2I) 2
def inC(y:In):List D:=[.int .u8 y.op, .int .i64 y.a, .int .i64 y.b,b8q y.arms]
def inD(y:In):D:= .agg (inC y)
def c1e(y:In):List Int:=if isS y=true then b3W y else[]
section
variable{E:m7}{w0:o0}{S0 S:b7}{t:D}{bs ms:List Int}
@[simp] theorem b5H(arms:List (Int×Int)):p7 (b8q arms)=some (.int .i64 arms.length):=by simp[b8q]
theorem d3G{arms:List (Int×Int)}{i:Nat}{y:Int×Int}(h:arms[i]? =some y):A0 2 (b8q arms) (.int .i64 (i:Int))=some (.elt (a2I y) 0):=b5P (by rw[List.getElem?_map,h];rfl)
theorem c6m(h:b6Z S0 t bs S){y:In}(ho:y.Ok)(h49:y.op=49)(hl:bs.length<2^30):o5 Try.prog E w0 a9b [t,inD y] S fun v S'=>
  ∃t' bs',v= .tup [t', .bool (decide (y.arms.length≤65535)&&y.arms.all (c3V (IntKind.u8.wrap y.a))&&R6.may y.b)]∧b6Z S0 t' bs' S'∧(y.arms.length≤65535→bs'=bs++(F6 y.arms.length 2++a3L y.arms++F6 y.b 4)):=by
 refine c2W ?_
 unfold c2A
 rw[inD,clA,oD]
 intro k0 a0 n0
 refine G3.use ?_
 rw[a4T (b3X _ _),oD]
 intro k5 a5 n5
 refine stP (ds:=[.int .i64 4,a0B 0 4294967295]) (b7.set_same _ _ _) (clA _) ⟨rfl,by decide,by simp⟩ fun a5=> ?_
 rw[b7.set_set]
 obtain⟨ne5,n5'⟩:=b7.fresh n5
 have l0:∀ {S':b7},(S.set k0 ⟨(inC y).length,[inC y],a0⟩).le S'→∀i,b9 S' (.ptr k0 i)=(inC y)[i]? :=fun h i=>ldP (h _ _ (b7.set_same _ _ _))
 rw[H5,oD,l0 (b7.le_new n5),show(inC y)[0+1]? =some (.int .i64 y.a) from rfl,oD,cvI,oD]
 refine a1k.use ?_
 rw[a4T (c2b _),oD]
 intro k6 a6 n6
 refine stP (ds:=[.int .i64 8,a7b (IntKind.u8.wrap y.a)]) (b7.set_same _ _ _) (clA _) ⟨rfl,by decide,by simp⟩ fun a6=> ?_
 rw[b7.set_set]
 have g0:=h.under (o:=⟨(inC y).length,[inC y],a0⟩) n0
 have g5:=g0.under (o:=⟨[D.int .i64 0, .nilFn].length,[o8 [D.int .i64 0, .nilFn] 0 [.int .i64 4,a0B 0 4294967295]],a5⟩) n5
 have g6:=g5.under (o:=⟨[D.int .i64 0, .nilFn].length,[o8 [D.int .i64 0, .nilFn] 0 [.int .i64 8,a7b (IntKind.u8.wrap y.a)]],a6⟩) n6
 have z0:S0 k0=none:=by
  cases e:S0 k0 with
  |none=>rfl
  |some o=>rw[h.le _ _ e]at n0;cases n0
 obtain⟨B,hB⟩:∃B,B=((S0.set k0 ⟨(inC y).length,[inC y],a0⟩).set k5 ⟨[D.int .i64 0, .nilFn].length,[o8 [D.int .i64 0, .nilFn] 0 [.int .i64 4,a0B 0 4294967295]],a5⟩).set k6 ⟨[D.int .i64 0, .nilFn].length,[o8 [D.int .i64 0, .nilFn] 0 [.int .i64 8,a7b (IntKind.u8.wrap y.a)]],a6⟩:=⟨_,rfl⟩
 rw[←hB]at g6
 generalize (((S.set k0 _).set k5 _).set k6 _)=S1 at g6 ⊢
 obtain⟨ne6,n6'⟩:=b7.fresh n6
 obtain⟨ne6',n6''⟩:=b7.fresh n6'
 have b0:B k0=some ⟨4,[inC y],a0⟩:=by rw[hB,b7.set_ne _ _ _ (Ne.symm ne6'),b7.set_ne _ _ _ (Ne.symm ne5)];exact b7.set_same _ _ _
 have b5:B k5=some ⟨2,[[.int .i64 4,a0B 0 4294967295]],a5⟩:=by rw[hB,b7.set_ne _ _ _ (Ne.symm ne6)];exact b7.set_same _ _ _
 have b6:B k6=some ⟨2,[[.int .i64 8,a7b (IntKind.u8.wrap y.a)]],a6⟩:=by rw[hB];exact b7.set_same _ _ _
 have z5:S0 k5=none:=by
  cases e:S0 k5 with
  |none=>rfl
  |some o=>rw[h.le _ _ e]at n5';cases n5'
 have z6:S0 k6=none:=by
  cases e:S0 k6 with
  |none=>rfl
  |some o=>rw[h.le _ _ e]at n6'';cases n6''
 have hle:S0.le B:=by rw[hB];exact b7.le_set (b7.le_set (b7.le_new z0) z5) z6
 clear hB n0 n5 n5' n6 n6' n6'' g0 g5 l0
 have l0:∀ {S':b7},B.le S'→∀i,b9 S' (.ptr k0 i)=(inC y)[i]? :=fun h i=>ldP (h _ _ b0)
 have l5:∀ {S':b7},B.le S'→j0 S' 2 (.ptr k5 0)=some (.agg [.int .i64 4,a0B 0 4294967295]):=fun h=>bx (h _ _ b5)
 have l6:∀ {S':b7},B.le S'→j0 S' 2 (.ptr k6 0)=some (.agg [.int .i64 8,a7b (IntKind.u8.wrap y.a)]):=fun h=>bx (h _ _ b6)
 have f5:c1h [.int .i64 4,a0B 0 4294967295] R6:=⟨_,rfl, .bet _ _⟩
 have f6:c1h [.int .i64 8,a7b (IntKind.u8.wrap y.a)] (vF (IntKind.u8.wrap y.a)):=⟨_,rfl, .fit _⟩
 have hsh:=ho.short
 simp only[H5,oD,l0 g6.le,show(inC y)[0+3]? =some (b8q y.arms) from rfl,b5H,a3U]
 rw[J6]
 refine⟨fun hbig=> ?_,fun hsm=> ?_⟩
 ·have c:decide (y.arms.length≤65535)=false:=decide_eq_false (by omega)
  refine d9.less (b7.le_trans hle g6.le) (d9.here ⟨.nilSlc,[], ?_, .inl ⟨rfl,rfl,rfl⟩,fun h=>by omega⟩)
  rw[c,Bool.false_and,Bool.false_and]
 have hsm:y.arms.length≤65535:=by omega
 rw[cvI,oD,b5w (by omega)]
 refine(a4j (s:=2) (by decide) (by decide)).use ?_
 refine(b4Z g6 (by rw[u4];omega)).use fun t1 S2 g7=> ?_
 simp only[H5,oD,l0 g7.le,show(inC y)[0+3]? =some (b8q y.arms) from rfl,b5H]
 refine b9R (I:=fun n x0 x3 x6 x7 x8 x33 x34 x35 S=>∃(B':b7) (j:Nat),B.le B'∧j+n=y.arms.length∧b6Z B' x0 (bs++F6 y.arms.length 2++a3L (y.arms.take j)) S∧
   x3= .ptr k0 0∧x6= .ptr k5 0∧x7= .ptr k6 0∧x8= .bool ((y.arms.take j).all (c3V (IntKind.u8.wrap y.a)))∧x33=b8q y.arms∧x34= .int .i64 (y.arms.length:Int)∧x35= .int .i64 (j:Int)) ?_ (n:=y.arms.length)
  ⟨B,0,b7.le_refl _,by omega,by simpa [a3L]using g7,rfl,rfl,rfl,rfl,rfl,rfl,rfl⟩
 rintro n x0 _ _ _ _ _ _ _ S3 ⟨B',j,hB',hj,g8,rfl,rfl,rfl,rfl,rfl,rfl,rfl⟩
 unfold a8Y
 have hle8:=b7.le_trans hB' g8.le
 have hbl:(bs++F6 y.arms.length 2++a3L (y.arms.take j)).length<2^40:=by
  simp only[List.length_append,u4,a2U,List.length_take]
  omega
 rw[J0,oD,J6]
 refine⟨fun hlt=> ?_,fun hge=> ?_⟩
 ·have hlt:j<y.arms.length:=by omega
  obtain⟨z,hz⟩:∃z,z=y.arms[j]:=⟨_,rfl⟩
  have hjz:y.arms[j]? =some z:=by rw[List.getElem?_eq_getElem hlt,hz]
  obtain⟨hz1,hz2⟩:=ho.arms z (by rw[hz];exact List.getElem_mem _)
  rw[d3G hjz,oD,laE,if_pos (by simp[a2I]),oD]
  intro k a nk
  refine stP (ds:=a2I z) (b7.set_same _ _ _) (clA _) ⟨rfl,by decide,by simp[a2I]⟩ fun a=> ?_
  rw[b7.set_set]
  have hk:B.le (S3.set k ⟨[D.int .i64 0, .int .i64 0].length,[o8 [D.int .i64 0, .int .i64 0] 0 (a2I z)],a⟩):=b7.le_trans hle8 (b7.le_new nk)
  have g9:=g8.under (o:=⟨[D.int .i64 0, .int .i64 0].length,[o8 [D.int .i64 0, .int .i64 0] 0 (a2I z)],a⟩) nk
  have zk:B' k=none:=by
   cases e:B' k with
   |none=>rfl
   |some o=>rw[g8.le _ _ e]at nk;cases nk
  have lk:∀ {S':b7},(B'.set k ⟨[D.int .i64 0, .int .i64 0].length,[o8 [D.int .i64 0, .int .i64 0] 0 (a2I z)],a⟩).le S'→∀i,b9 S' (.ptr k i)=(a2I z)[i]? :=fun h i=>by
   rw[ldP (h _ _ (b7.set_same _ _ _))];rfl
  have hB9:B.le (B'.set k ⟨[D.int .i64 0, .int .i64 0].length,[o8 [D.int .i64 0, .int .i64 0] 0 (a2I z)],a⟩):=b7.le_trans hB' (b7.le_new zk)
  rw[l6 hk,oD,H5,oD,lk g9.le,show(a2I z)[0+0]? =some (.int .i64 z.1) from rfl,oD]
  refine(a4k g9 f6 hz1 (show 1≤8 by decide) (show 8≤8 by decide) hbl).use ?_
  rintro v S4 ⟨t4,rfl,g10⟩
  simp only[exD,List.getElem?_cons_zero,List.getElem?_cons_succ,oD]
  rw[l5 (b7.le_trans hB9 g10.le),oD,H5,oD,lk g10.le,show(a2I z)[0+1]? =some (.int .i64 z.2) from rfl,oD]
  refine(a4k g10 f5 hz2 (by decide) (by decide) (by simp only[List.length_append,u4,a2U,List.length_take]at hbl ⊢;have:(vF (IntKind.u8.wrap y.a)).size=8:=rfl;omega)).use ?_
  rintro v S5 ⟨t5,rfl,g11⟩
  simp only[exD,List.getElem?_cons_zero,List.getElem?_cons_succ,oD]
  have e1:∀p q r:Bool,(∀K:D→Prop,K (.bool (p&&q&&r))→a9 (f0 (d6 (.bool p) true) (some (.bool q))) fun v55=>a9 (t8 (.bool p) v55 (.bool false)) fun v56=>a9 (f0 (d6 v56 true) (some (.bool r))) fun v57=>a9 (t8 v56 v57 (.bool false)) fun v58=>K v58):=by
   intro p q r K hK
   cases p<;>cases q<;>cases r<;>simpa using hK
  refine e1 _ _ _ (fun v58=>a9 (d8 .add (.int .i64 (j:Int)) (.int .i64 1)) fun v59=>_) ?_
  rw[C4,oD,m8 (by omega) (by omega)]
  refine⟨n - 1,by omega,_,j+1,hB9,by omega, ?_,by trivial,by trivial,by trivial, ?_,by trivial,by trivial,by trivial⟩
  ·have:a3L (y.arms.take (j+1))=a3L (y.arms.take j)++(F6 z.1 8++F6 z.2 4):=by
    rw[List.take_add_one,hjz,Option.toList_some]
    simp[a3L,d3p,List.flatMap_append]
   rw[this, ←List.append_assoc, ←List.append_assoc]
   exact g11
  ·rw[List.take_add_one,hjz,Option.toList_some,List.all_append,List.all_cons,List.all_nil,Bool.and_true,c9B,Bool.and_assoc]
 ·have hj':j=y.arms.length:=by omega
  subst hj'
  rw[List.take_length]at g8 hbl ⊢
  rw[l5 hle8,oD,H5,oD,l0 hle8,show(inC y)[0+2]? =some (.int .i64 y.b) from rfl,oD]
  refine(a4k g8 f5 ho.b (by decide) (by decide) hbl).use ?_
  rintro v S4 ⟨t4,rfl,g9⟩
  simp only[exD,List.getElem?_cons_zero,List.getElem?_cons_succ,oD]
  obtain⟨S5,hl5,g10⟩:=g9.base (b7.le_trans hle hB')
  have e1:∀p q:Bool,(∀K:D→Prop,K (.bool (p&&q))→a9 (f0 (d6 (.bool p) true) (some (.bool q))) fun v55=>a9 (t8 (.bool p) v55 (.bool false)) fun v56=>K v56):=by
   intro p q K hK
   cases p<;>cases q<;>simpa using hK
  refine e1 _ _ (fun v=>d9 E _ (.tup [t4,v]) S4) ?_
  refine d9.less hl5 (d9.here ⟨t4,_, ?_,g10,fun _=> ?_⟩)
  ·rw[decide_eq_true hsm,Bool.true_and]
  ·simp only[List.append_assoc];rfl
end
end
section
theorem c3A(y:In)(f:Fld):∀(l:List Fld) (i:Nat),a4O y i (l++[f])=a4O y i l++F6 (y.num (i+l.length)) f.size
 | [],i=>by simp[a4O]
 |g::l,i=>by
  rw[List.cons_append,a4O,a4O,c3A y f l (i+1),List.append_assoc,List.length_cons,show i+1+l.length=i+(l.length+1) by omega]
theorem c0A(y:In)(f:Fld):∀(l:List Fld) (i:Nat),a3i y i (l++[f])=(a3i y i l&&f.may (y.num (i+l.length)))
 | [],i=>by simp[a3i]
 |g::l,i=>by
  rw[List.cons_append,a3i,a3i,c0A y f l (i+1),Bool.and_assoc,List.length_cons,show i+1+l.length=i+(l.length+1) by omega]
theorem b5p(y:In):∀(l:List Fld) (i:Nat),(∀f∈l,f.size≤8)→(a4O y i l).length≤8*l.length
 | [],i,_=>by simp[a4O]
 |g::l,i,h=>by
  have:=b5p y l (i+1) fun f hf=>h f (List.mem_cons_of_mem _ hf)
  have:=h g List.mem_cons_self
  rw[a4O,List.length_append,u4,List.length_cons]
  omega
theorem c1h.load{row:List D}{f:Fld}(h:c1h row f):row.length=2:=by obtain⟨fv,rfl,_⟩:=h;rfl
section
variable{E:m7}{w0:o0}{S0 S:b7}{t:D}{bs:List Int}{y:In}
theorem c9H{B:b7}(h:b6Z B t bs S)(hB:S0.le B){ok:Bool}(hok:isS y=ok)(hbs:ok=true→bs=b3W y):
  F9 E w0 (d9 E fun d' S'=>d'= .tup [bD (c1e y), .int .i64 (if isS y=true then 0 else 120)]∧S'=S0) (.bool ok) t S:=by
 unfold F9
 rw[unN,oD]
 cases ok with
 |false=>
  simp only[Bool.not_false,cdT]
  refine d9.less (b7.le_trans hB h.le) (d9.nilT (lp:=[]) (sz:=1) (d9.here ⟨?_,rfl⟩))
  rw[c1e,hok];rfl
 |true=>
  simp only[Bool.not_true,cdF]
  obtain⟨S',hl,hg⟩:=h.base hB
  refine d9.less hl (hg.finT (lp:=[]) (d9.here ⟨?_,rfl⟩))
  rw[c1e,hok,hbs rfl];rfl
theorem c2X(ho:y.Ok):X6 Try.prog E w0 a8V [inD y] (.tup [bD (c1e y), .int .i64 (if isS y=true then 0 else 120)]):=fun S=>by
 refine b9a ?_
 unfold b6W
 rw[inD,clA,oD]
 intro k0 a0 n0
 have b0:(S.set k0 ⟨4,[inC y],a0⟩) k0=some ⟨4,[inC y],a0⟩:=b7.set_same _ _ _
 have l0:∀ {S':b7},(S.set k0 ⟨(inC y).length,[inC y],a0⟩).le S'→∀i,b9 S' (.ptr k0 i)=(inC y)[i]? :=fun h i=>ldP (h _ _ b0)
 have hle:S.le (S.set k0 ⟨(inC y).length,[inC y],a0⟩):=b7.le_new n0
 rw[H5,oD,l0 (b7.le_refl _),show(inC y)[0+0]? =some (.int .u8 y.op) from rfl,oD]
 refine b4j.use ?_
 simp only[exD,List.getElem?_cons_zero,List.getElem?_cons_succ,oD]
 rw[l0 (b7.le_refl _),show(inC y)[0+0]? =some (.int .u8 y.op) from rfl,oD]
 simp only[q9,clI,List.length_cons,List.length_nil,List.replicate,List.set]
 rw[if_pos (by decide)]
 refine P8 rfl ?_
 refine(b4Z (bs:=[]) (ms:=[y.op]) (Grw.nil _ 1) (by simp)).use fun t1 S1 g1=> ?_
 rw[lnL,oD,a5B]
 obtain⟨l,hl⟩:∃l,l=(lay y.op).getD []:=⟨_,rfl⟩
 have hl2:l.length≤2:=by rw[hl];exact b5g
 have hgood:∀f∈l,b1L f:=by rw[hl];exact b8i _
 have hs8:∀f∈l,f.size≤8:=fun f hf=>a6g (hgood f hf)
 rw[←hl]
 refine b6r (I:=fun n x1 x4 x5 x6 x21 x22 x23 S'=>∃(B:b7) (j:Nat),(S.set k0 ⟨(inC y).length,[inC y],a0⟩).le B∧j+n=l.length∧b6Z B x6 (y.op::a4O y 0 (l.take j)) S'∧
   x1= .ptr k0 0∧x4= .lst (a4L y.op) 2∧x5= .bool ((lay y.op).isSome&&a3i y 0 (l.take j))∧x21= .lst (a4L y.op) 2∧x22= .int .i64 (l.length:Int)∧x23= .int .i64 (j:Int)) ?_ (n:=l.length)
  ⟨_,0,b7.le_refl _,by omega,by simpa [a4O]using g1,rfl,rfl,by simp[a3i],rfl,rfl,rfl⟩
 rintro n _ _ _ x6 _ _ _ S2 ⟨B,j,hB,hj,g2,rfl,rfl,rfl,rfl,rfl,rfl⟩
 unfold a6V
 have hle2:=b7.le_trans hB g2.le
 rw[J0,oD,J6]
 refine⟨fun hlt=> ?_,fun hge=> ?_⟩
 ·have hlt:j<l.length:=by omega
  obtain⟨f,hf⟩:∃f,f=l[j]:=⟨_,rfl⟩
  have hjf:l[j]? =some f:=by rw[List.getElem?_eq_getElem hlt,hf]
  obtain⟨row,hrow,hfd⟩:=c6e (op:=y.op) (i:=j) (f:=f) (by rw[←hl];exact hjf)
  obtain⟨hg1,_⟩:=hgood f (by rw[hf];exact List.getElem_mem _)
  have hg8:=hs8 f (by rw[hf];exact List.getElem_mem _)
  have hrl:=hfd.load
  rw[b5P hrow,oD,laE,if_pos ⟨by decide,by omega⟩,oD,List.drop_zero,List.take_of_length_le (by omega)]
  intro k a nk
  have hcl:r4 (.agg row)=some row:=rfl
  refine stP (ds:=row) (b7.set_same _ _ _) (clA _) ⟨hrl,by decide,by simp⟩ fun a=> ?_
  rw[b7.set_set]
  have hset:o8 [D.int .i64 0, .nilFn] 0 row=row:=by
   obtain⟨fv,rfl,_⟩:=hfd;rfl
  rw[hset]
  have g3:=g2.under (o:=⟨[D.int .i64 0, .nilFn].length,[row],a⟩) nk
  have zk:B k=none:=by
   cases e:B k with
   |none=>rfl
   |some o=>rw[g2.le _ _ e]at nk;cases nk
  have hB3:(S.set k0 ⟨(inC y).length,[inC y],a0⟩).le (B.set k ⟨[D.int .i64 0, .nilFn].length,[row],a⟩):=b7.le_trans hB (b7.le_new zk)
  have hnum:∀n',n'=y.num j→a3k E w0 (fun x1 x4 x5 x6 x21 x22 x23 S'=>∃m,m<n∧∃(B:b7) (j:Nat),(S.set k0 ⟨(inC y).length,[inC y],a0⟩).le B∧j+m=l.length∧b6Z B x6 (y.op::a4O y 0 (l.take j)) S'∧
    x1= .ptr k0 0∧x4= .lst (a4L y.op) 2∧x5= .bool ((lay y.op).isSome&&a3i y 0 (l.take j))∧x21= .lst (a4L y.op) 2∧x22= .int .i64 (l.length:Int)∧x23= .int .i64 (j:Int))
    (d9 E fun d' S'=>d'= .tup [bD (c1e y), .int .i64 (if isS y=true then 0 else 120)]∧S'=S) (.ptr k0 0) (.lst (a4L y.op) 2) (.bool ((lay y.op).isSome&&a3i y 0 (l.take j))) x6 (.ptr k 0) (.int .i64 n') (.lst (a4L y.op) 2) (.int .i64 (l.length:Int)) (.int .i64 (j:Int))
    (S2.set k ⟨[D.int .i64 0, .nilFn].length,[row],a⟩):=by
   rintro _ rfl
   unfold a3k
   rw[laP (b7.set_same _ _ _) ⟨by decide,by omega⟩,oD,List.drop_zero,List.take_of_length_le (by omega)]
   have hi:I64 (y.num j):=by unfold In.num;split;exact ho.b;exact ho.a
   have hbl:=b5p y (l.take j) 0 fun f hf=>hs8 f (List.mem_of_mem_take hf)
   refine(a4k g3 hfd hi hg1 hg8 (by rw[List.length_cons];rw[List.length_take]at hbl;omega)).use ?_
   rintro v S4 ⟨t4,rfl,g4⟩
   simp only[exD,List.getElem?_cons_zero,List.getElem?_cons_succ,oD]
   have e1:∀p q:Bool,(∀K:D→Prop,K (.bool (p&&q))→a9 (f0 (d6 (.bool p) true) (some (.bool q))) fun v55=>a9 (t8 (.bool p) v55 (.bool false)) fun v56=>K v56):=by
    intro p q K hK
    cases p<;>cases q<;>simpa using hK
   refine e1 _ _ (fun v30=>a9 (d8 .add (.int .i64 (j:Int)) (.int .i64 1)) fun v31=>_) ?_
   rw[C4,oD,m8 (by omega) (by omega)]
   have htk:l.take (j+1)=l.take j++[f]:=by rw[List.take_add_one,hjf];rfl
   have hlj:(l.take j).length=j:=by rw[List.length_take];omega
   refine⟨n - 1,by omega,_,j+1,hB3,by omega, ?_,by trivial,by trivial, ?_,by trivial,by trivial,by trivial⟩
   ·rw[htk,c3A,hlj,Nat.zero_add, ←List.cons_append];exact g4
   ·rw[htk,c0A,hlj,Nat.zero_add,Bool.and_assoc]
  have hle3:(S.set k0 ⟨(inC y).length,[inC y],a0⟩).le (S2.set k ⟨[D.int .i64 0, .nilFn].length,[row],a⟩):=b7.le_trans hB3 g3.le
  rw[H5,oD,l0 hle3,show(inC y)[0+1]? =some (.int .i64 y.a) from rfl,oD,a0E,oD,cdB]
  refine⟨fun h1=> ?_,fun h1=> ?_⟩
  ·rw[H5,oD,l0 hle3,show(inC y)[0+2]? =some (.int .i64 y.b) from rfl,oD]
   have h1:j=1:=by have:(j:Int)=1:=by simpa using h1
                   omega
   exact hnum _ (by unfold In.num;rw[if_pos h1])
  ·have h1:¬j=1:=by have:¬(j:Int)=1:=by simpa using h1
                    omega
   exact hnum _ (by unfold In.num;rw[if_neg h1])
 ·have hj':j=l.length:=by omega
  subst hj'
  rw[List.take_length]at g2 ⊢
  have hisS:isS y=(((lay y.op).isSome&&a3i y 0 l)&&
    if y.op=49 then decide (y.arms.length≤65535)&&y.arms.all (c3V (IntKind.u8.wrap y.a))&&decide (0≤y.b∧y.b≤4294967295)
    else decide (y.arms.length=0)&&(decide (2≤l.length)||decide (y.b=0))&&(decide (1≤l.length)||decide (y.a=0))):=by rw[hl];rfl
  have henc:b3W y=y.op::a4O y 0 l++if y.op=49 then F6 y.arms.length 2++a3L y.arms++F6 y.b 4 else[]:=by rw[hl];rfl
  generalize hok:((lay y.op).isSome&&a3i y 0 l)=ok at hisS ⊢
  have hbl:=b5p y l 0 hs8
  have hSB:S.le B:=b7.le_trans hle hB
  rw[H5,oD,l0 hle2,show(inC y)[0+0]? =some (.int .u8 y.op) from rfl,oD,a0E,oD]
  have nope:∀ {ok':Bool},isS y=ok'→(ok'=true→y.op::a4O y 0 l=b3W y)→F9 E w0 (d9 E fun d' S'=>d'= .tup [bD (c1e y), .int .i64 (if isS y=true then 0 else 120)]∧S'=S) (.bool ok') x6 S2:=fun h1 h2=>c9H g2 hSB h1 h2
  have ll3:b9 S2 (.ptr k0 3)=some (b8q y.arms):=l0 hle2 3
  have ll2:b9 S2 (.ptr k0 2)=some (.int .i64 y.b):=l0 hle2 2
  have ll1:b9 S2 (.ptr k0 1)=some (.int .i64 y.a):=l0 hle2 1
  obtain⟨p1,hp1⟩:∃p,decide ((y.arms.length:Int)>0)=p:=⟨_,rfl⟩
  obtain⟨p2,hp2⟩:∃p,decide ((l.length:Int)<2)=p:=⟨_,rfl⟩
  obtain⟨p3,hp3⟩:∃p,(y.b != 0)=p:=⟨_,rfl⟩
  obtain⟨p4,hp4⟩:∃p,decide ((l.length:Int)<1)=p:=⟨_,rfl⟩
  obtain⟨p5,hp5⟩:∃p,(y.a != 0)=p:=⟨_,rfl⟩
  have key:(decide (y.arms.length=0)&&(decide (2≤l.length)||decide (y.b=0))&&(decide (1≤l.length)||decide (y.a=0)))=(!p1&&(!p2|| !p3)&&(!p4|| !p5)):=by
   have q1:decide (y.arms.length=0)= !p1:=by rw[←hp1, ←decide_not];exact decide_eq_decide.2 (by omega)
   have q2:decide (2≤l.length)= !p2:=by rw[←hp2, ←decide_not];exact decide_eq_decide.2 (by omega)
   have q3:decide (y.b=0)= !p3:=by rw[←hp3];by_cases h:y.b=0<;>simp[h]
   have q4:decide (1≤l.length)= !p4:=by rw[←hp4, ←decide_not];exact decide_eq_decide.2 (by omega)
   have q5:decide (y.a=0)= !p5:=by rw[←hp5];by_cases h:y.a=0<;>simp[h]
   rw[q1,q2,q3,q4,q5]
  by_cases h49:y.op=49
  ·have e49:(y.op==49)=true:=by simp[h49]
   rw[if_pos h49]at hisS henc
   simp only[e49,R7,beq_self_eq_true,vdT,oD,U3,if_true]
   cases ok with
   |true=>
    simp only[cdT]
    rw[laP (hle2 _ _ b0) ⟨by decide,by simp[inC]⟩,oD]
    show o5 Try.prog E w0 a9b [x6,inD y] S2 _
    refine(c6m g2 ho h49 (by rw[List.length_cons];omega)).use ?_
    rintro v S3 ⟨t3,bs3,rfl,g3,hb3⟩
    simp only[exD,List.getElem?_cons_zero,List.getElem?_cons_succ,oD]
    refine c9H g3 hSB (by rw[hisS,Bool.true_and];rfl) fun h=> ?_
    simp only[Bool.and_eq_true,decide_eq_true_eq]at h
    rw[hb3 h.1.1,henc]
   |false=>
    have hn:=nope (ok':=false) (by rw[hisS,Bool.false_and]) (fun h=>by cases h)
    simp only[cdF,H5,oD,Nat.zero_add,ll3,b5H,a3U,lnL,a5B, ←hl,J0,hp1,hp2,hp4]
    cases p1<;>cases p2<;>cases p3<;>cases p4<;>cases p5<;>simp[ll1,ll2,hp3,hp5]<;>exact hn
  ·have e49:(y.op==49)=false:=by simp[h49]
   rw[if_neg h49]at hisS henc
   rw[List.append_nil]at henc
   rw[key]at hisS
   simp only[e49,R7,vdF,oD,U3,Bool.false_eq_true,if_false,cdF,show((false==true)=false) from rfl]
   simp only[H5,oD,Nat.zero_add,ll3,b5H,a3U,lnL,a5B, ←hl,J0,hp1,hp2,hp4]
   cases p1<;>cases p2<;>cases p3<;>cases p4<;>cases p5<;>simp[ll1,ll2,hp3,hp5]<;>exact nope (by rw[hisS];simp) (fun _=>henc.symm)
theorem c7s(ho:y.Ok):X6 Try.prog E w0 b5r [inD y] (.int .i64 ((c1e y).length:Int)):=fun S=>by
 refine c3i ?_
 unfold c1K
 rw[inD,clA,oD]
 intro k0 a0 n0
 rw[laP (b7.set_same _ _ _) ⟨by decide,by simp[inC]⟩,oD]
 refine(c2X ho).use ?_
 simp only[exD,List.getElem?_cons_zero,List.getElem?_cons_succ,oD,M6]
 exact d9.drop n0 d9.pure
end
end
section
@[simp] theorem d6O(row:List D)(rows:List (List D))(sz:Nat):A0 sz (.lst (row::rows) sz) (.int .i64 0)=some (.elt row 0):=b5P (i:=0) rfl
@[simp] theorem d6J(a row:List D)(rows:List (List D))(sz:Nat):A0 sz (.lst (a::row::rows) sz) (.int .i64 1)=some (.elt row 0):=b5P (i:=1) rfl
theorem b1V(a b:Int):(a==b)=decide (a=b):=by by_cases h:a=b<;>simp[h]
end
end Go.Proofs.Ytchnpgddpaonhaa.d
end
section
open Go.Proofs Go Go.Am
namespace Go.Proofs.Ytchnpgddpaonhaa.d
def a4Y:List (Nat×List Nat):=[(8,[0,1,5])]
def a5c:List (Nat×List Nat):=[]
def a5a:List (Nat×X5):=[]
noncomputable def a4g:Code:=(l9 [1,1,0,1,0,0] (Try.f55.body.getD .skip))
def a3X(E:m7)(w0:o0)(Q:D→b7→Prop):r6→List D→b7→Prop:=
 (s8 0 (G7 Try.prog E w0 a4Y a5c a5a (l9 [1,1,1] (Try.f55.body.getD .skip)) (G8 Try.prog Try.f55 Q)))
def a4f(E:m7)(w0:o0)(N0:D→D→D→b7→Prop)(Q:D→b7→Prop)(x0 x1 x5:D)(S:b7):Prop:=
 a9 (p7 x0) fun v3=>
 a9 (d8 .lss x5 v3) fun v4=>
 j8 v4
 (a9 (A0 1 x0 x5) fun v5=>
 a9 (b9 S v5) fun v6=>
 a9 (A0 1 x1 x5) fun v7=>
 a9 (b9 S v7) fun v8=>
 a9 (d8 .neq v6 v8) fun v9=>
 j8 v9
 (Q (.bool false) S)
 (a9 (d8 .add x5 (.int .i64 1)) fun v10=>
 N0 x0 x1 v10 S))
 (Q (.bool true) S)
theorem b3C{E:m7}{w0:o0}{N0:D→D→D→b7→Prop}{Q:D→b7→Prop}{x0 x1 x5:D}{S:b7}(h:a4f E w0 N0 Q x0 x1 x5 S):
  j9 Try.prog E w0 a4g (n9 26 [0,1,5] [x0,x1,x5]) S (A8 (fun T S=>N0 (T.getD 0 b8) (T.getD 1 b8) (T.getD 5 b8) S) (a3X E w0 Q)):=l8 a4Y a5c a5a o7 (by kernel_rfl) h
theorem b3T{E:m7}{w0:o0}{Q:D→b7→Prop}(I:Nat→D→D→D→b7→Prop)
  (step:∀n x0 x1 x5 S,I n x0 x1 x5 S→a4f E w0 (fun x0 x1 x5 S=>∃m,m<n∧I m x0 x1 x5 S) Q x0 x1 x5 S)
  {n:Nat} {x0 x1 x5:D} {S:b7} (h:I n x0 x1 x5 S):j9 Try.prog E w0 (.loop a4g) (n9 26 [0,1,5] [x0,x1,x5]) S (a3X E w0 Q):=
 r0 (k:=26) (n:=n) (I:=fun n T S=>I n (T.getD 0 b8) (T.getD 1 b8) (T.getD 5 b8) S) (fun n T S hl hI=>r9 [0,1,5] hl (j9.mono (b3C (step n _ _ _ S hI)) fun ex T' S' _ hq=>by cases ex<;>exact hq)) (o3 ..) (Eq.mp (by kernel_rfl) h)
def b1X(E:m7)(w0:o0)(Q:D→b7→Prop)(a0 a1:D)(S:b7):Prop:=
 a9 (p7 a0) fun v0=>
 a9 (p7 a1) fun v1=>
 a9 (d8 .neq v0 v1) fun v2=>
 j8 v2
 (Q (.bool false) S)
 (j9 Try.prog E w0 (.loop a4g) (n9 26 [0,1,5] [a0,a1,(.int .i64 0)]) S (a3X E w0 Q))
theorem b7a{E:m7}{w0:o0}{Q:D→b7→Prop}{a0 a1:D}{S:b7}(h:b1X E w0 (d9 E Q) a0 a1 S):o5 Try.prog E w0 a2V [a0,a1] S Q:=
 m9 a4Y a5c a5a (fn:=Try.f55) (c:=Try.f55.body.getD .skip) o7 Try.func55 (by kernel_rfl) (by kernel_rfl) h
def a3o:List (Nat×List Nat):=[(8,[0,1,5])]
def a3t:List (Nat×List Nat):=[]
def a3c:List (Nat×X5):=[]
noncomputable def a2s:Code:=(l9 [1,1,0,1,0,0] (Try.f54.body.getD .skip))
def a2r(E:m7)(w0:o0)(Q:D→b7→Prop):r6→List D→b7→Prop:=
 (s8 0 (G7 Try.prog E w0 a3o a3t a3c (l9 [1,1,1] (Try.f54.body.getD .skip)) (G8 Try.prog Try.f54 Q)))
def a2q(E:m7)(w0:o0)(N0:D→D→D→b7→Prop)(Q:D→b7→Prop)(x0 x1 x5:D)(S:b7):Prop:=
 a9 (p7 x0) fun v3=>
 a9 (d8 .lss x5 v3) fun v4=>
 j8 v4
 (a9 (A0 2 x0 x5) fun v5=>
 a9 (j0 S 2 v5) fun v6=>
 a9 (A0 2 x1 x5) fun v7=>
 a9 (j0 S 2 v7) fun v8=>
 a9 (b1g .neq (d2D Try.prog b2I v6 v8)) fun v9=>
 j8 v9
 (Q (.bool false) S)
 (a9 (d8 .add x5 (.int .i64 1)) fun v10=>
 N0 x0 x1 v10 S))
 (Q (.bool true) S)
theorem b1r{E:m7}{w0:o0}{N0:D→D→D→b7→Prop}{Q:D→b7→Prop}{x0 x1 x5:D}{S:b7}(h:a2q E w0 N0 Q x0 x1 x5 S):
  j9 Try.prog E w0 a2s (n9 26 [0,1,5] [x0,x1,x5]) S (A8 (fun T S=>N0 (T.getD 0 b8) (T.getD 1 b8) (T.getD 5 b8) S) (a2r E w0 Q)):=l8 a3o a3t a3c o7 (by kernel_rfl) h
theorem b1a{E:m7}{w0:o0}{Q:D→b7→Prop}(I:Nat→D→D→D→b7→Prop)
  (step:∀n x0 x1 x5 S,I n x0 x1 x5 S→a2q E w0 (fun x0 x1 x5 S=>∃m,m<n∧I m x0 x1 x5 S) Q x0 x1 x5 S)
  {n:Nat} {x0 x1 x5:D} {S:b7} (h:I n x0 x1 x5 S):j9 Try.prog E w0 (.loop a2s) (n9 26 [0,1,5] [x0,x1,x5]) S (a2r E w0 Q):=
 r0 (k:=26) (n:=n) (I:=fun n T S=>I n (T.getD 0 b8) (T.getD 1 b8) (T.getD 5 b8) S) (fun n T S hl hI=>r9 [0,1,5] hl (j9.mono (b1r (step n _ _ _ S hI)) fun ex T' S' _ hq=>by cases ex<;>exact hq)) (o3 ..) (Eq.mp (by kernel_rfl) h)
def a8m(E:m7)(w0:o0)(Q:D→b7→Prop)(a0 a1:D)(S:b7):Prop:=
 a9 (p7 a0) fun v0=>
 a9 (p7 a1) fun v1=>
 a9 (d8 .neq v0 v1) fun v2=>
 j8 v2
 (Q (.bool false) S)
 (j9 Try.prog E w0 (.loop a2s) (n9 26 [0,1,5] [a0,a1,(.int .i64 0)]) S (a2r E w0 Q))
theorem b3x{E:m7}{w0:o0}{Q:D→b7→Prop}{a0 a1:D}{S:b7}(h:a8m E w0 (d9 E Q) a0 a1 S):o5 Try.prog E w0 a3V [a0,a1] S Q:=
 m9 a3o a3t a3c (fn:=Try.f54) (c:=Try.f54.body.getD .skip) o7 Try.func54 (by kernel_rfl) (by kernel_rfl) h
def b9l:List (Nat×List Nat):=[]
def b9W:List (Nat×List Nat):=[]
def b9E:List (Nat×X5):=[]
def b1Z(E:m7)(w0:o0)(Q:D→b7→Prop)(a0 a1:D)(S:b7):Prop:=
 a9 (r4 a0) fun cs=>o6 S cs fun v0 S1=>
 a9 (r4 a1) fun cs=>o6 S1 cs fun v2 S3=>
 a9 (m6 0 v0) fun v4=>
 a9 (b9 S3 v4) fun v5=>
 a9 (m6 0 v2) fun v6=>
 a9 (b9 S3 v6) fun v7=>
 a9 (d8 .eql v5 v7) fun v8=>
 a9 (f0 (d6 v8 true) (m6 1 v0)) fun v9=>
 a9 (f0 (d6 v8 true) (b9 S3 v9)) fun v10=>
 a9 (f0 (d6 v8 true) (m6 1 v2)) fun v11=>
 a9 (f0 (d6 v8 true) (b9 S3 v11)) fun v12=>
 a9 (f0 (d6 v8 true) (b5U .eql v10 v12)) fun v13=>
 a9 (t8 v8 v13 (.bool false)) fun v14=>
 a9 (f0 (d6 v14 true) (m6 3 v0)) fun v15=>
 a9 (f0 (d6 v14 true) (b9 S3 v15)) fun v16=>
 a9 (f0 (d6 v14 true) (m6 3 v2)) fun v17=>
 a9 (f0 (d6 v14 true) (b9 S3 v17)) fun v18=>
 a9 (f0 (d6 v14 true) (d8 .eql v16 v18)) fun v19=>
 a9 (t8 v14 v19 (.bool false)) fun v20=>
 a9 (f0 (d6 v20 true) (m6 4 v0)) fun v21=>
 a9 (f0 (d6 v20 true) (b9 S3 v21)) fun v22=>
 a9 (f0 (d6 v20 true) (m6 4 v2)) fun v23=>
 a9 (f0 (d6 v20 true) (b9 S3 v23)) fun v24=>
 a9 (f0 (d6 v20 true) (d8 .eql v22 v24)) fun v25=>
 a9 (t8 v20 v25 (.bool false)) fun v26=>
 a9 (f0 (d6 v26 true) (m6 2 v0)) fun v27=>
 a9 (f0 (d6 v26 true) (b9 S3 v27)) fun v28=>
 a9 (f0 (d6 v26 true) (m6 2 v2)) fun v29=>
 a9 (f0 (d6 v26 true) (b9 S3 v29)) fun v30=>
 a0N (d6 v26 true) (fun K=>o5 Try.prog E w0 a3V [v28,v30] S3 K) S3 fun v31 S32=>
 a9 (t8 v26 v31 (.bool false)) fun v33=>
 Q v33 S32
theorem b6k{E:m7}{w0:o0}{Q:D→b7→Prop}{a0 a1:D}{S:b7}(h:b1Z E w0 (d9 E Q) a0 a1 S):o5 Try.prog E w0 a6o [a0,a1] S Q:=
 m9 b9l b9W b9E (fn:=Try.f27) (c:=Try.f27.body.getD .skip) o7 Try.func27 (by kernel_rfl) (by kernel_rfl) h
def b5t:List (Nat×List Nat):=[]
def b4H:List (Nat×List Nat):=[]
def b4A:List (Nat×X5):=[]
def a7y(E:m7)(w0:o0)(Q:D→b7→Prop)(a0 a1:D)(S:b7):Prop:=
 a9 (r4 a0) fun cs=>o6 S cs fun v0 S1=>
 a9 (r4 a1) fun cs=>o6 S1 cs fun v2 S3=>
 a9 (m6 0 v0) fun v4=>
 a9 (b9 S3 v4) fun v5=>
 a9 (m6 0 v2) fun v6=>
 a9 (b9 S3 v6) fun v7=>
 a9 (b5U .eql v5 v7) fun v8=>
 a9 (f0 (d6 v8 true) (m6 3 v0)) fun v9=>
 a9 (f0 (d6 v8 true) (b9 S3 v9)) fun v10=>
 a9 (f0 (d6 v8 true) (m6 3 v2)) fun v11=>
 a9 (f0 (d6 v8 true) (b9 S3 v11)) fun v12=>
 a9 (f0 (d6 v8 true) (d8 .eql v10 v12)) fun v13=>
 a9 (t8 v8 v13 (.bool false)) fun v14=>
 a9 (f0 (d6 v14 true) (m6 4 v0)) fun v15=>
 a9 (f0 (d6 v14 true) (b9 S3 v15)) fun v16=>
 a9 (f0 (d6 v14 true) (m6 4 v2)) fun v17=>
 a9 (f0 (d6 v14 true) (b9 S3 v17)) fun v18=>
 a9 (f0 (d6 v14 true) (d8 .eql v16 v18)) fun v19=>
 a9 (t8 v14 v19 (.bool false)) fun v20=>
 a9 (f0 (d6 v20 true) (m6 1 v0)) fun v21=>
 a9 (f0 (d6 v20 true) (b9 S3 v21)) fun v22=>
 a9 (f0 (d6 v20 true) (m6 1 v2)) fun v23=>
 a9 (f0 (d6 v20 true) (b9 S3 v23)) fun v24=>
 a0N (d6 v20 true) (fun K=>o5 Try.prog E w0 a2V [v22,v24] S3 K) S3 fun v25 S26=>
 a9 (t8 v20 v25 (.bool false)) fun v27=>
 a9 (f0 (d6 v27 true) (m6 2 v0)) fun v28=>
 a9 (f0 (d6 v27 true) (b9 S26 v28)) fun v29=>
 a9 (f0 (d6 v27 true) (m6 2 v2)) fun v30=>
 a9 (f0 (d6 v27 true) (b9 S26 v30)) fun v31=>
 a0N (d6 v27 true) (fun K=>o5 Try.prog E w0 a2V [v29,v31] S26 K) S26 fun v32 S33=>
 a9 (t8 v27 v32 (.bool false)) fun v34=>
 a9 (f0 (d6 v34 true) (m6 5 v0)) fun v35=>
 a9 (f0 (d6 v34 true) (b9 S33 v35)) fun v36=>
 a9 (f0 (d6 v34 true) (b0x S33 v36)) fun v37=>
 a9 (f0 (d6 v34 true) (m6 5 v2)) fun v38=>
 a9 (f0 (d6 v34 true) (b9 S33 v38)) fun v39=>
 a9 (f0 (d6 v34 true) (b0x S33 v39)) fun v40=>
 a9 (f0 (d6 v34 true) (b5U .eql v37 v40)) fun v41=>
 a9 (t8 v34 v41 (.bool false)) fun v42=>
 Q v42 S33
theorem b1G{E:m7}{w0:o0}{Q:D→b7→Prop}{a0 a1:D}{S:b7}(h:a7y E w0 (d9 E Q) a0 a1 S):o5 Try.prog E w0 a2Y [a0,a1] S Q:=
 m9 b5t b4H b4A (fn:=Try.f28) (c:=Try.f28.body.getD .skip) o7 Try.func28 (by kernel_rfl) (by kernel_rfl) h
def I2:List (Nat×List Nat):=[(8,[2,3,5]),(18,[2,3,6]),(28,[2,3,7])]
def I4:List (Nat×List Nat):=[]
def I1:List (Nat×X5):=[]
noncomputable def a2h:Code:=(l9 [1,1,1,1,0,1,0,0] (Try.f12.body.getD .skip))
def a2l(E:m7)(w0:o0)(Q:D→b7→Prop):r6→List D→b7→Prop:=
 (s8 4 (G7 Try.prog E w0 I2 I4 I1 (l9 [1,1,1,1,1] (Try.f12.body.getD .skip)) (G8 Try.prog Try.f12 Q)))
def a2n(E:m7)(w0:o0)(N2:D→D→D→b7→Prop)(Q:D→b7→Prop)(x2 x3 x7:D)(S:b7):Prop:=
 a9 (m6 2 x2) fun v57=>
 a9 (b9 S v57) fun v58=>
 a9 (p7 v58) fun v59=>
 a9 (d8 .lss x7 v59) fun v60=>
 j8 v60
 (a9 (m6 2 x2) fun v61=>
 a9 (b9 S v61) fun v62=>
 a9 (A0 6 v62 x7) fun v63=>
 a9 (j0 S 6 v63) fun v64=>
 a9 (m6 2 x3) fun v65=>
 a9 (b9 S v65) fun v66=>
 a9 (A0 6 v66 x7) fun v67=>
 a9 (j0 S 6 v67) fun v68=>
 o5 Try.prog E w0 a2Y [v64,v68] S fun v69 S70=>
 a9 (unD .not v69) fun v71=>
 j8 v71
 (Q (.bool false) S70)
 (a9 (d8 .add x7 (.int .i64 1)) fun v72=>
 N2 x2 x3 v72 S70))
 (Q (.bool true) S)
theorem b1o{E:m7}{w0:o0}{N2:D→D→D→b7→Prop}{Q:D→b7→Prop}{x2 x3 x7:D}{S:b7}(h:a2n E w0 N2 Q x2 x3 x7 S):
  j9 Try.prog E w0 a2h (n9 89 [2,3,7] [x2,x3,x7]) S (A8 (fun T S=>N2 (T.getD 2 b8) (T.getD 3 b8) (T.getD 7 b8) S) (a2l E w0 Q)):=l8 I2 I4 I1 o7 (by kernel_rfl) h
theorem b1i{E:m7}{w0:o0}{Q:D→b7→Prop}(I:Nat→D→D→D→b7→Prop)
  (step:∀n x2 x3 x7 S,I n x2 x3 x7 S→a2n E w0 (fun x2 x3 x7 S=>∃m,m<n∧I m x2 x3 x7 S) Q x2 x3 x7 S)
  {n:Nat} {x2 x3 x7:D} {S:b7} (h:I n x2 x3 x7 S):j9 Try.prog E w0 (.loop a2h) (n9 89 [2,3,7] [x2,x3,x7]) S (a2l E w0 Q):=
 r0 (k:=89) (n:=n) (I:=fun n T S=>I n (T.getD 2 b8) (T.getD 3 b8) (T.getD 7 b8) S) (fun n T S hl hI=>r9 [2,3,7] hl (j9.mono (b1o (step n _ _ _ S hI)) fun ex T' S' _ hq=>by cases ex<;>exact hq)) (o3 ..) (Eq.mp (by kernel_rfl) h)
noncomputable def a2v:Code:=(l9 [1,1,1,0,1,0,0] (Try.f12.body.getD .skip))
def a2i(E:m7)(w0:o0)(Q:D→b7→Prop):r6→List D→b7→Prop:=
 (s8 2 (G7 Try.prog E w0 I2 I4 I1 (l9 [1,1,1,1] (Try.f12.body.getD .skip)) (G8 Try.prog Try.f12 Q)))
def a2k(E:m7)(w0:o0)(N1:D→D→D→b7→Prop)(Q:D→b7→Prop)(x2 x3 x6:D)(S:b7):Prop:=
 a9 (m6 1 x2) fun v43=>
 a9 (b9 S v43) fun v44=>
 a9 (p7 v44) fun v45=>
 a9 (d8 .lss x6 v45) fun v46=>
 j8 v46
 (a9 (m6 1 x2) fun v47=>
 a9 (b9 S v47) fun v48=>
 a9 (A0 1 v48 x6) fun v49=>
 a9 (b9 S v49) fun v50=>
 a9 (m6 1 x3) fun v51=>
 a9 (b9 S v51) fun v52=>
 a9 (A0 1 v52 x6) fun v53=>
 a9 (b9 S v53) fun v54=>
 a9 (b5U .neq v50 v54) fun v55=>
 j8 v55
 (Q (.bool false) S)
 (a9 (d8 .add x6 (.int .i64 1)) fun v56=>
 N1 x2 x3 v56 S))
 (j9 Try.prog E w0 (.loop a2h) (n9 89 [2,3,7] [x2,x3,(.int .i64 0)]) S (a2l E w0 Q))
theorem b1j{E:m7}{w0:o0}{N1:D→D→D→b7→Prop}{Q:D→b7→Prop}{x2 x3 x6:D}{S:b7}(h:a2k E w0 N1 Q x2 x3 x6 S):
  j9 Try.prog E w0 a2v (n9 89 [2,3,6] [x2,x3,x6]) S (A8 (fun T S=>N1 (T.getD 2 b8) (T.getD 3 b8) (T.getD 6 b8) S) (a2i E w0 Q)):=l8 I2 I4 I1 o7 (by kernel_rfl) h
theorem b1k{E:m7}{w0:o0}{Q:D→b7→Prop}(I:Nat→D→D→D→b7→Prop)
  (step:∀n x2 x3 x6 S,I n x2 x3 x6 S→a2k E w0 (fun x2 x3 x6 S=>∃m,m<n∧I m x2 x3 x6 S) Q x2 x3 x6 S)
  {n:Nat} {x2 x3 x6:D} {S:b7} (h:I n x2 x3 x6 S):j9 Try.prog E w0 (.loop a2v) (n9 89 [2,3,6] [x2,x3,x6]) S (a2i E w0 Q):=
 r0 (k:=89) (n:=n) (I:=fun n T S=>I n (T.getD 2 b8) (T.getD 3 b8) (T.getD 6 b8) S) (fun n T S hl hI=>r9 [2,3,6] hl (j9.mono (b1j (step n _ _ _ S hI)) fun ex T' S' _ hq=>by cases ex<;>exact hq)) (o3 ..) (Eq.mp (by kernel_rfl) h)
noncomputable def a2a:Code:=(l9 [1,1,0,1,0,0] (Try.f12.body.getD .skip))
def a2e(E:m7)(w0:o0)(Q:D→b7→Prop):r6→List D→b7→Prop:=
 (s8 0 (G7 Try.prog E w0 I2 I4 I1 (l9 [1,1,1] (Try.f12.body.getD .skip)) (G8 Try.prog Try.f12 Q)))
def a2b(E:m7)(w0:o0)(N0:D→D→D→b7→Prop)(Q:D→b7→Prop)(x2 x3 x5:D)(S:b7):Prop:=
 a9 (m6 0 x2) fun v27=>
 a9 (b9 S v27) fun v28=>
 a9 (p7 v28) fun v29=>
 a9 (d8 .lss x5 v29) fun v30=>
 j8 v30
 (a9 (m6 0 x2) fun v31=>
 a9 (b9 S v31) fun v32=>
 a9 (A0 5 v32 x5) fun v33=>
 a9 (j0 S 5 v33) fun v34=>
 a9 (m6 0 x3) fun v35=>
 a9 (b9 S v35) fun v36=>
 a9 (A0 5 v36 x5) fun v37=>
 a9 (j0 S 5 v37) fun v38=>
 o5 Try.prog E w0 a6o [v34,v38] S fun v39 S40=>
 a9 (unD .not v39) fun v41=>
 j8 v41
 (Q (.bool false) S40)
 (a9 (d8 .add x5 (.int .i64 1)) fun v42=>
 N0 x2 x3 v42 S40))
 (j9 Try.prog E w0 (.loop a2v) (n9 89 [2,3,6] [x2,x3,(.int .i64 0)]) S (a2i E w0 Q))
theorem b0Z{E:m7}{w0:o0}{N0:D→D→D→b7→Prop}{Q:D→b7→Prop}{x2 x3 x5:D}{S:b7}(h:a2b E w0 N0 Q x2 x3 x5 S):
  j9 Try.prog E w0 a2a (n9 89 [2,3,5] [x2,x3,x5]) S (A8 (fun T S=>N0 (T.getD 2 b8) (T.getD 3 b8) (T.getD 5 b8) S) (a2e E w0 Q)):=l8 I2 I4 I1 o7 (by kernel_rfl) h
theorem b1h{E:m7}{w0:o0}{Q:D→b7→Prop}(I:Nat→D→D→D→b7→Prop)
  (step:∀n x2 x3 x5 S,I n x2 x3 x5 S→a2b E w0 (fun x2 x3 x5 S=>∃m,m<n∧I m x2 x3 x5 S) Q x2 x3 x5 S)
  {n:Nat} {x2 x3 x5:D} {S:b7} (h:I n x2 x3 x5 S):j9 Try.prog E w0 (.loop a2a) (n9 89 [2,3,5] [x2,x3,x5]) S (a2e E w0 Q):=
 r0 (k:=89) (n:=n) (I:=fun n T S=>I n (T.getD 2 b8) (T.getD 3 b8) (T.getD 5 b8) S) (fun n T S hl hI=>r9 [2,3,5] hl (j9.mono (b0Z (step n _ _ _ S hI)) fun ex T' S' _ hq=>by cases ex<;>exact hq)) (o3 ..) (Eq.mp (by kernel_rfl) h)
def a8x(E:m7)(w0:o0)(Q:D→b7→Prop)(a0 a1:D)(S:b7):Prop:=
 a9 (r4 a0) fun cs=>o6 S cs fun v0 S1=>
 a9 (r4 a1) fun cs=>o6 S1 cs fun v2 S3=>
 a9 (m6 0 v0) fun v4=>
 a9 (b9 S3 v4) fun v5=>
 a9 (p7 v5) fun v6=>
 a9 (m6 0 v2) fun v7=>
 a9 (b9 S3 v7) fun v8=>
 a9 (p7 v8) fun v9=>
 a9 (d8 .neq v6 v9) fun v10=>
 a9 (f0 (d6 v10 false) (m6 1 v0)) fun v11=>
 a9 (f0 (d6 v10 false) (b9 S3 v11)) fun v12=>
 a9 (f0 (d6 v10 false) (p7 v12)) fun v13=>
 a9 (f0 (d6 v10 false) (m6 1 v2)) fun v14=>
 a9 (f0 (d6 v10 false) (b9 S3 v14)) fun v15=>
 a9 (f0 (d6 v10 false) (p7 v15)) fun v16=>
 a9 (f0 (d6 v10 false) (d8 .neq v13 v16)) fun v17=>
 a9 (t8 v10 (.bool true) v17) fun v18=>
 a9 (f0 (d6 v18 false) (m6 2 v0)) fun v19=>
 a9 (f0 (d6 v18 false) (b9 S3 v19)) fun v20=>
 a9 (f0 (d6 v18 false) (p7 v20)) fun v21=>
 a9 (f0 (d6 v18 false) (m6 2 v2)) fun v22=>
 a9 (f0 (d6 v18 false) (b9 S3 v22)) fun v23=>
 a9 (f0 (d6 v18 false) (p7 v23)) fun v24=>
 a9 (f0 (d6 v18 false) (d8 .neq v21 v24)) fun v25=>
 a9 (t8 v18 (.bool true) v25) fun v26=>
 j8 v26
 (Q (.bool false) S3)
 (j9 Try.prog E w0 (.loop a2a) (n9 89 [2,3,5] [v0,v2,(.int .i64 0)]) S3 (a2e E w0 Q))
theorem b3N{E:m7}{w0:o0}{Q:D→b7→Prop}{a0 a1:D}{S:b7}(h:a8x E w0 (d9 E Q) a0 a1 S):o5 Try.prog E w0 a4e [a0,a1] S Q:=
 m9 I2 I4 I1 (fn:=Try.f12) (c:=Try.f12.body.getD .skip) o7 Try.func12 (by kernel_rfl) (by kernel_rfl) h
def O5:List (Nat×List Nat):=[(6,[1,2,5,6]),(14,[1,2,5,6,7]),(22,[1,2,5,8]),(30,[1,2,5,9])]
def O3:List (Nat×List Nat):=[]
def O4:List (Nat×X5):=[]
noncomputable def a9a:Code:=(l9 [1,1,0,1,0,0,1,0,0,1,1,0,0] (Try.f9.body.getD .skip))
def a9r(E:m7)(w0:o0)(N0:D→D→D→D→b7→Prop)(Q:D→b7→Prop):r6→List D→b7→Prop:=
 (s8 2 (s8 1 (G7 Try.prog E w0 O5 O3 O4 (l9 [1,1,0,1,0,0,1,1] (Try.f9.body.getD .skip)) (A8 (fun T S=>N0 (T.getD 1 b8) (T.getD 2 b8) (T.getD 5 b8) (T.getD 6 b8) S) (s8 0 (G7 Try.prog E w0 O5 O3 O4 (l9 [1,1,1] (Try.f9.body.getD .skip)) (G8 Try.prog Try.f9 Q)))))))
def a9O(E:m7)(w0:o0)(N0:D→D→D→D→b7→Prop)(N1:D→D→D→D→D→b7→Prop)(Q:D→b7→Prop)(x1 x2 x5 x6 x7:D)(S:b7):Prop:=
 a9 (m6 0 x2) fun v35=>
 a9 (b9 S v35) fun v36=>
 a9 (A0 5 v36 x6) fun v37=>
 a9 (m6 2 v37) fun v38=>
 a9 (b9 S v38) fun v39=>
 a9 (p7 v39) fun v40=>
 a9 (d8 .lss x7 v40) fun v41=>
 a9 (f0 (d6 v41 true) (some x5)) fun v42=>
 a9 (f0 (d6 v41 true) (some x1)) fun v43=>
 a9 (f0 (d6 v41 true) (d8 .leq v42 v43)) fun v44=>
 a9 (t8 v41 v44 (.bool false)) fun v45=>
 j8 v45
 (a9 (m6 0 x2) fun v46=>
 a9 (b9 S v46) fun v47=>
 a9 (A0 5 v47 x6) fun v48=>
 a9 (m6 2 v48) fun v49=>
 a9 (b9 S v49) fun v50=>
 a9 (A0 2 v50 x7) fun v51=>
 a9 (m6 0 v51) fun v52=>
 a9 (b9 S v52) fun v53=>
 a9 (a3P v53) fun v54=>
 a9 (d8 .add x5 v54) fun v55=>
 a9 (d8 .add x7 (.int .i64 1)) fun v56=>
 N1 x1 x2 v55 x6 v56 S)
 (a9 (d8 .add x6 (.int .i64 1)) fun v57=>
 N0 x1 x2 x5 v57 S)
theorem b9A{E:m7}{w0:o0}{N0:D→D→D→D→b7→Prop}{N1:D→D→D→D→D→b7→Prop}{Q:D→b7→Prop}{x1 x2 x5 x6 x7:D}{S:b7}(h:a9O E w0 N0 N1 Q x1 x2 x5 x6 x7 S):
  j9 Try.prog E w0 a9a (n9 135 [1,2,5,6,7] [x1,x2,x5,x6,x7]) S (A8 (fun T S=>N1 (T.getD 1 b8) (T.getD 2 b8) (T.getD 5 b8) (T.getD 6 b8) (T.getD 7 b8) S) (a9r E w0 N0 Q)):=l8 O5 O3 O4 o7 (by kernel_rfl) h
theorem b9Y{E:m7}{w0:o0}{N0:D→D→D→D→b7→Prop}{Q:D→b7→Prop}(I:Nat→D→D→D→D→D→b7→Prop)
  (step:∀n x1 x2 x5 x6 x7 S,I n x1 x2 x5 x6 x7 S→a9O E w0 N0 (fun x1 x2 x5 x6 x7 S=>∃m,m<n∧I m x1 x2 x5 x6 x7 S) Q x1 x2 x5 x6 x7 S)
  {n:Nat} {x1 x2 x5 x6 x7:D} {S:b7} (h:I n x1 x2 x5 x6 x7 S):j9 Try.prog E w0 (.loop a9a) (n9 135 [1,2,5,6,7] [x1,x2,x5,x6,x7]) S (a9r E w0 N0 Q):=
 r0 (k:=135) (n:=n) (I:=fun n T S=>I n (T.getD 1 b8) (T.getD 2 b8) (T.getD 5 b8) (T.getD 6 b8) (T.getD 7 b8) S) (fun n T S hl hI=>r9 [1,2,5,6,7] hl (j9.mono (b9A (step n _ _ _ _ _ S hI)) fun ex T' S' _ hq=>by cases ex<;>exact hq)) (o3 ..) (Eq.mp (by kernel_rfl) h)
noncomputable def b0c:Code:=(l9 [1,1,1,1,0,1,0,0] (Try.f9.body.getD .skip))
def a9h(E:m7)(w0:o0)(Q:D→b7→Prop):r6→List D→b7→Prop:=
 (s8 6 (G7 Try.prog E w0 O5 O3 O4 (l9 [1,1,1,1,1] (Try.f9.body.getD .skip)) (G8 Try.prog Try.f9 Q)))
def a8W(E:m7)(w0:o0)(N3:D→D→D→D→b7→Prop)(Q:D→b7→Prop)(x1 x2 x5 x9:D)(S:b7):Prop:=
 a9 (m6 2 x2) fun v73=>
 a9 (b9 S v73) fun v74=>
 a9 (p7 v74) fun v75=>
 a9 (d8 .lss x9 v75) fun v76=>
 a9 (f0 (d6 v76 true) (some x5)) fun v77=>
 a9 (f0 (d6 v76 true) (some x1)) fun v78=>
 a9 (f0 (d6 v76 true) (d8 .leq v77 v78)) fun v79=>
 a9 (t8 v76 v79 (.bool false)) fun v80=>
 j8 v80
 (a9 (m6 2 x2) fun v81=>
 a9 (b9 S v81) fun v82=>
 a9 (A0 6 v82 x9) fun v83=>
 a9 (j0 S 6 v83) fun v84=>
 o6 S [(.str []), .nilSlc, .nilSlc,(.int .i64 0),(.int .i64 0), .nilSlc] fun v85 S86=>
 i9 S86 6 v85 v84 fun v87 S88=>
 a9 (m6 0 v85) fun v89=>
 a9 (b9 S88 v89) fun v90=>
 a9 (a3P v90) fun v91=>
 a9 (d8 .add x5 v91) fun v92=>
 a9 (m6 1 v85) fun v93=>
 a9 (b9 S88 v93) fun v94=>
 a9 (p7 v94) fun v95=>
 a9 (d8 .add v92 v95) fun v96=>
 a9 (m6 2 v85) fun v97=>
 a9 (b9 S88 v97) fun v98=>
 a9 (p7 v98) fun v99=>
 a9 (d8 .add v96 v99) fun v100=>
 a9 (m6 5 v85) fun v101=>
 a9 (b9 S88 v101) fun v102=>
 a9 (p7 v102) fun v103=>
 a9 (d8 .add v100 v103) fun v104=>
 a9 (d8 .add x9 (.int .i64 1)) fun v105=>
 N3 x1 x2 v104 v105 S88)
 (Q x5 S)
theorem b9t{E:m7}{w0:o0}{N3:D→D→D→D→b7→Prop}{Q:D→b7→Prop}{x1 x2 x5 x9:D}{S:b7}(h:a8W E w0 N3 Q x1 x2 x5 x9 S):
  j9 Try.prog E w0 b0c (n9 135 [1,2,5,9] [x1,x2,x5,x9]) S (A8 (fun T S=>N3 (T.getD 1 b8) (T.getD 2 b8) (T.getD 5 b8) (T.getD 9 b8) S) (a9h E w0 Q)):=l8 O5 O3 O4 o7 (by kernel_rfl) h
theorem b9D{E:m7}{w0:o0}{Q:D→b7→Prop}(I:Nat→D→D→D→D→b7→Prop)
  (step:∀n x1 x2 x5 x9 S,I n x1 x2 x5 x9 S→a8W E w0 (fun x1 x2 x5 x9 S=>∃m,m<n∧I m x1 x2 x5 x9 S) Q x1 x2 x5 x9 S)
  {n:Nat} {x1 x2 x5 x9:D} {S:b7} (h:I n x1 x2 x5 x9 S):j9 Try.prog E w0 (.loop b0c) (n9 135 [1,2,5,9] [x1,x2,x5,x9]) S (a9h E w0 Q):=
 r0 (k:=135) (n:=n) (I:=fun n T S=>I n (T.getD 1 b8) (T.getD 2 b8) (T.getD 5 b8) (T.getD 9 b8) S) (fun n T S hl hI=>r9 [1,2,5,9] hl (j9.mono (b9t (step n _ _ _ _ S hI)) fun ex T' S' _ hq=>by cases ex<;>exact hq)) (o3 ..) (Eq.mp (by kernel_rfl) h)
noncomputable def a9W:Code:=(l9 [1,1,1,0,1,0,0] (Try.f9.body.getD .skip))
def b0i(E:m7)(w0:o0)(Q:D→b7→Prop):r6→List D→b7→Prop:=
 (s8 4 (G7 Try.prog E w0 O5 O3 O4 (l9 [1,1,1,1] (Try.f9.body.getD .skip)) (G8 Try.prog Try.f9 Q)))
def a9k(E:m7)(w0:o0)(N2:D→D→D→D→b7→Prop)(Q:D→b7→Prop)(x1 x2 x5 x8:D)(S:b7):Prop:=
 a9 (m6 1 x2) fun v58=>
 a9 (b9 S v58) fun v59=>
 a9 (p7 v59) fun v60=>
 a9 (d8 .lss x8 v60) fun v61=>
 a9 (f0 (d6 v61 true) (some x5)) fun v62=>
 a9 (f0 (d6 v61 true) (some x1)) fun v63=>
 a9 (f0 (d6 v61 true) (d8 .leq v62 v63)) fun v64=>
 a9 (t8 v61 v64 (.bool false)) fun v65=>
 j8 v65
 (a9 (m6 1 x2) fun v66=>
 a9 (b9 S v66) fun v67=>
 a9 (A0 1 v67 x8) fun v68=>
 a9 (b9 S v68) fun v69=>
 a9 (a3P v69) fun v70=>
 a9 (d8 .add x5 v70) fun v71=>
 a9 (d8 .add x8 (.int .i64 1)) fun v72=>
 N2 x1 x2 v71 v72 S)
 (j9 Try.prog E w0 (.loop b0c) (n9 135 [1,2,5,9] [x1,x2,x5,(.int .i64 0)]) S (a9h E w0 Q))
theorem b9n{E:m7}{w0:o0}{N2:D→D→D→D→b7→Prop}{Q:D→b7→Prop}{x1 x2 x5 x8:D}{S:b7}(h:a9k E w0 N2 Q x1 x2 x5 x8 S):
  j9 Try.prog E w0 a9W (n9 135 [1,2,5,8] [x1,x2,x5,x8]) S (A8 (fun T S=>N2 (T.getD 1 b8) (T.getD 2 b8) (T.getD 5 b8) (T.getD 8 b8) S) (b0i E w0 Q)):=l8 O5 O3 O4 o7 (by kernel_rfl) h
theorem b9o{E:m7}{w0:o0}{Q:D→b7→Prop}(I:Nat→D→D→D→D→b7→Prop)
  (step:∀n x1 x2 x5 x8 S,I n x1 x2 x5 x8 S→a9k E w0 (fun x1 x2 x5 x8 S=>∃m,m<n∧I m x1 x2 x5 x8 S) Q x1 x2 x5 x8 S)
  {n:Nat} {x1 x2 x5 x8:D} {S:b7} (h:I n x1 x2 x5 x8 S):j9 Try.prog E w0 (.loop a9W) (n9 135 [1,2,5,8] [x1,x2,x5,x8]) S (b0i E w0 Q):=
 r0 (k:=135) (n:=n) (I:=fun n T S=>I n (T.getD 1 b8) (T.getD 2 b8) (T.getD 5 b8) (T.getD 8 b8) S) (fun n T S hl hI=>r9 [1,2,5,8] hl (j9.mono (b9n (step n _ _ _ _ S hI)) fun ex T' S' _ hq=>by cases ex<;>exact hq)) (o3 ..) (Eq.mp (by kernel_rfl) h)
noncomputable def a9G:Code:=(l9 [1,1,0,1,0,0] (Try.f9.body.getD .skip))
def b0b(E:m7)(w0:o0)(Q:D→b7→Prop):r6→List D→b7→Prop:=
 (s8 0 (G7 Try.prog E w0 O5 O3 O4 (l9 [1,1,1] (Try.f9.body.getD .skip)) (G8 Try.prog Try.f9 Q)))
def a9J(E:m7)(w0:o0)(N0:D→D→D→D→b7→Prop)(Q:D→b7→Prop)(x1 x2 x5 x6:D)(S:b7):Prop:=
 a9 (m6 0 x2) fun v13=>
 a9 (b9 S v13) fun v14=>
 a9 (p7 v14) fun v15=>
 a9 (d8 .lss x6 v15) fun v16=>
 a9 (f0 (d6 v16 true) (some x5)) fun v17=>
 a9 (f0 (d6 v16 true) (some x1)) fun v18=>
 a9 (f0 (d6 v16 true) (d8 .leq v17 v18)) fun v19=>
 a9 (t8 v16 v19 (.bool false)) fun v20=>
 j8 v20
 (a9 (m6 0 x2) fun v21=>
 a9 (b9 S v21) fun v22=>
 a9 (A0 5 v22 x6) fun v23=>
 a9 (m6 1 v23) fun v24=>
 a9 (b9 S v24) fun v25=>
 a9 (a3P v25) fun v26=>
 a9 (d8 .add x5 v26) fun v27=>
 a9 (m6 0 x2) fun v28=>
 a9 (b9 S v28) fun v29=>
 a9 (A0 5 v29 x6) fun v30=>
 a9 (m6 2 v30) fun v31=>
 a9 (b9 S v31) fun v32=>
 a9 (p7 v32) fun v33=>
 a9 (d8 .add v27 v33) fun v34=>
 j9 Try.prog E w0 (.loop a9a) (n9 135 [1,2,5,6,7] [x1,x2,v34,x6,(.int .i64 0)]) S (a9r E w0 N0 Q))
 (j9 Try.prog E w0 (.loop a9W) (n9 135 [1,2,5,8] [x1,x2,x5,(.int .i64 0)]) S (b0i E w0 Q))
theorem b9b{E:m7}{w0:o0}{N0:D→D→D→D→b7→Prop}{Q:D→b7→Prop}{x1 x2 x5 x6:D}{S:b7}(h:a9J E w0 N0 Q x1 x2 x5 x6 S):
  j9 Try.prog E w0 a9G (n9 135 [1,2,5,6] [x1,x2,x5,x6]) S (A8 (fun T S=>N0 (T.getD 1 b8) (T.getD 2 b8) (T.getD 5 b8) (T.getD 6 b8) S) (b0b E w0 Q)):=l8 O5 O3 O4 o7 (by kernel_rfl) h
theorem b9i{E:m7}{w0:o0}{Q:D→b7→Prop}(I:Nat→D→D→D→D→b7→Prop)
  (step:∀n x1 x2 x5 x6 S,I n x1 x2 x5 x6 S→a9J E w0 (fun x1 x2 x5 x6 S=>∃m,m<n∧I m x1 x2 x5 x6 S) Q x1 x2 x5 x6 S)
  {n:Nat} {x1 x2 x5 x6:D} {S:b7} (h:I n x1 x2 x5 x6 S):j9 Try.prog E w0 (.loop a9G) (n9 135 [1,2,5,6] [x1,x2,x5,x6]) S (b0b E w0 Q):=
 r0 (k:=135) (n:=n) (I:=fun n T S=>I n (T.getD 1 b8) (T.getD 2 b8) (T.getD 5 b8) (T.getD 6 b8) S) (fun n T S hl hI=>r9 [1,2,5,6] hl (j9.mono (b9b (step n _ _ _ _ S hI)) fun ex T' S' _ hq=>by cases ex<;>exact hq)) (o3 ..) (Eq.mp (by kernel_rfl) h)
def c0z(E:m7)(w0:o0)(Q:D→b7→Prop)(a0 a1:D)(S:b7):Prop:=
 a9 (r4 a0) fun cs=>o6 S cs fun v0 S1=>
 a9 (m6 0 v0) fun v2=>
 a9 (b9 S1 v2) fun v3=>
 a9 (p7 v3) fun v4=>
 a9 (m6 1 v0) fun v5=>
 a9 (b9 S1 v5) fun v6=>
 a9 (p7 v6) fun v7=>
 a9 (d8 .add v4 v7) fun v8=>
 a9 (m6 2 v0) fun v9=>
 a9 (b9 S1 v9) fun v10=>
 a9 (p7 v10) fun v11=>
 a9 (d8 .add v8 v11) fun v12=>
 j9 Try.prog E w0 (.loop a9G) (n9 135 [1,2,5,6] [a1,v0,v12,(.int .i64 0)]) S1 (b0b E w0 Q)
theorem c3e{E:m7}{w0:o0}{Q:D→b7→Prop}{a0 a1:D}{S:b7}(h:c0z E w0 (d9 E Q) a0 a1 S):o5 Try.prog E w0 b4W [a0,a1] S Q:=
 m9 O5 O3 O4 (fn:=Try.f9) (c:=Try.f9.body.getD .skip) o7 Try.func9 (by kernel_rfl) (by kernel_rfl) h
end Go.Proofs.Ytchnpgddpaonhaa.d
end
