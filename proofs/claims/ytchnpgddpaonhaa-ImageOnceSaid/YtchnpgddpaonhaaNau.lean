/-
  ImageOnceSaid: part Nau of its proof.
-/
import Derived.Test.YtchnpgddpaonhaaNat
import Derived.Test.YtchnpgddpaonhaaRows
import Derived.Test.YtchnpgddpaonhaaNaq
import Derived.KernelRfl
set_option linter.unusedVariables false
set_option linter.unusedSimpArgs false
set_option maxRecDepth 100000
section
open Go.Proofs Go Go.Am Go.Op
namespace Go.Proofs.Ytchnpgddpaonhaa.d
section
def a2g(y:Int×Int):List D:=[.int .i64 y.1, .int .i64 y.2]
def b6j(arms:List (Int×Int)):D:= .lst (arms.map a2g) 2
def inC(y:In):List D:=[.int .u8 y.op, .int .i64 y.a, .int .i64 y.b,b6j y.arms]
def inD(y:In):D:= .agg (inC y)
def b9J(y:In):List Int:=if isS y=true then b2o y else[]
section
variable{E:l9}{w0:o0}{S0 S:b7}{t:D}{bs ms:List Int}
@[simp] theorem b3Z(arms:List (Int×Int)):r6 (b6j arms)=some (.int .i64 arms.length):=by simp[b6j]
theorem d0S{arms:List (Int×Int)}{i:Nat}{y:Int×Int}(h:arms[i]? =some y):D1 2 (b6j arms) (.int .i64 (i:Int))=some (.elt (a2g y) 0):=b5q (by rw[List.getElem?_map,h];rfl)
theorem c5m(h:b4v S0 t bs S){y:In}(ho:y.Ok)(h49:y.op=49)(hl:bs.length<2^30):n9 Try.prog E w0 a8P [t,inD y] S fun v S'=>
  ∃t' bs',v= .tup [t', .bool (decide (y.arms.length≤65535)&&y.arms.all (c2i (IntKind.u8.wrap y.a))&&P7.may y.b)]∧b4v S0 t' bs' S'∧(y.arms.length≤65535→bs'=bs++(E8 y.arms.length 2++a3a y.arms++E8 y.b 4)):=by
 refine c1r ?_
 unfold b9R
 rw[inD,clA,oD]
 intro k0 a0 n0
 refine E9.use ?_
 rw[a3X (b2H _ _),oD]
 intro k5 a5 n5
 refine stP (ds:=[.int .i64 4,a0c 0 4294967295]) (b7.set_same _ _ _) (clA _) ⟨rfl,by decide,by simp⟩ fun a5=> ?_
 rw[b7.set_set]
 obtain⟨ne5,n5'⟩:=b7.fresh n5
 have l0:∀ {S':b7},(S.set k0 ⟨(inC y).length,[inC y],a0⟩).le S'→∀i,c9 S' (.ptr k0 i)=(inC y)[i]? :=fun h i=>ldP (h _ _ (b7.set_same _ _ _))
 rw[I4,oD,l0 (b7.le_new n5),show(inC y)[0+1]? =some (.int .i64 y.a) from rfl,oD,cvI,oD]
 refine a0Y.use ?_
 rw[a3X (c0l _),oD]
 intro k6 a6 n6
 refine stP (ds:=[.int .i64 8,a6m (IntKind.u8.wrap y.a)]) (b7.set_same _ _ _) (clA _) ⟨rfl,by decide,by simp⟩ fun a6=> ?_
 rw[b7.set_set]
 have g0:=h.under (o:=⟨(inC y).length,[inC y],a0⟩) n0
 have g5:=g0.under (o:=⟨[D.int .i64 0, .nilFn].length,[o5 [D.int .i64 0, .nilFn] 0 [.int .i64 4,a0c 0 4294967295]],a5⟩) n5
 have g6:=g5.under (o:=⟨[D.int .i64 0, .nilFn].length,[o5 [D.int .i64 0, .nilFn] 0 [.int .i64 8,a6m (IntKind.u8.wrap y.a)]],a6⟩) n6
 have z0:S0 k0=none:=by
  cases e:S0 k0 with
  |none=>rfl
  |some o=>rw[h.le _ _ e]at n0;cases n0
 obtain⟨B,hB⟩:∃B,B=((S0.set k0 ⟨(inC y).length,[inC y],a0⟩).set k5 ⟨[D.int .i64 0, .nilFn].length,[o5 [D.int .i64 0, .nilFn] 0 [.int .i64 4,a0c 0 4294967295]],a5⟩).set k6 ⟨[D.int .i64 0, .nilFn].length,[o5 [D.int .i64 0, .nilFn] 0 [.int .i64 8,a6m (IntKind.u8.wrap y.a)]],a6⟩:=⟨_,rfl⟩
 rw[←hB]at g6
 generalize (((S.set k0 _).set k5 _).set k6 _)=S1 at g6 ⊢
 obtain⟨ne6,n6'⟩:=b7.fresh n6
 obtain⟨ne6',n6''⟩:=b7.fresh n6'
 have b0:B k0=some ⟨4,[inC y],a0⟩:=by rw[hB,b7.set_ne _ _ _ (Ne.symm ne6'),b7.set_ne _ _ _ (Ne.symm ne5)];exact b7.set_same _ _ _
 have b5:B k5=some ⟨2,[[.int .i64 4,a0c 0 4294967295]],a5⟩:=by rw[hB,b7.set_ne _ _ _ (Ne.symm ne6)];exact b7.set_same _ _ _
 have b6:B k6=some ⟨2,[[.int .i64 8,a6m (IntKind.u8.wrap y.a)]],a6⟩:=by rw[hB];exact b7.set_same _ _ _
 have z5:S0 k5=none:=by
  cases e:S0 k5 with
  |none=>rfl
  |some o=>rw[h.le _ _ e]at n5';cases n5'
 have z6:S0 k6=none:=by
  cases e:S0 k6 with
  |none=>rfl
  |some o=>rw[h.le _ _ e]at n6'';cases n6''
 have hle:S0.le B:=by rw[hB];exact b7.le_set (b7.le_set (b7.le_new z0) z5) z6
 clear hB n0 n5 n5' n6 n6' n6'' g0 g5 l0
 have l0:∀ {S':b7},B.le S'→∀i,c9 S' (.ptr k0 i)=(inC y)[i]? :=fun h i=>ldP (h _ _ b0)
 have l5:∀ {S':b7},B.le S'→i9 S' 2 (.ptr k5 0)=some (.agg [.int .i64 4,a0c 0 4294967295]):=fun h=>bx (h _ _ b5)
 have l6:∀ {S':b7},B.le S'→i9 S' 2 (.ptr k6 0)=some (.agg [.int .i64 8,a6m (IntKind.u8.wrap y.a)]):=fun h=>bx (h _ _ b6)
 have f5:b9Z [.int .i64 4,a0c 0 4294967295] P7:=⟨_,rfl, .bet _ _⟩
 have f6:b9Z [.int .i64 8,a6m (IntKind.u8.wrap y.a)] (vF (IntKind.u8.wrap y.a)):=⟨_,rfl, .fit _⟩
 have hsh:=ho.short
 simp only[I4,oD,l0 g6.le,show(inC y)[0+3]? =some (b6j y.arms) from rfl,b3Z,a3f]
 rw[O4]
 refine⟨fun hbig=> ?_,fun hsm=> ?_⟩
 ·have c:decide (y.arms.length≤65535)=false:=decide_eq_false (by omega)
  refine d8.less (b7.le_trans hle g6.le) (d8.here ⟨.nilSlc,[], ?_, .inl ⟨rfl,rfl,rfl⟩,fun h=>by omega⟩)
  rw[c,Bool.false_and,Bool.false_and]
 have hsm:y.arms.length≤65535:=by omega
 rw[cvI,oD,b4a (by omega)]
 refine(a3D (s:=2) (by decide) (by decide)).use ?_
 refine(b2X g6 (by rw[s8];omega)).use fun t1 S2 g7=> ?_
 simp only[I4,oD,l0 g7.le,show(inC y)[0+3]? =some (b6j y.arms) from rfl,b3Z]
 refine b7K (I:=fun n x0 x3 x6 x7 x8 x33 x34 x35 S=>∃(B':b7) (j:Nat),B.le B'∧j+n=y.arms.length∧b4v B' x0 (bs++E8 y.arms.length 2++a3a (y.arms.take j)) S∧
   x3= .ptr k0 0∧x6= .ptr k5 0∧x7= .ptr k6 0∧x8= .bool ((y.arms.take j).all (c2i (IntKind.u8.wrap y.a)))∧x33=b6j y.arms∧x34= .int .i64 (y.arms.length:Int)∧x35= .int .i64 (j:Int)) ?_ (n:=y.arms.length)
  ⟨B,0,b7.le_refl _,by omega,by simpa [a3a]using g7,rfl,rfl,rfl,rfl,rfl,rfl,rfl⟩
 rintro n x0 _ _ _ _ _ _ _ S3 ⟨B',j,hB',hj,g8,rfl,rfl,rfl,rfl,rfl,rfl,rfl⟩
 unfold a8s
 have hle8:=b7.le_trans hB' g8.le
 have hbl:(bs++E8 y.arms.length 2++a3a (y.arms.take j)).length<2^40:=by
  simp only[List.length_append,s8,a2D,List.length_take]
  omega
 rw[M9,oD,O4]
 refine⟨fun hlt=> ?_,fun hge=> ?_⟩
 ·have hlt:j<y.arms.length:=by omega
  obtain⟨z,hz⟩:∃z,z=y.arms[j]:=⟨_,rfl⟩
  have hjz:y.arms[j]? =some z:=by rw[List.getElem?_eq_getElem hlt,hz]
  obtain⟨hz1,hz2⟩:=ho.arms z (by rw[hz];exact List.getElem_mem _)
  rw[d0S hjz,oD,laE,if_pos (by simp[a2g]),oD]
  intro k a nk
  refine stP (ds:=a2g z) (b7.set_same _ _ _) (clA _) ⟨rfl,by decide,by simp[a2g]⟩ fun a=> ?_
  rw[b7.set_set]
  have hk:B.le (S3.set k ⟨[D.int .i64 0, .int .i64 0].length,[o5 [D.int .i64 0, .int .i64 0] 0 (a2g z)],a⟩):=b7.le_trans hle8 (b7.le_new nk)
  have g9:=g8.under (o:=⟨[D.int .i64 0, .int .i64 0].length,[o5 [D.int .i64 0, .int .i64 0] 0 (a2g z)],a⟩) nk
  have zk:B' k=none:=by
   cases e:B' k with
   |none=>rfl
   |some o=>rw[g8.le _ _ e]at nk;cases nk
  have lk:∀ {S':b7},(B'.set k ⟨[D.int .i64 0, .int .i64 0].length,[o5 [D.int .i64 0, .int .i64 0] 0 (a2g z)],a⟩).le S'→∀i,c9 S' (.ptr k i)=(a2g z)[i]? :=fun h i=>by
   rw[ldP (h _ _ (b7.set_same _ _ _))];rfl
  have hB9:B.le (B'.set k ⟨[D.int .i64 0, .int .i64 0].length,[o5 [D.int .i64 0, .int .i64 0] 0 (a2g z)],a⟩):=b7.le_trans hB' (b7.le_new zk)
  rw[l6 hk,oD,I4,oD,lk g9.le,show(a2g z)[0+0]? =some (.int .i64 z.1) from rfl,oD]
  refine(a3x g9 f6 hz1 (show 1≤8 by decide) (show 8≤8 by decide) hbl).use ?_
  rintro v S4 ⟨t4,rfl,g10⟩
  simp only[exD,List.getElem?_cons_zero,List.getElem?_cons_succ,oD]
  rw[l5 (b7.le_trans hB9 g10.le),oD,I4,oD,lk g10.le,show(a2g z)[0+1]? =some (.int .i64 z.2) from rfl,oD]
  refine(a3x g10 f5 hz2 (by decide) (by decide) (by simp only[List.length_append,s8,a2D,List.length_take]at hbl ⊢;have:(vF (IntKind.u8.wrap y.a)).size=8:=rfl;omega)).use ?_
  rintro v S5 ⟨t5,rfl,g11⟩
  simp only[exD,List.getElem?_cons_zero,List.getElem?_cons_succ,oD]
  have e1:∀p q r:Bool,(∀K:D→Prop,K (.bool (p&&q&&r))→a9 (j8 (d6 (.bool p) true) (some (.bool q))) fun v55=>a9 (w8 (.bool p) v55 (.bool false)) fun v56=>a9 (j8 (d6 v56 true) (some (.bool r))) fun v57=>a9 (w8 v56 v57 (.bool false)) fun v58=>K v58):=by
   intro p q r K hK
   cases p<;>cases q<;>cases r<;>simpa using hK
  refine e1 _ _ _ (fun v58=>a9 (d9 .add (.int .i64 (j:Int)) (.int .i64 1)) fun v59=>_) ?_
  rw[F7,oD,o3 (by omega) (by omega)]
  refine⟨n - 1,by omega,_,j+1,hB9,by omega, ?_,by trivial,by trivial,by trivial, ?_,by trivial,by trivial,by trivial⟩
  ·have:a3a (y.arms.take (j+1))=a3a (y.arms.take j)++(E8 z.1 8++E8 z.2 4):=by
    rw[List.take_add_one,hjz,Option.toList_some]
    simp[a3a,d0Q,List.flatMap_append]
   rw[this, ←List.append_assoc, ←List.append_assoc]
   exact g11
  ·rw[List.take_add_one,hjz,Option.toList_some,List.all_append,List.all_cons,List.all_nil,Bool.and_true,c8a,Bool.and_assoc]
 ·have hj':j=y.arms.length:=by omega
  subst hj'
  rw[List.take_length]at g8 hbl ⊢
  rw[l5 hle8,oD,I4,oD,l0 hle8,show(inC y)[0+2]? =some (.int .i64 y.b) from rfl,oD]
  refine(a3x g8 f5 ho.b (by decide) (by decide) hbl).use ?_
  rintro v S4 ⟨t4,rfl,g9⟩
  simp only[exD,List.getElem?_cons_zero,List.getElem?_cons_succ,oD]
  obtain⟨S5,hl5,g10⟩:=g9.base (b7.le_trans hle hB')
  have e1:∀p q:Bool,(∀K:D→Prop,K (.bool (p&&q))→a9 (j8 (d6 (.bool p) true) (some (.bool q))) fun v55=>a9 (w8 (.bool p) v55 (.bool false)) fun v56=>K v56):=by
   intro p q K hK
   cases p<;>cases q<;>simpa using hK
  refine e1 _ _ (fun v=>d8 E _ (.tup [t4,v]) S4) ?_
  refine d8.less hl5 (d8.here ⟨t4,_, ?_,g10,fun _=> ?_⟩)
  ·rw[decide_eq_true hsm,Bool.true_and]
  ·simp only[List.append_assoc];rfl
end
end
section
theorem c1P(y:In)(f:Fld):∀(l:List Fld) (i:Nat),a3W y i (l++[f])=a3W y i l++E8 (y.num (i+l.length)) f.size
 | [],i=>by simp[a3W]
 |g::l,i=>by
  rw[List.cons_append,a3W,a3W,c1P y f l (i+1),List.append_assoc,List.length_cons,show i+1+l.length=i+(l.length+1) by omega]
theorem b9z(y:In)(f:Fld):∀(l:List Fld) (i:Nat),a2v y i (l++[f])=(a2v y i l&&f.may (y.num (i+l.length)))
 | [],i=>by simp[a2v]
 |g::l,i=>by
  rw[List.cons_append,a2v,a2v,b9z y f l (i+1),Bool.and_assoc,List.length_cons,show i+1+l.length=i+(l.length+1) by omega]
theorem b3l(y:In):∀(l:List Fld) (i:Nat),(∀f∈l,f.size≤8)→(a3W y i l).length≤8*l.length
 | [],i,_=>by simp[a3W]
 |g::l,i,h=>by
  have:=b3l y l (i+1) fun f hf=>h f (List.mem_cons_of_mem _ hf)
  have:=h g List.mem_cons_self
  rw[a3W,List.length_append,s8,List.length_cons]
  omega
theorem b9Z.load{row:List D}{f:Fld}(h:b9Z row f):row.length=2:=by obtain⟨fv,rfl,_⟩:=h;rfl
section
variable{E:l9}{w0:o0}{S0 S:b7}{t:D}{bs:List Int}{y:In}
theorem c7Q{B:b7}(h:b4v B t bs S)(hB:S0.le B){ok:Bool}(hok:isS y=ok)(hbs:ok=true→bs=b2o y):
  E7 E w0 (d8 E fun d' S'=>d'= .tup [bD (b9J y), .int .i64 (if isS y=true then 0 else 120)]∧S'=S0) (.bool ok) t S:=by
 unfold E7
 rw[unN,oD]
 cases ok with
 |false=>
  simp only[Bool.not_false,cdT]
  refine d8.less (b7.le_trans hB h.le) (d8.nilT (lp:=[]) (sz:=1) (d8.here ⟨?_,rfl⟩))
  rw[b9J,hok];rfl
 |true=>
  simp only[Bool.not_true,cdF]
  obtain⟨S',hl,hg⟩:=h.base hB
  refine d8.less hl (hg.finT (lp:=[]) (d8.here ⟨?_,rfl⟩))
  rw[b9J,hok,hbs rfl];rfl
theorem c0T(ho:y.Ok):a0B Try.prog E w0 a9i [inD y] (.tup [bD (b9J y), .int .i64 (if isS y=true then 0 else 120)]):=fun S=>by
 refine b7w ?_
 unfold b4F
 rw[inD,clA,oD]
 intro k0 a0 n0
 have b0:(S.set k0 ⟨4,[inC y],a0⟩) k0=some ⟨4,[inC y],a0⟩:=b7.set_same _ _ _
 have l0:∀ {S':b7},(S.set k0 ⟨(inC y).length,[inC y],a0⟩).le S'→∀i,c9 S' (.ptr k0 i)=(inC y)[i]? :=fun h i=>ldP (h _ _ b0)
 have hle:S.le (S.set k0 ⟨(inC y).length,[inC y],a0⟩):=b7.le_new n0
 rw[I4,oD,l0 (b7.le_refl _),show(inC y)[0+0]? =some (.int .u8 y.op) from rfl,oD]
 refine b2y.use ?_
 simp only[exD,List.getElem?_cons_zero,List.getElem?_cons_succ,oD]
 rw[l0 (b7.le_refl _),show(inC y)[0+0]? =some (.int .u8 y.op) from rfl,oD]
 simp only[p7,clI,List.length_cons,List.length_nil,List.replicate,List.set]
 rw[if_pos (by decide)]
 refine O7 rfl ?_
 refine(b2X (bs:=[]) (ms:=[y.op]) (Grw.nil _ 1) (by simp)).use fun t1 S1 g1=> ?_
 rw[lnL,oD,a4G]
 obtain⟨l,hl⟩:∃l,l=(lay y.op).getD []:=⟨_,rfl⟩
 have hl2:l.length≤2:=by rw[hl];exact b3m
 have hgood:∀f∈l,b1q f:=by rw[hl];exact b6n _
 have hs8:∀f∈l,f.size≤8:=fun f hf=>a5s (hgood f hf)
 rw[←hl]
 refine b5y (I:=fun n x1 x4 x5 x6 x21 x22 x23 S'=>∃(B:b7) (j:Nat),(S.set k0 ⟨(inC y).length,[inC y],a0⟩).le B∧j+n=l.length∧b4v B x6 (y.op::a3W y 0 (l.take j)) S'∧
   x1= .ptr k0 0∧x4= .lst (a3L y.op) 2∧x5= .bool ((lay y.op).isSome&&a2v y 0 (l.take j))∧x21= .lst (a3L y.op) 2∧x22= .int .i64 (l.length:Int)∧x23= .int .i64 (j:Int)) ?_ (n:=l.length)
  ⟨_,0,b7.le_refl _,by omega,by simpa [a3W]using g1,rfl,rfl,by simp[a2v],rfl,rfl,rfl⟩
 rintro n _ _ _ x6 _ _ _ S2 ⟨B,j,hB,hj,g2,rfl,rfl,rfl,rfl,rfl,rfl⟩
 unfold a5x
 have hle2:=b7.le_trans hB g2.le
 rw[M9,oD,O4]
 refine⟨fun hlt=> ?_,fun hge=> ?_⟩
 ·have hlt:j<l.length:=by omega
  obtain⟨f,hf⟩:∃f,f=l[j]:=⟨_,rfl⟩
  have hjf:l[j]? =some f:=by rw[List.getElem?_eq_getElem hlt,hf]
  obtain⟨row,hrow,hfd⟩:=c4e (op:=y.op) (i:=j) (f:=f) (by rw[←hl];exact hjf)
  obtain⟨hg1,_⟩:=hgood f (by rw[hf];exact List.getElem_mem _)
  have hg8:=hs8 f (by rw[hf];exact List.getElem_mem _)
  have hrl:=hfd.load
  rw[b5q hrow,oD,laE,if_pos ⟨by decide,by omega⟩,oD,List.drop_zero,List.take_of_length_le (by omega)]
  intro k a nk
  have hcl:r4 (.agg row)=some row:=rfl
  refine stP (ds:=row) (b7.set_same _ _ _) (clA _) ⟨hrl,by decide,by simp⟩ fun a=> ?_
  rw[b7.set_set]
  have hset:o5 [D.int .i64 0, .nilFn] 0 row=row:=by
   obtain⟨fv,rfl,_⟩:=hfd;rfl
  rw[hset]
  have g3:=g2.under (o:=⟨[D.int .i64 0, .nilFn].length,[row],a⟩) nk
  have zk:B k=none:=by
   cases e:B k with
   |none=>rfl
   |some o=>rw[g2.le _ _ e]at nk;cases nk
  have hB3:(S.set k0 ⟨(inC y).length,[inC y],a0⟩).le (B.set k ⟨[D.int .i64 0, .nilFn].length,[row],a⟩):=b7.le_trans hB (b7.le_new zk)
  have hnum:∀n',n'=y.num j→a2A E w0 (fun x1 x4 x5 x6 x21 x22 x23 S'=>∃m,m<n∧∃(B:b7) (j:Nat),(S.set k0 ⟨(inC y).length,[inC y],a0⟩).le B∧j+m=l.length∧b4v B x6 (y.op::a3W y 0 (l.take j)) S'∧
    x1= .ptr k0 0∧x4= .lst (a3L y.op) 2∧x5= .bool ((lay y.op).isSome&&a2v y 0 (l.take j))∧x21= .lst (a3L y.op) 2∧x22= .int .i64 (l.length:Int)∧x23= .int .i64 (j:Int))
    (d8 E fun d' S'=>d'= .tup [bD (b9J y), .int .i64 (if isS y=true then 0 else 120)]∧S'=S) (.ptr k0 0) (.lst (a3L y.op) 2) (.bool ((lay y.op).isSome&&a2v y 0 (l.take j))) x6 (.ptr k 0) (.int .i64 n') (.lst (a3L y.op) 2) (.int .i64 (l.length:Int)) (.int .i64 (j:Int))
    (S2.set k ⟨[D.int .i64 0, .nilFn].length,[row],a⟩):=by
   rintro _ rfl
   unfold a2A
   rw[laP (b7.set_same _ _ _) ⟨by decide,by omega⟩,oD,List.drop_zero,List.take_of_length_le (by omega)]
   have hi:I64 (y.num j):=by unfold In.num;split;exact ho.b;exact ho.a
   have hbl:=b3l y (l.take j) 0 fun f hf=>hs8 f (List.mem_of_mem_take hf)
   refine(a3x g3 hfd hi hg1 hg8 (by rw[List.length_cons];rw[List.length_take]at hbl;omega)).use ?_
   rintro v S4 ⟨t4,rfl,g4⟩
   simp only[exD,List.getElem?_cons_zero,List.getElem?_cons_succ,oD]
   have e1:∀p q:Bool,(∀K:D→Prop,K (.bool (p&&q))→a9 (j8 (d6 (.bool p) true) (some (.bool q))) fun v55=>a9 (w8 (.bool p) v55 (.bool false)) fun v56=>K v56):=by
    intro p q K hK
    cases p<;>cases q<;>simpa using hK
   refine e1 _ _ (fun v30=>a9 (d9 .add (.int .i64 (j:Int)) (.int .i64 1)) fun v31=>_) ?_
   rw[F7,oD,o3 (by omega) (by omega)]
   have htk:l.take (j+1)=l.take j++[f]:=by rw[List.take_add_one,hjf];rfl
   have hlj:(l.take j).length=j:=by rw[List.length_take];omega
   refine⟨n - 1,by omega,_,j+1,hB3,by omega, ?_,by trivial,by trivial, ?_,by trivial,by trivial,by trivial⟩
   ·rw[htk,c1P,hlj,Nat.zero_add, ←List.cons_append];exact g4
   ·rw[htk,b9z,hlj,Nat.zero_add,Bool.and_assoc]
  have hle3:(S.set k0 ⟨(inC y).length,[inC y],a0⟩).le (S2.set k ⟨[D.int .i64 0, .nilFn].length,[row],a⟩):=b7.le_trans hB3 g3.le
  rw[I4,oD,l0 hle3,show(inC y)[0+1]? =some (.int .i64 y.a) from rfl,oD,a1Q,oD,cdB]
  refine⟨fun h1=> ?_,fun h1=> ?_⟩
  ·rw[I4,oD,l0 hle3,show(inC y)[0+2]? =some (.int .i64 y.b) from rfl,oD]
   have h1:j=1:=by have:(j:Int)=1:=by simpa using h1
                   omega
   exact hnum _ (by unfold In.num;rw[if_pos h1])
  ·have h1:¬j=1:=by have:¬(j:Int)=1:=by simpa using h1
                    omega
   exact hnum _ (by unfold In.num;rw[if_neg h1])
 ·have hj':j=l.length:=by omega
  subst hj'
  rw[List.take_length]at g2 ⊢
  have hisS:isS y=(((lay y.op).isSome&&a2v y 0 l)&&
    if y.op=49 then decide (y.arms.length≤65535)&&y.arms.all (c2i (IntKind.u8.wrap y.a))&&decide (0≤y.b∧y.b≤4294967295)
    else decide (y.arms.length=0)&&(decide (2≤l.length)||decide (y.b=0))&&(decide (1≤l.length)||decide (y.a=0))):=by rw[hl];rfl
  have henc:b2o y=y.op::a3W y 0 l++if y.op=49 then E8 y.arms.length 2++a3a y.arms++E8 y.b 4 else[]:=by rw[hl];rfl
  generalize hok:((lay y.op).isSome&&a2v y 0 l)=ok at hisS ⊢
  have hbl:=b3l y l 0 hs8
  have hSB:S.le B:=b7.le_trans hle hB
  rw[I4,oD,l0 hle2,show(inC y)[0+0]? =some (.int .u8 y.op) from rfl,oD,a1Q,oD]
  have nope:∀ {ok':Bool},isS y=ok'→(ok'=true→y.op::a3W y 0 l=b2o y)→E7 E w0 (d8 E fun d' S'=>d'= .tup [bD (b9J y), .int .i64 (if isS y=true then 0 else 120)]∧S'=S) (.bool ok') x6 S2:=fun h1 h2=>c7Q g2 hSB h1 h2
  have ll3:c9 S2 (.ptr k0 3)=some (b6j y.arms):=l0 hle2 3
  have ll2:c9 S2 (.ptr k0 2)=some (.int .i64 y.b):=l0 hle2 2
  have ll1:c9 S2 (.ptr k0 1)=some (.int .i64 y.a):=l0 hle2 1
  obtain⟨p1,hp1⟩:∃p,decide ((y.arms.length:Int)>0)=p:=⟨_,rfl⟩
  obtain⟨p2,hp2⟩:∃p,decide ((l.length:Int)<2)=p:=⟨_,rfl⟩
  obtain⟨p3,hp3⟩:∃p,(y.b != 0)=p:=⟨_,rfl⟩
  obtain⟨p4,hp4⟩:∃p,decide ((l.length:Int)<1)=p:=⟨_,rfl⟩
  obtain⟨p5,hp5⟩:∃p,(y.a != 0)=p:=⟨_,rfl⟩
  have key:(decide (y.arms.length=0)&&(decide (2≤l.length)||decide (y.b=0))&&(decide (1≤l.length)||decide (y.a=0)))=(!p1&&(!p2|| !p3)&&(!p4|| !p5)):=by
   have q1:decide (y.arms.length=0)= !p1:=by rw[←hp1, ←decide_not];exact decide_eq_decide.2 (by omega)
   have q2:decide (2≤l.length)= !p2:=by rw[←hp2, ←decide_not];exact decide_eq_decide.2 (by omega)
   have q3:decide (y.b=0)= !p3:=by rw[←hp3];by_cases h:y.b=0<;>simp[h]
   have q4:decide (1≤l.length)= !p4:=by rw[←hp4, ←decide_not];exact decide_eq_decide.2 (by omega)
   have q5:decide (y.a=0)= !p5:=by rw[←hp5];by_cases h:y.a=0<;>simp[h]
   rw[q1,q2,q3,q4,q5]
  by_cases h49:y.op=49
  ·have e49:(y.op==49)=true:=by simp[h49]
   rw[if_pos h49]at hisS henc
   simp only[e49,wdB,beq_self_eq_true,vdT,oD,pdB,if_true]
   cases ok with
   |true=>
    simp only[cdT]
    rw[laP (hle2 _ _ b0) ⟨by decide,by simp[inC]⟩,oD]
    show n9 Try.prog E w0 a8P [x6,inD y] S2 _
    refine(c5m g2 ho h49 (by rw[List.length_cons];omega)).use ?_
    rintro v S3 ⟨t3,bs3,rfl,g3,hb3⟩
    simp only[exD,List.getElem?_cons_zero,List.getElem?_cons_succ,oD]
    refine c7Q g3 hSB (by rw[hisS,Bool.true_and];rfl) fun h=> ?_
    simp only[Bool.and_eq_true,decide_eq_true_eq]at h
    rw[hb3 h.1.1,henc]
   |false=>
    have hn:=nope (ok':=false) (by rw[hisS,Bool.false_and]) (fun h=>by cases h)
    simp only[cdF,I4,oD,Nat.zero_add,ll3,b3Z,a3f,lnL,a4G, ←hl,M9,hp1,hp2,hp4]
    cases p1<;>cases p2<;>cases p3<;>cases p4<;>cases p5<;>simp[ll1,ll2,hp3,hp5]<;>exact hn
  ·have e49:(y.op==49)=false:=by simp[h49]
   rw[if_neg h49]at hisS henc
   rw[List.append_nil]at henc
   rw[key]at hisS
   simp only[e49,wdB,vdF,oD,pdB,Bool.false_eq_true,if_false,cdF,show((false==true)=false) from rfl]
   simp only[I4,oD,Nat.zero_add,ll3,b3Z,a3f,lnL,a4G, ←hl,M9,hp1,hp2,hp4]
   cases p1<;>cases p2<;>cases p3<;>cases p4<;>cases p5<;>simp[ll1,ll2,hp3,hp5]<;>exact nope (by rw[hisS];simp) (fun _=>henc.symm)
theorem c4W(ho:y.Ok):a0B Try.prog E w0 b2V [inD y] (.int .i64 ((b9J y).length:Int)):=fun S=>by
 refine c0Z ?_
 unfold b9t
 rw[inD,clA,oD]
 intro k0 a0 n0
 rw[laP (b7.set_same _ _ _) ⟨by decide,by simp[inC]⟩,oD]
 refine(c0T ho).use ?_
 simp only[exD,List.getElem?_cons_zero,List.getElem?_cons_succ,oD,M5]
 exact d8.drop n0 d8.pure
end
end
section
@[simp] theorem d4p(row:List D)(rows:List (List D))(sz:Nat):D1 sz (.lst (row::rows) sz) (.int .i64 0)=some (.elt row 0):=b5q (i:=0) rfl
@[simp] theorem d4t(a row:List D)(rows:List (List D))(sz:Nat):D1 sz (.lst (a::row::rows) sz) (.int .i64 1)=some (.elt row 0):=b5q (i:=1) rfl
theorem b9l(a b:Int):(a==b)=decide (a=b):=by by_cases h:a=b<;>simp[h]
end
section
def iC(l:List Int):List (List D):=A4 (l.map (D.int .i64))
def iD(l:List Int):D:= .lst (iC l) 1
@[simp] theorem d2G(l:List Int):(iC l).length=l.length:=by simp[iC]
theorem d3e{l:List Int}{i:Nat}{n:Int}(h:l[i]? =some n):(iC l)[i]? =some [.int .i64 n]:=b4P (by rw[List.getElem?_map,h];rfl)
theorem d1J{l:List Int}{i:Nat}{n:Int}(h:l[i]? =some n):D1 1 (iD l) (.int .i64 (i:Int))=some (.elt [.int .i64 n] 0):=b5q (d3e h)
@[simp] theorem c0b(l:List Int):r6 (iD l)=some (.int .i64 l.length):=by simp[iD]
@[simp] theorem c7V(S:b7)(l:List Int):rowsS S 1 (iD l)=some (iC l):=by simp[iD,rowsS,K7]
theorem c1t(a b:List Int):iC (a++b)=iC a++iC b:=by simp[iC,A4]
section
variable{E:l9}{w0:o0}
end
end
section
def b2b(bs:List Int):List UInt8:=bs.map fun b=>UInt8.ofNat b.toNat
theorem c9w(l:List Int):(A4 (l.map (D.int .u8))).mapM b8E=some (b2b l):=by
 induction l with
 |nil=>rfl
 |cons b l ih=>
  have:(A4 ((b::l).map (D.int .u8)))=[D.int .u8 b]::A4 (l.map (D.int .u8)):=rfl
  rw[this,List.mapM_cons,ih]
  rfl
theorem c7I(S:b7)(l:List Int):a8g S (bD l)=some (.str (b2b l)):=by
 have:K7 S 1 (bD l)=some (A4 (l.map (D.int .u8))):=by simp[bD,K7]
 simp only[a8g,this,c9w,Option.map_some]
@[simp] theorem d2L(S:b7)(arms:List (Int×Int)):rowsS S 2 (b6j arms)=some (arms.map a2g):=by simp[b6j,rowsS,K7]
theorem d0U(a b:Int):(a != b)=decide (a≠b):=by by_cases h:a=b<;>simp[h,bne]
section
variable{E:l9}{w0:o0}
end
end
section
abbrev Tx:=List UInt8
structure Ty where
 kind:Int
 name:Tx
 fields:List (Tx×Int)
 elem:Int
 len:Int
 deriving DecidableEq
structure Ro where
 name:Tx
 params:List Int
 results:List Int
 locals:Int
 stack:Int
 code:List Int
 deriving DecidableEq
structure Mo where
 types:List Ty
 texts:List Tx
 funcs:List Ro
 deriving DecidableEq
structure Ty.Ok (t:Ty):Prop where
 kind:0≤t.kind∧t.kind≤255
 name:t.name.length<2^47
 fields:t.fields.length<2^47
 names:∀f∈t.fields,f.1.length<2^47∧I64 f.2
 elem:I64 t.elem
 len:I64 t.len
structure Ro.Ok (r:Ro):Prop where
 name:r.name.length<2^47
 params:r.params.length<2^47
 results:r.results.length<2^47
 ints:∀n∈r.params++r.results,I64 n
 locals:I64 r.locals
 stack:I64 r.stack
 code:r.code.length<2^47
 bytes:∀b∈r.code,M3 b
structure Mo.Ok (m:Mo):Prop where
 types:m.types.length<2^47
 texts:m.texts.length<2^47
 funcs:m.funcs.length<2^47
 ty:∀t∈m.types,t.Ok
 tx:∀t∈m.texts,t.length<2^47
 ro:∀r∈m.funcs,r.Ok
def a0n(f:Tx×Int):List D:=[.str f.1, .int .i64 f.2]
def a5z(fs:List (Tx×Int)):D:= .lst (fs.map a0n) 2
def P3(t:Ty):List D:=[.int .u8 t.kind, .str t.name,a5z t.fields, .int .i64 t.elem, .int .i64 t.len]
def b2i(l:List Ty):D:= .lst (l.map P3) 5
def b1g(l:List Tx):D:= .lst (A4 (l.map D.str)) 1
def roR(r:Ro):List D:=[.str r.name,iD r.params,iD r.results, .int .i64 r.locals, .int .i64 r.stack,bD r.code]
def b2p(l:List Ro):D:= .lst (l.map roR) 6
def moC(m:Mo):List D:=[b2i m.types,b1g m.texts,b2p m.funcs]
def moD(m:Mo):D:= .agg (moC m)
theorem b4w{l:List (Tx×Int)}{i:Nat}{y:Tx×Int}(h:l[i]? =some y):D1 2 (a5z l) (.int .i64 (i:Int))=some (.elt (a0n y) 0):=b5q (by rw[List.getElem?_map,h];rfl)
theorem c2M{l:List Ty}{i:Nat}{y:Ty}(h:l[i]? =some y):D1 5 (b2i l) (.int .i64 (i:Int))=some (.elt (P3 y) 0):=b5q (by rw[List.getElem?_map,h];rfl)
theorem c7S{l:List Tx}{i:Nat}{y:Tx}(h:l[i]? =some y):D1 1 (b1g l) (.int .i64 (i:Int))=some (.elt [.str y] 0):=b5q (b4P (by rw[List.getElem?_map,h];rfl))
theorem c3o{l:List Ro}{i:Nat}{y:Ro}(h:l[i]? =some y):D1 6 (b2p l) (.int .i64 (i:Int))=some (.elt (roR y) 0):=b5q (by rw[List.getElem?_map,h];rfl)
@[simp] theorem a3e(l:List (Tx×Int)):r6 (a5z l)=some (.int .i64 l.length):=by simp[a5z]
@[simp] theorem b0n(l:List Ty):r6 (b2i l)=some (.int .i64 l.length):=by simp[b2i]
@[simp] theorem b4s(l:List Tx):r6 (b1g l)=some (.int .i64 l.length):=by simp[b1g]
@[simp] theorem b4b(l:List Ro):r6 (b2p l)=some (.int .i64 l.length):=by simp[b2p]
@[simp] theorem c9Q(S:b7)(p:Tx×Int):i9 S 2 (.elt (a0n p) 0)=some (.agg (a0n p)):=(rfl)
@[simp] theorem d2A(S:b7)(p:Ty):i9 S 5 (.elt (P3 p) 0)=some (.agg (P3 p)):=(rfl)
@[simp] theorem d3k(S:b7)(p:Ro):i9 S 6 (.elt (roR p) 0)=some (.agg (roR p)):=(rfl)
theorem d3y(a b:Tx):(a==b)=decide (a=b):=by by_cases h:a=b<;>simp[h]
theorem d3v(a b:Tx):b7Y .eql (.str a) (.str b)=some (.bool (decide (a=b))):=by rw[d3h,d3y]
theorem c7F(k:IntKind)(a b:Int):d9 .neq (.int k a) (.int k b)=some (.bool (decide (a≠b))):=by rw[b6h,d0U]
theorem a4r(k:IntKind)(a b:Int):d9 .eql (.int k a) (.int k b)=some (.bool (decide (a=b))):=by rw[a1Q,b9l]
section
variable{E:l9}{w0:o0}
theorem t1:(true==false)=false:=rfl
theorem t2:(false==false)=true:=rfl
theorem t3:(false==true)=false:=rfl
theorem t4:(true==true)=true:=rfl
end
end
end Go.Proofs.Ytchnpgddpaonhaa.d
end
section
open Go.Proofs Go Go.Am
namespace Go.Proofs.Ytchnpgddpaonhaa.d
def a5G:List (Nat×List Nat):=[]
def a5p:List (Nat×List Nat):=[(20,[0,3,6,8])]
def a4T:List (Nat×Arr):=[]
noncomputable def b0G:Code:=(l8 [1,1,1,1,1,1] (Try.f95.body.getD .skip))
def a9N(E:l9)(w0:o0)(Q:D→b7→Prop):r0→List D→b7→Prop:=
 (J6 Try.prog Try.f95 Q)
def a4b(E:l9)(w0:o0)(Q:D→b7→Prop)(x0 x3 x6 x8:D)(S:b7):Prop:=
 a9 (m7 1 x3) fun v25=>
 a9 (c9 S v25) fun v26=>
 a1L Try.prog (n9 Try.prog E w0) S v26 [x8] fun v27 S28=>
 a9 (unD .not v27) fun v29=>
 j0 v29
 (a9 (R6 x0) fun v30=>
 a9 (m7 2 v30) fun v31=>
 f0 S28 1 v31 (.int .i64 120) fun v32 S33=>
 Q (.int .i64 0) S33)
 (a9 (R6 x0) fun v34=>
 a9 (m7 1 v34) fun v35=>
 f0 S28 1 v35 x6 fun v36 S37=>
 Q x8 S37)
def K5(E:l9)(w0:o0)(Q:D→b7→Prop)(x0 x3 x6 x8:D)(S:b7):Prop:=j9 Try.prog E w0 b0G (m9 65 [0,3,6,8] [x0,x3,x6,x8]) S (a9N E w0 Q)
theorem a7O{E:l9}{w0:o0}{Q:D→b7→Prop}{x0 x3 x6 x8:D}{S:b7}(h:a4b E w0 Q x0 x3 x6 x8 S):K5 E w0 Q x0 x3 x6 x8 S:=k9 a5G a5p a4T o7 (by kernel_rfl) h
def a6y(E:l9)(w0:o0)(Q:D→b7→Prop)(a0 a1:D)(S:b7):Prop:=
 a9 (r4 a1) fun cs=>o4 S cs fun v0 S1=>
 a9 (R6 a0) fun v2=>
 a9 (m7 2 v2) fun v3=>
 a9 (c9 S1 v3) fun v4=>
 a9 (d9 .neq v4 (.int .i64 0)) fun v5=>
 j0 v5
 (Q (.int .i64 0) S1)
 (a9 (R6 a0) fun v6=>
 a9 (m7 0 v6) fun v7=>
 a9 (c9 S1 v7) fun v8=>
 a9 (R6 a0) fun v9=>
 a9 (m7 1 v9) fun v10=>
 a9 (c9 S1 v10) fun v11=>
 a9 (m7 0 v0) fun v12=>
 a9 (c9 S1 v12) fun v13=>
 n9 Try.prog E w0 a3Q [v8,v11,v13] S1 fun v14 S15=>
 a9 (o6 v14 0) fun v16=>
 a9 (o6 v14 1) fun v17=>
 a9 (o6 v14 2) fun v18=>
 a9 (d9 .neq v18 (.int .i64 0)) fun v19=>
 j0 v19
 (a9 (R6 a0) fun v20=>
 a9 (m7 2 v20) fun v21=>
 f0 S15 1 v21 (.int .i64 10) fun v22 S23=>
 Q (.int .i64 0) S23)
 (a9 (H7 .i64 v16) fun v24=>
 a9 (m7 1 v0) fun v38=>
 a9 (c9 S15 v38) fun v39=>
 a1L Try.prog (n9 Try.prog E w0) S15 v39 [v24] fun v40 S41=>
 a9 (unD .not v40) fun v42=>
 a9 (j8 (d6 v42 true) (m7 0 v0)) fun v43=>
 a9 (j8 (d6 v42 true) (c9 S41 v43)) fun v44=>
 a9 (j8 (d6 v42 true) (d9 .lss v44 (.int .i64 8))) fun v45=>
 a9 (w8 v42 v45 (.bool false)) fun v46=>
 j0 v46
 (a9 (m7 0 v0) fun v47=>
 a9 (c9 S41 v47) fun v48=>
 a9 (d9 .mul (.int .i64 8) v48) fun v49=>
 a9 (d9 .shl (.int .i64 1) v49) fun v50=>
 a9 (d9 .sub v24 v50) fun v51=>
 K5 E w0 Q a0 v0 v17 v51 S41)
 (K5 E w0 Q a0 v0 v17 v24 S41)))
theorem b0H{E:l9}{w0:o0}{Q:D→b7→Prop}{a0 a1:D}{S:b7}(h:a6y E w0 (d8 E Q) a0 a1 S):n9 Try.prog E w0 B5 [a0,a1] S Q:=
 m6 a5G a5p a4T (fn:=Try.f95) (c:=Try.f95.body.getD .skip) o7 Try.func95 (by kernel_rfl) (by kernel_rfl) h
def U2:List (Nat×List Nat):=[(18,[4,7,10,45,46,47]),(36,[4,7,10,13,14,15])]
def U3:List (Nat×List Nat):=[(34,[4,7,10,13,14]),(46,[4,7,10])]
def R5:List (Nat×Arr):=[(16,(.node 0 7 (.node 0 8 (.node 5 7 (.node 5 8 (.node 7 8 (.leaf [2,3,4,0,1,5,6,7,8,9,10]) (.leaf [2,3,4,0,1,5,6,8,7,9,10])) (.leaf [2,3,4,0,1,8,5,6,7,9,10])) (.node 5 8 (.leaf [2,3,4,0,1,7,5,6,8,9,10]) (.node 7 8 (.leaf [2,3,4,0,1,7,8,5,6,9,10]) (.leaf [2,3,4,0,1,8,7,5,6,9,10])))) (.node 5 7 (.leaf [2,3,4,8,0,1,5,6,7,9,10]) (.leaf [2,3,4,8,0,1,7,5,6,9,10]))) (.node 0 8 (.node 5 8 (.leaf [2,3,4,7,0,1,5,6,8,9,10]) (.leaf [2,3,4,7,0,1,8,5,6,9,10])) (.node 7 8 (.leaf [2,3,4,7,8,0,1,5,6,9,10]) (.leaf [2,3,4,8,7,0,1,5,6,9,10])))))]
noncomputable def a4k:Code:=(l8 [1,1,1,1,1,1,1,1] (Try.f83.body.getD .skip))
def b6C(E:l9)(w0:o0)(Q:D→b7→Prop):r0→List D→b7→Prop:=
 (J6 Try.prog Try.f83 Q)
def a9B(E:l9)(w0:o0)(Q:D→b7→Prop)(x4 x7 x10:D)(S:b7):Prop:=
 a9 (R6 x10) fun v57=>
 a9 (m7 2 v57) fun v58=>
 a9 (c9 S v58) fun v59=>
 a9 (d9 .neq v59 (.int .i64 0)) fun v60=>
 j0 v60
 (a9 (E0 (u6 [(.int .u8 0),(.int .i64 0),(.int .i64 0), .nilSlc] [])) fun v61=>
 a9 (R6 x10) fun v62=>
 a9 (m7 2 v62) fun v63=>
 a9 (c9 S v63) fun v64=>
 f0 S 4 x4 v61 fun v65 S66=>
 r9 v63 S S66∧a9 (i9 S66 4 x4) fun v67=>Q (.tup [v67,(.int .i64 0),v64]) S66)
 (a9 (i9 S 4 x7) fun v68=>
 a9 (R6 x10) fun v69=>
 a9 (m7 1 v69) fun v70=>
 a9 (c9 S v70) fun v71=>
 f0 S 4 x4 v68 fun v72 S73=>
 r9 v70 S S73∧a9 (i9 S73 4 x4) fun v74=>Q (.tup [v74,v71,(.int .i64 0)]) S73)
def a0h(E:l9)(w0:o0)(Q:D→b7→Prop)(x4 x7 x10:D)(S:b7):Prop:=j9 Try.prog E w0 a4k (m9 120 [4,7,10] [x4,x7,x10]) S (b6C E w0 Q)
theorem b3M{E:l9}{w0:o0}{Q:D→b7→Prop}{x4 x7 x10:D}{S:b7}(h:a9B E w0 Q x4 x7 x10 S):a0h E w0 Q x4 x7 x10 S:=k9 U2 U3 R5 o7 (by kernel_rfl) h
noncomputable def a4Q:Code:=(l8 [1,1,1,1,1,1,1,0,1,0,1,0,1,0,0] (Try.f83.body.getD .skip))
def a5q(E:l9)(w0:o0)(Q:D→b7→Prop):r0→List D→b7→Prop:=
 (t7 2 (K4 Try.prog E w0 U2 U3 R5 (l8 [1,1,1,1,1,1,1,0,1,0,1,1] (Try.f83.body.getD .skip)) (d3d Try.prog E w0 120 [4,7,10] a4k (J6 Try.prog Try.f83 Q))))
def a5M(E:l9)(w0:o0)(N1:D→D→D→D→D→D→b7→Prop)(Q:D→b7→Prop)(x4 x7 x10 x13 x14 x15:D)(S:b7):Prop:=
 a9 (d9 .gtr x15 (.int .i64 0)) fun v83=>
 a9 (j8 (d6 v83 true) (some x10)) fun v84=>
 a9 (j8 (d6 v83 true) (R6 v84)) fun v85=>
 a9 (j8 (d6 v83 true) (m7 2 v85)) fun v86=>
 a9 (j8 (d6 v83 true) (c9 S v86)) fun v87=>
 a9 (j8 (d6 v83 true) (d9 .eql v87 (.int .i64 0))) fun v88=>
 a9 (w8 v83 v88 (.bool false)) fun v89=>
 j0 v89
 (a9 (i9 S 2 x14) fun v90=>
 n9 Try.prog E w0 B5 [x10,v90] S fun v91 S92=>
 a9 (m7 3 x7) fun v93=>
 a9 (c9 S92 v93) fun v94=>
 a9 (i9 S92 2 x13) fun v95=>
 n9 Try.prog E w0 B5 [x10,v95] S92 fun v96 S97=>
 r9 v93 S92 S97∧a9 (E0 (u6 [(.int .i64 0),(.int .i64 0)] [(0,1,v91),(1,1,v96)])) fun v98=>
 u4 S97 2 (p7 2 (List.replicate 1 [(.int .i64 0),(.int .i64 0)]) [(0,v98)]) 1 fun v99 S100=>
 r9 v93 S92 S100∧y8 S100 2 16 v94 v99 fun v101 S102=>
 a9 (m7 3 x7) fun v103=>
 f0 S102 1 v103 v101 fun v104 S105=>
 a9 (d9 .sub x15 (.int .i64 1)) fun v106=>
 N1 x4 x7 x10 x13 x14 v106 S105)
 (a9 (i9 S 2 x13) fun v107=>
 n9 Try.prog E w0 B5 [x10,v107] S fun v108 S109=>
 a9 (m7 2 x7) fun v110=>
 f0 S109 1 v110 v108 fun v111 S112=>
 a0h E w0 Q x4 x7 x10 S112)
theorem b3U{E:l9}{w0:o0}{N1:D→D→D→D→D→D→b7→Prop}{Q:D→b7→Prop}{x4 x7 x10 x13 x14 x15:D}{S:b7}(h:a5M E w0 N1 Q x4 x7 x10 x13 x14 x15 S):
  j9 Try.prog E w0 a4Q (m9 120 [4,7,10,13,14,15] [x4,x7,x10,x13,x14,x15]) S (D8 (fun T S=>N1 (T.getD 4 b8) (T.getD 7 b8) (T.getD 10 b8) (T.getD 13 b8) (T.getD 14 b8) (T.getD 15 b8) S) (a5q E w0 Q)):=k9 U2 U3 R5 o7 (by kernel_rfl) h
theorem b4U{E:l9}{w0:o0}{Q:D→b7→Prop}(I:Nat→D→D→D→D→D→D→b7→Prop)
  (step:∀n x4 x7 x10 x13 x14 x15 S,I n x4 x7 x10 x13 x14 x15 S→a5M E w0 (fun x4 x7 x10 x13 x14 x15 S=>∃m,m<n∧I m x4 x7 x10 x13 x14 x15 S) Q x4 x7 x10 x13 x14 x15 S)
  {n:Nat} {x4 x7 x10 x13 x14 x15:D} {S:b7} (h:I n x4 x7 x10 x13 x14 x15 S):j9 Try.prog E w0 (.loop a4Q) (m9 120 [4,7,10,13,14,15] [x4,x7,x10,x13,x14,x15]) S (a5q E w0 Q):=
 s0 (k:=120) (n:=n) (I:=fun n T S=>I n (T.getD 4 b8) (T.getD 7 b8) (T.getD 10 b8) (T.getD 13 b8) (T.getD 14 b8) (T.getD 15 b8) S) (fun n T S hl hI=>s5 [4,7,10,13,14,15] hl (j9.mono (b3U (step n _ _ _ _ _ _ S hI)) fun ex T' S' _ hq=>by cases ex<;>exact hq)) (o8 ..) (Eq.mp (by kernel_rfl) h)
noncomputable def b7q:Code:=(l8 [1,1,1,1,1,1,1,0,1,0,1] (Try.f83.body.getD .skip))
def b6A(E:l9)(w0:o0)(Q:D→b7→Prop):r0→List D→b7→Prop:=
 (d3d Try.prog E w0 120 [4,7,10] a4k (J6 Try.prog Try.f83 Q))
def a9F(E:l9)(w0:o0)(Q:D→b7→Prop)(x4 x7 x10 x13 x14:D)(S:b7):Prop:=
 n9 Try.prog E w0 t6 [(.int .i64 0),(.int .i64 65535)] S fun v78 S79=>
 a9 (E0 (u6 [(.int .i64 0), .nilFn] [(0,1,(.int .i64 2)),(1,1,v78)])) fun v80=>
 n9 Try.prog E w0 B5 [x10,v80] S79 fun v81 S82=>
 j9 Try.prog E w0 (.loop a4Q) (m9 120 [4,7,10,13,14,15] [x4,x7,x10,x13,x14,v81]) S82 (a5q E w0 Q)
def t8(E:l9)(w0:o0)(Q:D→b7→Prop)(x4 x7 x10 x13 x14:D)(S:b7):Prop:=j9 Try.prog E w0 b7q (m9 120 [4,7,10,13,14] [x4,x7,x10,x13,x14]) S (b6A E w0 Q)
theorem b3q{E:l9}{w0:o0}{Q:D→b7→Prop}{x4 x7 x10 x13 x14:D}{S:b7}(h:a9F E w0 Q x4 x7 x10 x13 x14 S):t8 E w0 Q x4 x7 x10 x13 x14 S:=k9 U2 U3 R5 o7 (by kernel_rfl) h
noncomputable def a5N:Code:=(l8 [1,1,1,1,1,1,0,1,0,0] (Try.f83.body.getD .skip))
def a5T(E:l9)(w0:o0)(Q:D→b7→Prop):r0→List D→b7→Prop:=
 (t7 0 (K4 Try.prog E w0 U2 U3 R5 (l8 [1,1,1,1,1,1,1] (Try.f83.body.getD .skip)) (J6 Try.prog Try.f83 Q)))
def a5I(E:l9)(w0:o0)(N0:D→D→D→D→D→D→b7→Prop)(Q:D→b7→Prop)(x4 x7 x10 x45 x46 x47:D)(S:b7):Prop:=
 a9 (d9 .lss x47 x46) fun v35=>
 j0 v35
 (a9 (D1 2 x45 x47) fun v36=>
 a9 (i9 S 2 v36) fun v37=>
 o4 S [(.int .i64 0), .nilFn] fun v38 S39=>
 f0 S39 2 v38 v37 fun v40 S41=>
 a9 (d9 .eql x47 (.int .i64 0)) fun v42=>
 j0 v42
 (a9 (i9 S41 2 v38) fun v43=>
 n9 Try.prog E w0 B5 [x10,v43] S41 fun v44 S45=>
 a9 (m7 1 x7) fun v46=>
 f0 S45 1 v46 v44 fun v47 S48=>
 a9 (d9 .add x47 (.int .i64 1)) fun v49=>
 N0 x4 x7 x10 x45 x46 v49 S48)
 (a9 (i9 S41 2 v38) fun v50=>
 n9 Try.prog E w0 B5 [x10,v50] S41 fun v51 S52=>
 a9 (m7 2 x7) fun v53=>
 f0 S52 1 v53 v51 fun v54 S55=>
 a9 (d9 .add x47 (.int .i64 1)) fun v56=>
 N0 x4 x7 x10 x45 x46 v56 S55))
 (a9 (m7 0 x7) fun v75=>
 a9 (c9 S v75) fun v76=>
 a9 (d9 .eql v76 (.int .u8 49)) fun v77=>
 j0 v77
 ((((((a9 (m7 1 x7) fun v113=>
 a9 (c9 S v113) fun v114=>
 a9 (H7 .u8 v114) fun v115=>
 n9 Try.prog E w0 t6 [(.int .i64 0),(.int .i64 4294967295)] S fun v116 S117=>
 r9 v113 S S117∧a9 (E0 (u6 [(.int .i64 0), .nilFn] [(0,1,(.int .i64 4)),(1,1,v116)])) fun v118=>
 n9 Try.prog E w0 D5 [v115] S117 fun v119 S120=>
 a9 (E0 (u6 [(.int .i64 0), .nilFn] [(0,1,(.int .i64 8)),(1,1,v119)])) fun v121=>
 o4 S120 [(.int .i64 0), .nilFn] fun v122 S123=>
 o4 S123 [(.int .i64 0), .nilFn] fun v124 S125=>
 f0 S125 2 v122 v118 fun v126 S127=>
 f0 S127 2 v124 v121 fun v128 S129=>
 t8 E w0 Q x4 x7 x10 v122 v124 S129)∧
 (a9 (m7 1 x7) fun v130=>
 a9 (c9 S v130) fun v131=>
 a9 (H7 .u8 v131) fun v132=>
 n9 Try.prog E w0 t6 [(.int .i64 0),(.int .i64 4294967295)] S fun v133 S134=>
 r9 v130 S S134∧a9 (E0 (u6 [(.int .i64 0), .nilFn] [(0,1,(.int .i64 4)),(1,1,v133)])) fun v135=>
 n9 Try.prog E w0 D5 [v132] S134 fun v136 S137=>
 a9 (E0 (u6 [(.int .i64 0), .nilFn] [(0,1,(.int .i64 8)),(1,1,v136)])) fun v138=>
 o4 S137 [(.int .i64 0), .nilFn] fun v139 S140=>
 o4 S140 [(.int .i64 0), .nilFn] fun v141 S142=>
 f0 S142 2 v141 v135 fun v143 S144=>
 f0 S144 2 v139 v138 fun v145 S146=>
 t8 E w0 Q x4 x7 x10 v141 v139 S146))∧
 (a9 (m7 1 x7) fun v147=>
 a9 (c9 S v147) fun v148=>
 a9 (H7 .u8 v148) fun v149=>
 n9 Try.prog E w0 t6 [(.int .i64 0),(.int .i64 4294967295)] S fun v150 S151=>
 r9 v147 S S151∧a9 (E0 (u6 [(.int .i64 0), .nilFn] [(0,1,(.int .i64 4)),(1,1,v150)])) fun v152=>
 o4 S151 [(.int .i64 0), .nilFn] fun v153 S154=>
 r9 v147 S S154∧n9 Try.prog E w0 D5 [v149] S154 fun v155 S156=>
 a9 (E0 (u6 [(.int .i64 0), .nilFn] [(0,1,(.int .i64 8)),(1,1,v155)])) fun v157=>
 o4 S156 [(.int .i64 0), .nilFn] fun v158 S159=>
 f0 S159 2 v158 v152 fun v160 S161=>
 f0 S161 2 v153 v157 fun v162 S163=>
 t8 E w0 Q x4 x7 x10 v158 v153 S163))∧
 ((a9 (m7 1 x7) fun v164=>
 a9 (c9 S v164) fun v165=>
 a9 (H7 .u8 v165) fun v166=>
 n9 Try.prog E w0 t6 [(.int .i64 0),(.int .i64 4294967295)] S fun v167 S168=>
 r9 v164 S S168∧a9 (E0 (u6 [(.int .i64 0), .nilFn] [(0,1,(.int .i64 4)),(1,1,v167)])) fun v169=>
 o4 S168 [(.int .i64 0), .nilFn] fun v170 S171=>
 r9 v164 S S171∧n9 Try.prog E w0 D5 [v166] S171 fun v172 S173=>
 a9 (E0 (u6 [(.int .i64 0), .nilFn] [(0,1,(.int .i64 8)),(1,1,v172)])) fun v174=>
 o4 S173 [(.int .i64 0), .nilFn] fun v175 S176=>
 f0 S176 2 v170 v169 fun v177 S178=>
 f0 S178 2 v175 v174 fun v179 S180=>
 t8 E w0 Q x4 x7 x10 v170 v175 S180)∧
 ((a9 (m7 1 x7) fun v181=>
 a9 (c9 S v181) fun v182=>
 a9 (H7 .u8 v182) fun v183=>
 n9 Try.prog E w0 t6 [(.int .i64 0),(.int .i64 4294967295)] S fun v184 S185=>
 r9 v181 S S185∧a9 (E0 (u6 [(.int .i64 0), .nilFn] [(0,1,(.int .i64 4)),(1,1,v184)])) fun v186=>
 o4 S185 [(.int .i64 0), .nilFn] fun v187 S188=>
 r9 v181 S S188∧o4 S188 [(.int .i64 0), .nilFn] fun v189 S190=>
 r9 v181 S S190∧n9 Try.prog E w0 D5 [v183] S190 fun v191 S192=>
 a9 (E0 (u6 [(.int .i64 0), .nilFn] [(0,1,(.int .i64 8)),(1,1,v191)])) fun v193=>
 f0 S192 2 v187 v186 fun v194 S195=>
 f0 S195 2 v189 v193 fun v196 S197=>
 t8 E w0 Q x4 x7 x10 v187 v189 S197)∧
 (a9 (m7 1 x7) fun v198=>
 a9 (c9 S v198) fun v199=>
 a9 (H7 .u8 v199) fun v200=>
 n9 Try.prog E w0 t6 [(.int .i64 0),(.int .i64 4294967295)] S fun v201 S202=>
 r9 v198 S S202∧a9 (E0 (u6 [(.int .i64 0), .nilFn] [(0,1,(.int .i64 4)),(1,1,v201)])) fun v203=>
 o4 S202 [(.int .i64 0), .nilFn] fun v204 S205=>
 r9 v198 S S205∧o4 S205 [(.int .i64 0), .nilFn] fun v206 S207=>
 r9 v198 S S207∧n9 Try.prog E w0 D5 [v200] S207 fun v208 S209=>
 a9 (E0 (u6 [(.int .i64 0), .nilFn] [(0,1,(.int .i64 8)),(1,1,v208)])) fun v210=>
 f0 S209 2 v206 v203 fun v211 S212=>
 f0 S212 2 v204 v210 fun v213 S214=>
 t8 E w0 Q x4 x7 x10 v206 v204 S214))))∧
 ((a9 (m7 1 x7) fun v215=>
 a9 (c9 S v215) fun v216=>
 a9 (H7 .u8 v216) fun v217=>
 o4 S [(.int .i64 0), .nilFn] fun v218 S219=>
 r9 v215 S S219∧n9 Try.prog E w0 t6 [(.int .i64 0),(.int .i64 4294967295)] S219 fun v220 S221=>
 r9 v215 S S221∧a9 (E0 (u6 [(.int .i64 0), .nilFn] [(0,1,(.int .i64 4)),(1,1,v220)])) fun v222=>
 n9 Try.prog E w0 D5 [v217] S221 fun v223 S224=>
 a9 (E0 (u6 [(.int .i64 0), .nilFn] [(0,1,(.int .i64 8)),(1,1,v223)])) fun v225=>
 o4 S224 [(.int .i64 0), .nilFn] fun v226 S227=>
 f0 S227 2 v226 v222 fun v228 S229=>
 f0 S229 2 v218 v225 fun v230 S231=>
 t8 E w0 Q x4 x7 x10 v226 v218 S231)∧
 (a9 (m7 1 x7) fun v232=>
 a9 (c9 S v232) fun v233=>
 a9 (H7 .u8 v233) fun v234=>
 o4 S [(.int .i64 0), .nilFn] fun v235 S236=>
 r9 v232 S S236∧n9 Try.prog E w0 t6 [(.int .i64 0),(.int .i64 4294967295)] S236 fun v237 S238=>
 r9 v232 S S238∧a9 (E0 (u6 [(.int .i64 0), .nilFn] [(0,1,(.int .i64 4)),(1,1,v237)])) fun v239=>
 o4 S238 [(.int .i64 0), .nilFn] fun v240 S241=>
 r9 v232 S S241∧n9 Try.prog E w0 D5 [v234] S241 fun v242 S243=>
 a9 (E0 (u6 [(.int .i64 0), .nilFn] [(0,1,(.int .i64 8)),(1,1,v242)])) fun v244=>
 f0 S243 2 v240 v239 fun v245 S246=>
 f0 S246 2 v235 v244 fun v247 S248=>
 t8 E w0 Q x4 x7 x10 v240 v235 S248)))∧
 (((a9 (m7 1 x7) fun v249=>
 a9 (c9 S v249) fun v250=>
 a9 (H7 .u8 v250) fun v251=>
 o4 S [(.int .i64 0), .nilFn] fun v252 S253=>
 r9 v249 S S253∧n9 Try.prog E w0 t6 [(.int .i64 0),(.int .i64 4294967295)] S253 fun v254 S255=>
 r9 v249 S S255∧a9 (E0 (u6 [(.int .i64 0), .nilFn] [(0,1,(.int .i64 4)),(1,1,v254)])) fun v256=>
 n9 Try.prog E w0 D5 [v251] S255 fun v257 S258=>
 a9 (E0 (u6 [(.int .i64 0), .nilFn] [(0,1,(.int .i64 8)),(1,1,v257)])) fun v259=>
 o4 S258 [(.int .i64 0), .nilFn] fun v260 S261=>
 f0 S261 2 v252 v256 fun v262 S263=>
 f0 S263 2 v260 v259 fun v264 S265=>
 t8 E w0 Q x4 x7 x10 v252 v260 S265)∧
 (a9 (m7 1 x7) fun v266=>
 a9 (c9 S v266) fun v267=>
 a9 (H7 .u8 v267) fun v268=>
 o4 S [(.int .i64 0), .nilFn] fun v269 S270=>
 r9 v266 S S270∧n9 Try.prog E w0 t6 [(.int .i64 0),(.int .i64 4294967295)] S270 fun v271 S272=>
 r9 v266 S S272∧a9 (E0 (u6 [(.int .i64 0), .nilFn] [(0,1,(.int .i64 4)),(1,1,v271)])) fun v273=>
 o4 S272 [(.int .i64 0), .nilFn] fun v274 S275=>
 r9 v266 S S275∧n9 Try.prog E w0 D5 [v268] S275 fun v276 S277=>
 a9 (E0 (u6 [(.int .i64 0), .nilFn] [(0,1,(.int .i64 8)),(1,1,v276)])) fun v278=>
 f0 S277 2 v269 v273 fun v279 S280=>
 f0 S280 2 v274 v278 fun v281 S282=>
 t8 E w0 Q x4 x7 x10 v269 v274 S282))∧
 ((a9 (m7 1 x7) fun v283=>
 a9 (c9 S v283) fun v284=>
 a9 (H7 .u8 v284) fun v285=>
 o4 S [(.int .i64 0), .nilFn] fun v286 S287=>
 r9 v283 S S287∧o4 S287 [(.int .i64 0), .nilFn] fun v288 S289=>
 r9 v283 S S289∧n9 Try.prog E w0 t6 [(.int .i64 0),(.int .i64 4294967295)] S289 fun v290 S291=>
 r9 v283 S S291∧a9 (E0 (u6 [(.int .i64 0), .nilFn] [(0,1,(.int .i64 4)),(1,1,v290)])) fun v292=>
 n9 Try.prog E w0 D5 [v285] S291 fun v293 S294=>
 a9 (E0 (u6 [(.int .i64 0), .nilFn] [(0,1,(.int .i64 8)),(1,1,v293)])) fun v295=>
 f0 S294 2 v286 v292 fun v296 S297=>
 f0 S297 2 v288 v295 fun v298 S299=>
 t8 E w0 Q x4 x7 x10 v286 v288 S299)∧
 (a9 (m7 1 x7) fun v300=>
 a9 (c9 S v300) fun v301=>
 a9 (H7 .u8 v301) fun v302=>
 o4 S [(.int .i64 0), .nilFn] fun v303 S304=>
 r9 v300 S S304∧o4 S304 [(.int .i64 0), .nilFn] fun v305 S306=>
 r9 v300 S S306∧n9 Try.prog E w0 t6 [(.int .i64 0),(.int .i64 4294967295)] S306 fun v307 S308=>
 r9 v300 S S308∧a9 (E0 (u6 [(.int .i64 0), .nilFn] [(0,1,(.int .i64 4)),(1,1,v307)])) fun v309=>
 n9 Try.prog E w0 D5 [v302] S308 fun v310 S311=>
 a9 (E0 (u6 [(.int .i64 0), .nilFn] [(0,1,(.int .i64 8)),(1,1,v310)])) fun v312=>
 f0 S311 2 v305 v309 fun v313 S314=>
 f0 S314 2 v303 v312 fun v315 S316=>
 t8 E w0 Q x4 x7 x10 v305 v303 S316))))
 (a0h E w0 Q x4 x7 x10 S))
theorem b4C{E:l9}{w0:o0}{N0:D→D→D→D→D→D→b7→Prop}{Q:D→b7→Prop}{x4 x7 x10 x45 x46 x47:D}{S:b7}(h:a5I E w0 N0 Q x4 x7 x10 x45 x46 x47 S):
  j9 Try.prog E w0 a5N (m9 120 [4,7,10,45,46,47] [x4,x7,x10,x45,x46,x47]) S (D8 (fun T S=>N0 (T.getD 4 b8) (T.getD 7 b8) (T.getD 10 b8) (T.getD 45 b8) (T.getD 46 b8) (T.getD 47 b8) S) (a5T E w0 Q)):=k9 U2 U3 R5 o7 (by kernel_rfl) h
theorem b4f{E:l9}{w0:o0}{Q:D→b7→Prop}(I:Nat→D→D→D→D→D→D→b7→Prop)
  (step:∀n x4 x7 x10 x45 x46 x47 S,I n x4 x7 x10 x45 x46 x47 S→a5I E w0 (fun x4 x7 x10 x45 x46 x47 S=>∃m,m<n∧I m x4 x7 x10 x45 x46 x47 S) Q x4 x7 x10 x45 x46 x47 S)
  {n:Nat} {x4 x7 x10 x45 x46 x47:D} {S:b7} (h:I n x4 x7 x10 x45 x46 x47 S):j9 Try.prog E w0 (.loop a5N) (m9 120 [4,7,10,45,46,47] [x4,x7,x10,x45,x46,x47]) S (a5T E w0 Q):=
 s0 (k:=120) (n:=n) (I:=fun n T S=>I n (T.getD 4 b8) (T.getD 7 b8) (T.getD 10 b8) (T.getD 45 b8) (T.getD 46 b8) (T.getD 47 b8) S) (fun n T S hl hI=>s5 [4,7,10,45,46,47] hl (j9.mono (b4C (step n _ _ _ _ _ _ S hI)) fun ex T' S' _ hq=>by cases ex<;>exact hq)) (o8 ..) (Eq.mp (by kernel_rfl) h)
def b4L(E:l9)(w0:o0)(Q:D→b7→Prop)(a0 a1:D)(S:b7):Prop:=
 o4 S [(.int .u8 0),(.int .i64 0),(.int .i64 0), .nilSlc] fun v0 S1=>
 a9 (d9 .lss a1 (.int .i64 0)) fun v2=>
 a9 (j8 (d6 v2 false) (some a1)) fun v3=>
 a9 (j8 (d6 v2 false) (some a0)) fun v4=>
 a9 (j8 (d6 v2 false) (r6 v4)) fun v5=>
 a9 (j8 (d6 v2 false) (d9 .geq v3 v5)) fun v6=>
 a9 (w8 v2 (.bool true) v6) fun v7=>
 j0 v7
 (a9 (E0 (u6 [(.int .u8 0),(.int .i64 0),(.int .i64 0), .nilSlc] [])) fun v8=>
 f0 S1 4 v0 v8 fun v9 S10=>
 a9 (i9 S10 4 v0) fun v11=>Q (.tup [v11,(.int .i64 0),(.int .i64 2)]) S10)
 (a9 (D1 1 a0 a1) fun v12=>
 a9 (c9 S1 v12) fun v13=>
 a9 (E0 (u6 [(.int .u8 0),(.int .i64 0),(.int .i64 0), .nilSlc] [(0,1,v13)])) fun v14=>
 o4 S1 [(.int .u8 0),(.int .i64 0),(.int .i64 0), .nilSlc] fun v15 S16=>
 f0 S16 4 v15 v14 fun v17 S18=>
 a9 (m7 0 v15) fun v19=>
 a9 (c9 S18 v19) fun v20=>
 n9 Try.prog E w0 a4E [v20] S18 fun v21 S22=>
 a9 (o6 v21 0) fun v23=>
 a9 (o6 v21 1) fun v24=>
 a9 (unD .not v24) fun v25=>
 j0 v25
 (a9 (E0 (u6 [(.int .u8 0),(.int .i64 0),(.int .i64 0), .nilSlc] [])) fun v26=>
 f0 S22 4 v0 v26 fun v27 S28=>
 a9 (i9 S28 4 v0) fun v29=>Q (.tup [v29,(.int .i64 0),(.int .i64 120)]) S28)
 (a9 (d9 .add a1 (.int .i64 1)) fun v30=>
 a9 (E0 (u6 [.nilSlc,(.int .i64 0),(.int .i64 0)] [(0,1,a0),(1,1,v30)])) fun v31=>
 a9 (r4 v31) fun cs=>o4 S22 cs fun v32 S33=>
 a9 (r6 v23) fun v34=>
 j9 Try.prog E w0 (.loop a5N) (m9 120 [4,7,10,45,46,47] [v0,v15,v32,v23,v34,(.int .i64 0)]) S33 (a5T E w0 Q)))
theorem b7W{E:l9}{w0:o0}{Q:D→b7→Prop}{a0 a1:D}{S:b7}(h:b4L E w0 (d8 E Q) a0 a1 S):n9 Try.prog E w0 a4A [a0,a1] S Q:=
 m6 U2 U3 R5 (fn:=Try.f83) (c:=Try.f83.body.getD .skip) o7 Try.func83 (by kernel_rfl) (by kernel_rfl) h
def b3F:List (Nat×List Nat):=[(8,[0,5,6,7])]
def b3A:List (Nat×List Nat):=[]
def b3J:List (Nat×Arr):=[]
noncomputable def b1s:Code:=(l8 [1,1,1,0,1,0,0] (Try.f74.body.getD .skip))
def b0b(E:l9)(w0:o0)(Q:D→b7→Prop):r0→List D→b7→Prop:=
 (t7 0 (K4 Try.prog E w0 b3F b3A b3J (l8 [1,1,1,1] (Try.f74.body.getD .skip)) (J6 Try.prog Try.f74 Q)))
def b0u(E:l9)(w0:o0)(N0:D→D→D→D→b7→Prop)(Q:D→b7→Prop)(x0 x5 x6 x7:D)(S:b7):Prop:=
 a9 (r6 x0) fun v0=>
 a9 (d9 .lss x7 v0) fun v1=>
 j0 v1
 (n9 Try.prog E w0 a4A [x0,x7] S fun v2 S3=>
 a9 (o6 v2 0) fun v4=>
 a9 (o6 v2 1) fun v5=>
 a9 (o6 v2 2) fun v6=>
 o4 S3 [(.int .u8 0),(.int .i64 0),(.int .i64 0), .nilSlc] fun v7 S8=>
 f0 S8 4 v7 v4 fun v9 S10=>
 a9 (d9 .neq v6 (.int .i64 0)) fun v11=>
 j0 v11
 (Q (.tup [.nilSlc, .nilSlc,v6]) S10)
 (a9 (i9 S10 4 v7) fun v12=>
 u4 S10 4 (p7 4 (List.replicate 1 [(.int .u8 0),(.int .i64 0),(.int .i64 0), .nilSlc]) [(0,v12)]) 1 fun v13 S14=>
 y8 S14 4 48 x5 v13 fun v15 S16=>
 u4 S16 1 (p7 1 (List.replicate 1 [(.int .i64 0)]) [(0,x7)]) 1 fun v17 S18=>
 y8 S18 1 8 x6 v17 fun v19 S20=>
 N0 x0 v15 v19 v5 S20))
 (Q (.tup [x5,x6,(.int .i64 0)]) S)
theorem b9y{E:l9}{w0:o0}{N0:D→D→D→D→b7→Prop}{Q:D→b7→Prop}{x0 x5 x6 x7:D}{S:b7}(h:b0u E w0 N0 Q x0 x5 x6 x7 S):
  j9 Try.prog E w0 b1s (m9 36 [0,5,6,7] [x0,x5,x6,x7]) S (D8 (fun T S=>N0 (T.getD 0 b8) (T.getD 5 b8) (T.getD 6 b8) (T.getD 7 b8) S) (b0b E w0 Q)):=k9 b3F b3A b3J o7 (by kernel_rfl) h
theorem c0x{E:l9}{w0:o0}{Q:D→b7→Prop}(I:Nat→D→D→D→D→b7→Prop)
  (step:∀n x0 x5 x6 x7 S,I n x0 x5 x6 x7 S→b0u E w0 (fun x0 x5 x6 x7 S=>∃m,m<n∧I m x0 x5 x6 x7 S) Q x0 x5 x6 x7 S)
  {n:Nat} {x0 x5 x6 x7:D} {S:b7} (h:I n x0 x5 x6 x7 S):j9 Try.prog E w0 (.loop b1s) (m9 36 [0,5,6,7] [x0,x5,x6,x7]) S (b0b E w0 Q):=
 s0 (k:=36) (n:=n) (I:=fun n T S=>I n (T.getD 0 b8) (T.getD 5 b8) (T.getD 6 b8) (T.getD 7 b8) S) (fun n T S hl hI=>s5 [0,5,6,7] hl (j9.mono (b9y (step n _ _ _ _ S hI)) fun ex T' S' _ hq=>by cases ex<;>exact hq)) (o8 ..) (Eq.mp (by kernel_rfl) h)
def c1V(E:l9)(w0:o0)(Q:D→b7→Prop)(a0:D)(S:b7):Prop:=
 j9 Try.prog E w0 (.loop b1s) (m9 36 [0,5,6,7] [a0, .nilSlc, .nilSlc,(.int .i64 0)]) S (b0b E w0 Q)
theorem c3J{E:l9}{w0:o0}{Q:D→b7→Prop}{a0:D}{S:b7}(h:c1V E w0 (d8 E Q) a0 S):n9 Try.prog E w0 b6d [a0] S Q:=
 m6 b3F b3A b3J (fn:=Try.f74) (c:=Try.f74.body.getD .skip) o7 Try.func74 (by kernel_rfl) (by kernel_rfl) h
end Go.Proofs.Ytchnpgddpaonhaa.d
end
