/-
  TransferHeightsSaid: part Hav of its proof.
-/
import Derived.Test.YtdkidgkiplcggaaHau
import Derived.Test.YtdkidgkiplcggaaRows
import Derived.Test.YtdkidgkiplcggaaHar
import Derived.KernelRfl
set_option linter.unusedVariables false
set_option linter.unusedSimpArgs false
set_option maxRecDepth 100000
section
open Go.Proofs Go Go.Am Go.Op
namespace Go.Proofs.Ytdkidgkiplcggaa.d
section
def a0j(y:Int×Int):List D:=[.int .i64 y.1, .int .i64 y.2]
def b3T(arms:List (Int×Int)):D:= .lst (arms.map a0j) 2
def O2(y:In):List D:=[.int .u8 y.op, .int .i64 y.a, .int .i64 y.b,b3T y.arms]
def inD(y:In):D:= .agg (O2 y)
def c0h(y:In):List Int:=if isS y=true then b2R y else[]
section
variable{E:j3}{w0:j8}{S0 S:b8}{t:D}{bs ms:List Int}
@[simp] theorem b1X(arms:List (Int×Int)):m8 (b3T arms)=some (.int .i64 arms.length):=by simp[b3T]
theorem c9k{arms:List (Int×Int)}{i:Nat}{y:Int×Int}(h:arms[i]? =some y):o7 2 (b3T arms) (.int .i64 (i:Int))=some (.elt (a0j y) 0):=b3J (by rw[List.getElem?_map,h];rfl)
theorem c5Y(h:b5x S0 t bs S){y:In}(ho:y.Ok)(h49:y.op=49)(hl:bs.length<2^30):l8 Try.prog E w0 a8t [t,inD y] S fun v S'=>
  ∃t' bs',v= .tup [t', .bool (decide (y.arms.length≤65535)&&y.arms.all (c1j (IntKind.u8.wrap y.a))&&P2.may y.b)]∧b5x S0 t' bs' S'∧(y.arms.length≤65535→bs'=bs++(G4 y.arms.length 2++a3j y.arms++G4 y.b 4)):=by
 refine c2M ?_
 unfold c1f
 rw[inD,Q8,oD]
 intro k0 a0 n0
 refine D9.use ?_
 rw[a4a (b3s _ _),oD]
 intro k5 a5 n5
 refine stP (ds:=[.int .i64 4,Z7 0 4294967295]) (b8.set_same _ _ _) (Q8 _) ⟨rfl,by decide,by simp⟩ fun a5=> ?_
 rw[b8.set_set]
 obtain⟨ne5,n5'⟩:=b8.fresh n5
 have l0:∀ {S':b8},(S.set k0 ⟨(O2 y).length,[O2 y],a0⟩).le S'→∀i,c9 S' (.ptr k0 i)=(O2 y)[i]? :=fun h i=>ldP (h _ _ (b8.set_same _ _ _))
 rw[D8,oD,l0 (b8.le_new n5),show(O2 y)[0+1]? =some (.int .i64 y.a) from rfl,oD,cvI,oD]
 refine a0E.use ?_
 rw[a4a (c0I _),oD]
 intro k6 a6 n6
 refine stP (ds:=[.int .i64 8,a6F (IntKind.u8.wrap y.a)]) (b8.set_same _ _ _) (Q8 _) ⟨rfl,by decide,by simp⟩ fun a6=> ?_
 rw[b8.set_set]
 have g0:=h.under (o:=⟨(O2 y).length,[O2 y],a0⟩) n0
 have g5:=g0.under (o:=⟨[D.int .i64 0, .nilFn].length,[j9 [D.int .i64 0, .nilFn] 0 [.int .i64 4,Z7 0 4294967295]],a5⟩) n5
 have g6:=g5.under (o:=⟨[D.int .i64 0, .nilFn].length,[j9 [D.int .i64 0, .nilFn] 0 [.int .i64 8,a6F (IntKind.u8.wrap y.a)]],a6⟩) n6
 have z0:S0 k0=none:=by
  cases e:S0 k0 with
  |none=>rfl
  |some o=>rw[h.le _ _ e]at n0;cases n0
 obtain⟨B,hB⟩:∃B,B=((S0.set k0 ⟨(O2 y).length,[O2 y],a0⟩).set k5 ⟨[D.int .i64 0, .nilFn].length,[j9 [D.int .i64 0, .nilFn] 0 [.int .i64 4,Z7 0 4294967295]],a5⟩).set k6 ⟨[D.int .i64 0, .nilFn].length,[j9 [D.int .i64 0, .nilFn] 0 [.int .i64 8,a6F (IntKind.u8.wrap y.a)]],a6⟩:=⟨_,rfl⟩
 rw[←hB]at g6
 generalize (((S.set k0 _).set k5 _).set k6 _)=S1 at g6 ⊢
 obtain⟨ne6,n6'⟩:=b8.fresh n6
 obtain⟨ne6',n6''⟩:=b8.fresh n6'
 have b0:B k0=some ⟨4,[O2 y],a0⟩:=by rw[hB,b8.set_ne _ _ _ (Ne.symm ne6'),b8.set_ne _ _ _ (Ne.symm ne5)];exact b8.set_same _ _ _
 have b5:B k5=some ⟨2,[[.int .i64 4,Z7 0 4294967295]],a5⟩:=by rw[hB,b8.set_ne _ _ _ (Ne.symm ne6)];exact b8.set_same _ _ _
 have b6:B k6=some ⟨2,[[.int .i64 8,a6F (IntKind.u8.wrap y.a)]],a6⟩:=by rw[hB];exact b8.set_same _ _ _
 have z5:S0 k5=none:=by
  cases e:S0 k5 with
  |none=>rfl
  |some o=>rw[h.le _ _ e]at n5';cases n5'
 have z6:S0 k6=none:=by
  cases e:S0 k6 with
  |none=>rfl
  |some o=>rw[h.le _ _ e]at n6'';cases n6''
 have hle:S0.le B:=by rw[hB];exact b8.le_set (b8.le_set (b8.le_new z0) z5) z6
 clear hB n0 n5 n5' n6 n6' n6'' g0 g5 l0
 have l0:∀ {S':b8},B.le S'→∀i,c9 S' (.ptr k0 i)=(O2 y)[i]? :=fun h i=>ldP (h _ _ b0)
 have l5:∀ {S':b8},B.le S'→i6 S' 2 (.ptr k5 0)=some (.agg [.int .i64 4,Z7 0 4294967295]):=fun h=>bx (h _ _ b5)
 have l6:∀ {S':b8},B.le S'→i6 S' 2 (.ptr k6 0)=some (.agg [.int .i64 8,a6F (IntKind.u8.wrap y.a)]):=fun h=>bx (h _ _ b6)
 have f5:c2g [.int .i64 4,Z7 0 4294967295] P2:=⟨_,rfl, .bet _ _⟩
 have f6:c2g [.int .i64 8,a6F (IntKind.u8.wrap y.a)] (vF (IntKind.u8.wrap y.a)):=⟨_,rfl, .fit _⟩
 have hsh:=ho.short
 simp only[D8,oD,l0 g6.le,show(O2 y)[0+3]? =some (b3T y.arms) from rfl,b1X,a6n]
 rw[K0]
 refine⟨fun hbig=> ?_,fun hsm=> ?_⟩
 ·have c:decide (y.arms.length≤65535)=false:=decide_eq_false (by omega)
  refine i4.less (b8.le_trans hle g6.le) (i4.here ⟨.nilSlc,[], ?_, .inl ⟨rfl,rfl,rfl⟩,fun h=>by omega⟩)
  rw[c,Bool.false_and,Bool.false_and]
 have hsm:y.arms.length≤65535:=by omega
 rw[cvI,oD,b9v (by omega)]
 refine(a3K (s:=2) (by decide) (by decide)).use ?_
 refine(b3N g6 (by rw[u4];omega)).use fun t1 S2 g7=> ?_
 simp only[D8,oD,l0 g7.le,show(O2 y)[0+3]? =some (b3T y.arms) from rfl,b1X]
 refine b8u (I:=fun n x0 x3 x6 x7 x8 x33 x34 x35 S=>∃(B':b8) (j:Nat),B.le B'∧j+n=y.arms.length∧b5x B' x0 (bs++G4 y.arms.length 2++a3j (y.arms.take j)) S∧
   x3= .ptr k0 0∧x6= .ptr k5 0∧x7= .ptr k6 0∧x8= .bool ((y.arms.take j).all (c1j (IntKind.u8.wrap y.a)))∧x33=b3T y.arms∧x34= .int .i64 (y.arms.length:Int)∧x35= .int .i64 (j:Int)) ?_ (n:=y.arms.length)
  ⟨B,0,b8.le_refl _,by omega,by simpa [a3j]using g7,rfl,rfl,rfl,rfl,rfl,rfl,rfl⟩
 rintro n x0 _ _ _ _ _ _ _ S3 ⟨B',j,hB',hj,g8,rfl,rfl,rfl,rfl,rfl,rfl,rfl⟩
 unfold a9t
 have hle8:=b8.le_trans hB' g8.le
 have hbl:(bs++G4 y.arms.length 2++a3j (y.arms.take j)).length<2^40:=by
  simp only[List.length_append,u4,a2F,List.length_take]
  omega
 rw[H6,oD,K0]
 refine⟨fun hlt=> ?_,fun hge=> ?_⟩
 ·have hlt:j<y.arms.length:=by omega
  obtain⟨z,hz⟩:∃z,z=y.arms[j]:=⟨_,rfl⟩
  have hjz:y.arms[j]? =some z:=by rw[List.getElem?_eq_getElem hlt,hz]
  obtain⟨hz1,hz2⟩:=ho.arms z (by rw[hz];exact List.getElem_mem _)
  rw[c9k hjz,oD,laE,if_pos (by simp[a0j]),oD]
  intro k a nk
  refine stP (ds:=a0j z) (b8.set_same _ _ _) (Q8 _) ⟨rfl,by decide,by simp[a0j]⟩ fun a=> ?_
  rw[b8.set_set]
  have hk:B.le (S3.set k ⟨[D.int .i64 0, .int .i64 0].length,[j9 [D.int .i64 0, .int .i64 0] 0 (a0j z)],a⟩):=b8.le_trans hle8 (b8.le_new nk)
  have g9:=g8.under (o:=⟨[D.int .i64 0, .int .i64 0].length,[j9 [D.int .i64 0, .int .i64 0] 0 (a0j z)],a⟩) nk
  have zk:B' k=none:=by
   cases e:B' k with
   |none=>rfl
   |some o=>rw[g8.le _ _ e]at nk;cases nk
  have lk:∀ {S':b8},(B'.set k ⟨[D.int .i64 0, .int .i64 0].length,[j9 [D.int .i64 0, .int .i64 0] 0 (a0j z)],a⟩).le S'→∀i,c9 S' (.ptr k i)=(a0j z)[i]? :=fun h i=>by
   rw[ldP (h _ _ (b8.set_same _ _ _))];rfl
  have hB9:B.le (B'.set k ⟨[D.int .i64 0, .int .i64 0].length,[j9 [D.int .i64 0, .int .i64 0] 0 (a0j z)],a⟩):=b8.le_trans hB' (b8.le_new zk)
  rw[l6 hk,oD,D8,oD,lk g9.le,show(a0j z)[0+0]? =some (.int .i64 z.1) from rfl,oD]
  refine(a3M g9 f6 hz1 (show 1≤8 by decide) (show 8≤8 by decide) hbl).use ?_
  rintro v S4 ⟨t4,rfl,g10⟩
  simp only[exD,List.getElem?_cons_zero,List.getElem?_cons_succ,oD]
  rw[l5 (b8.le_trans hB9 g10.le),oD,D8,oD,lk g10.le,show(a0j z)[0+1]? =some (.int .i64 z.2) from rfl,oD]
  refine(a3M g10 f5 hz2 (by decide) (by decide) (by simp only[List.length_append,u4,a2F,List.length_take]at hbl ⊢;have:(vF (IntKind.u8.wrap y.a)).size=8:=rfl;omega)).use ?_
  rintro v S5 ⟨t5,rfl,g11⟩
  simp only[exD,List.getElem?_cons_zero,List.getElem?_cons_succ,oD]
  have e1:∀p q r:Bool,(∀K:D→Prop,K (.bool (p&&q&&r))→b7 (d9 (d6 (.bool p) true) (some (.bool q))) fun v55=>b7 (q7 (.bool p) v55 (.bool false)) fun v56=>b7 (d9 (d6 v56 true) (some (.bool r))) fun v57=>b7 (q7 v56 v57 (.bool false)) fun v58=>K v58):=by
   intro p q r K hK
   cases p<;>cases q<;>cases r<;>simpa using hK
  refine e1 _ _ _ (fun v58=>b7 (i5 .add (.int .i64 (j:Int)) (.int .i64 1)) fun v59=>_) ?_
  rw[D5,oD,l7 (by omega) (by omega)]
  refine⟨n - 1,by omega,_,j+1,hB9,by omega, ?_,by trivial,by trivial,by trivial, ?_,by trivial,by trivial,by trivial⟩
  ·have:a3j (y.arms.take (j+1))=a3j (y.arms.take j)++(G4 z.1 8++G4 z.2 4):=by
    rw[List.take_add_one,hjz,Option.toList_some]
    simp[a3j,d3A,List.flatMap_append]
   rw[this, ←List.append_assoc, ←List.append_assoc]
   exact g11
  ·rw[List.take_add_one,hjz,Option.toList_some,List.all_append,List.all_cons,List.all_nil,Bool.and_true,c9h,Bool.and_assoc]
 ·have hj':j=y.arms.length:=by omega
  subst hj'
  rw[List.take_length]at g8 hbl ⊢
  rw[l5 hle8,oD,D8,oD,l0 hle8,show(O2 y)[0+2]? =some (.int .i64 y.b) from rfl,oD]
  refine(a3M g8 f5 ho.b (by decide) (by decide) hbl).use ?_
  rintro v S4 ⟨t4,rfl,g9⟩
  simp only[exD,List.getElem?_cons_zero,List.getElem?_cons_succ,oD]
  obtain⟨S5,hl5,g10⟩:=g9.base (b8.le_trans hle hB')
  have e1:∀p q:Bool,(∀K:D→Prop,K (.bool (p&&q))→b7 (d9 (d6 (.bool p) true) (some (.bool q))) fun v55=>b7 (q7 (.bool p) v55 (.bool false)) fun v56=>K v56):=by
   intro p q K hK
   cases p<;>cases q<;>simpa using hK
  refine e1 _ _ (fun v=>i4 E _ (.tup [t4,v]) S4) ?_
  refine i4.less hl5 (i4.here ⟨t4,_, ?_,g10,fun _=> ?_⟩)
  ·rw[decide_eq_true hsm,Bool.true_and]
  ·simp only[List.append_assoc];rfl
end
end
section
theorem c3q(y:In)(f:Fld):∀(l:List Fld) (i:Nat),a4b y i (l++[f])=a4b y i l++G4 (y.num (i+l.length)) f.size
 | [],i=>by simp[a4b]
 |g::l,i=>by
  rw[List.cons_append,a4b,a4b,c3q y f l (i+1),List.append_assoc,List.length_cons,show i+1+l.length=i+(l.length+1) by omega]
theorem c0H(y:In)(f:Fld):∀(l:List Fld) (i:Nat),a1A y i (l++[f])=(a1A y i l&&f.may (y.num (i+l.length)))
 | [],i=>by simp[a1A]
 |g::l,i=>by
  rw[List.cons_append,a1A,a1A,c0H y f l (i+1),Bool.and_assoc,List.length_cons,show i+1+l.length=i+(l.length+1) by omega]
theorem b3I(y:In):∀(l:List Fld) (i:Nat),(∀f∈l,f.size≤8)→(a4b y i l).length≤8*l.length
 | [],i,_=>by simp[a4b]
 |g::l,i,h=>by
  have:=b3I y l (i+1) fun f hf=>h f (List.mem_cons_of_mem _ hf)
  have:=h g List.mem_cons_self
  rw[a4b,List.length_append,u4,List.length_cons]
  omega
theorem c2g.load{row:List D}{f:Fld}(h:c2g row f):row.length=2:=by obtain⟨fv,rfl,_⟩:=h;rfl
section
variable{E:j3}{w0:j8}{S0 S:b8}{t:D}{bs:List Int}{y:In}
theorem c8Y{B:b8}(h:b5x B t bs S)(hB:S0.le B){ok:Bool}(hok:isS y=ok)(hbs:ok=true→bs=b2R y):
  E2 E w0 (i4 E fun d' S'=>d'= .tup [bD (c0h y), .int .i64 (if isS y=true then 0 else 120)]∧S'=S0) (.bool ok) t S:=by
 unfold E2
 rw[unN,oD]
 cases ok with
 |false=>
  simp only[Bool.not_false,cdT]
  refine i4.less (b8.le_trans hB h.le) (i4.nilT (lp:=[]) (sz:=1) (i4.here ⟨?_,rfl⟩))
  rw[c0h,hok];rfl
 |true=>
  simp only[Bool.not_true,cdF]
  obtain⟨S',hl,hg⟩:=h.base hB
  refine i4.less hl (hg.finT (lp:=[]) (i4.here ⟨?_,rfl⟩))
  rw[c0h,hok,hbs rfl];rfl
theorem c2x(ho:y.Ok):U1 Try.prog E w0 a9x [inD y] (.tup [bD (c0h y), .int .i64 (if isS y=true then 0 else 120)]):=fun S=>by
 refine b9a ?_
 unfold b5V
 rw[inD,Q8,oD]
 intro k0 a0 n0
 have b0:(S.set k0 ⟨4,[O2 y],a0⟩) k0=some ⟨4,[O2 y],a0⟩:=b8.set_same _ _ _
 have l0:∀ {S':b8},(S.set k0 ⟨(O2 y).length,[O2 y],a0⟩).le S'→∀i,c9 S' (.ptr k0 i)=(O2 y)[i]? :=fun h i=>ldP (h _ _ b0)
 have hle:S.le (S.set k0 ⟨(O2 y).length,[O2 y],a0⟩):=b8.le_new n0
 rw[D8,oD,l0 (b8.le_refl _),show(O2 y)[0+0]? =some (.int .u8 y.op) from rfl,oD]
 refine b3j.use ?_
 simp only[exD,List.getElem?_cons_zero,List.getElem?_cons_succ,oD]
 rw[l0 (b8.le_refl _),show(O2 y)[0+0]? =some (.int .u8 y.op) from rfl,oD]
 simp only[m9,clI,List.length_cons,List.length_nil,List.replicate,List.set]
 rw[if_pos (by decide)]
 refine F3 rfl ?_
 refine(b3N (bs:=[]) (ms:=[y.op]) (Grw.nil _ 1) (by simp)).use fun t1 S1 g1=> ?_
 rw[lnL,oD,a5b]
 obtain⟨l,hl⟩:∃l,l=(lay y.op).getD []:=⟨_,rfl⟩
 have hl2:l.length≤2:=by rw[hl];exact b4a
 have hgood:∀f∈l,b1t f:=by rw[hl];exact b6A _
 have hs8:∀f∈l,f.size≤8:=fun f hf=>a5K (hgood f hf)
 rw[←hl]
 refine b5t (I:=fun n x1 x4 x5 x6 x21 x22 x23 S'=>∃(B:b8) (j:Nat),(S.set k0 ⟨(O2 y).length,[O2 y],a0⟩).le B∧j+n=l.length∧b5x B x6 (y.op::a4b y 0 (l.take j)) S'∧
   x1= .ptr k0 0∧x4= .lst (a4i y.op) 2∧x5= .bool ((lay y.op).isSome&&a1A y 0 (l.take j))∧x21= .lst (a4i y.op) 2∧x22= .int .i64 (l.length:Int)∧x23= .int .i64 (j:Int)) ?_ (n:=l.length)
  ⟨_,0,b8.le_refl _,by omega,by simpa [a4b]using g1,rfl,rfl,by simp[a1A],rfl,rfl,rfl⟩
 rintro n _ _ _ x6 _ _ _ S2 ⟨B,j,hB,hj,g2,rfl,rfl,rfl,rfl,rfl,rfl⟩
 unfold a5I
 have hle2:=b8.le_trans hB g2.le
 rw[H6,oD,K0]
 refine⟨fun hlt=> ?_,fun hge=> ?_⟩
 ·have hlt:j<l.length:=by omega
  obtain⟨f,hf⟩:∃f,f=l[j]:=⟨_,rfl⟩
  have hjf:l[j]? =some f:=by rw[List.getElem?_eq_getElem hlt,hf]
  obtain⟨row,hrow,hfd⟩:=c6v (op:=y.op) (i:=j) (f:=f) (by rw[←hl];exact hjf)
  obtain⟨hg1,_⟩:=hgood f (by rw[hf];exact List.getElem_mem _)
  have hg8:=hs8 f (by rw[hf];exact List.getElem_mem _)
  have hrl:=hfd.load
  rw[b3J hrow,oD,laE,if_pos ⟨by decide,by omega⟩,oD,List.drop_zero,List.take_of_length_le (by omega)]
  intro k a nk
  have hcl:o5 (.agg row)=some row:=rfl
  refine stP (ds:=row) (b8.set_same _ _ _) (Q8 _) ⟨hrl,by decide,by simp⟩ fun a=> ?_
  rw[b8.set_set]
  have hset:j9 [D.int .i64 0, .nilFn] 0 row=row:=by
   obtain⟨fv,rfl,_⟩:=hfd;rfl
  rw[hset]
  have g3:=g2.under (o:=⟨[D.int .i64 0, .nilFn].length,[row],a⟩) nk
  have zk:B k=none:=by
   cases e:B k with
   |none=>rfl
   |some o=>rw[g2.le _ _ e]at nk;cases nk
  have hB3:(S.set k0 ⟨(O2 y).length,[O2 y],a0⟩).le (B.set k ⟨[D.int .i64 0, .nilFn].length,[row],a⟩):=b8.le_trans hB (b8.le_new zk)
  have hnum:∀n',n'=y.num j→a2E E w0 (fun x1 x4 x5 x6 x21 x22 x23 S'=>∃m,m<n∧∃(B:b8) (j:Nat),(S.set k0 ⟨(O2 y).length,[O2 y],a0⟩).le B∧j+m=l.length∧b5x B x6 (y.op::a4b y 0 (l.take j)) S'∧
    x1= .ptr k0 0∧x4= .lst (a4i y.op) 2∧x5= .bool ((lay y.op).isSome&&a1A y 0 (l.take j))∧x21= .lst (a4i y.op) 2∧x22= .int .i64 (l.length:Int)∧x23= .int .i64 (j:Int))
    (i4 E fun d' S'=>d'= .tup [bD (c0h y), .int .i64 (if isS y=true then 0 else 120)]∧S'=S) (.ptr k0 0) (.lst (a4i y.op) 2) (.bool ((lay y.op).isSome&&a1A y 0 (l.take j))) x6 (.ptr k 0) (.int .i64 n') (.lst (a4i y.op) 2) (.int .i64 (l.length:Int)) (.int .i64 (j:Int))
    (S2.set k ⟨[D.int .i64 0, .nilFn].length,[row],a⟩):=by
   rintro _ rfl
   unfold a2E
   rw[laP (b8.set_same _ _ _) ⟨by decide,by omega⟩,oD,List.drop_zero,List.take_of_length_le (by omega)]
   have hi:I64 (y.num j):=by unfold In.num;split;exact ho.b;exact ho.a
   have hbl:=b3I y (l.take j) 0 fun f hf=>hs8 f (List.mem_of_mem_take hf)
   refine(a3M g3 hfd hi hg1 hg8 (by rw[List.length_cons];rw[List.length_take]at hbl;omega)).use ?_
   rintro v S4 ⟨t4,rfl,g4⟩
   simp only[exD,List.getElem?_cons_zero,List.getElem?_cons_succ,oD]
   have e1:∀p q:Bool,(∀K:D→Prop,K (.bool (p&&q))→b7 (d9 (d6 (.bool p) true) (some (.bool q))) fun v55=>b7 (q7 (.bool p) v55 (.bool false)) fun v56=>K v56):=by
    intro p q K hK
    cases p<;>cases q<;>simpa using hK
   refine e1 _ _ (fun v30=>b7 (i5 .add (.int .i64 (j:Int)) (.int .i64 1)) fun v31=>_) ?_
   rw[D5,oD,l7 (by omega) (by omega)]
   have htk:l.take (j+1)=l.take j++[f]:=by rw[List.take_add_one,hjf];rfl
   have hlj:(l.take j).length=j:=by rw[List.length_take];omega
   refine⟨n - 1,by omega,_,j+1,hB3,by omega, ?_,by trivial,by trivial, ?_,by trivial,by trivial,by trivial⟩
   ·rw[htk,c3q,hlj,Nat.zero_add, ←List.cons_append];exact g4
   ·rw[htk,c0H,hlj,Nat.zero_add,Bool.and_assoc]
  have hle3:(S.set k0 ⟨(O2 y).length,[O2 y],a0⟩).le (S2.set k ⟨[D.int .i64 0, .nilFn].length,[row],a⟩):=b8.le_trans hB3 g3.le
  rw[D8,oD,l0 hle3,show(O2 y)[0+1]? =some (.int .i64 y.a) from rfl,oD,a7k,oD,cdB]
  refine⟨fun h1=> ?_,fun h1=> ?_⟩
  ·rw[D8,oD,l0 hle3,show(O2 y)[0+2]? =some (.int .i64 y.b) from rfl,oD]
   have h1:j=1:=by have:(j:Int)=1:=by simpa using h1
                   omega
   exact hnum _ (by unfold In.num;rw[if_pos h1])
  ·have h1:¬j=1:=by have:¬(j:Int)=1:=by simpa using h1
                    omega
   exact hnum _ (by unfold In.num;rw[if_neg h1])
 ·have hj':j=l.length:=by omega
  subst hj'
  rw[List.take_length]at g2 ⊢
  have hisS:isS y=(((lay y.op).isSome&&a1A y 0 l)&&
    if y.op=49 then decide (y.arms.length≤65535)&&y.arms.all (c1j (IntKind.u8.wrap y.a))&&decide (0≤y.b∧y.b≤4294967295)
    else decide (y.arms.length=0)&&(decide (2≤l.length)||decide (y.b=0))&&(decide (1≤l.length)||decide (y.a=0))):=by rw[hl];rfl
  have henc:b2R y=y.op::a4b y 0 l++if y.op=49 then G4 y.arms.length 2++a3j y.arms++G4 y.b 4 else[]:=by rw[hl];rfl
  generalize hok:((lay y.op).isSome&&a1A y 0 l)=ok at hisS ⊢
  have hbl:=b3I y l 0 hs8
  have hSB:S.le B:=b8.le_trans hle hB
  rw[D8,oD,l0 hle2,show(O2 y)[0+0]? =some (.int .u8 y.op) from rfl,oD,a7k,oD]
  have nope:∀ {ok':Bool},isS y=ok'→(ok'=true→y.op::a4b y 0 l=b2R y)→E2 E w0 (i4 E fun d' S'=>d'= .tup [bD (c0h y), .int .i64 (if isS y=true then 0 else 120)]∧S'=S) (.bool ok') x6 S2:=fun h1 h2=>c8Y g2 hSB h1 h2
  have ll3:c9 S2 (.ptr k0 3)=some (b3T y.arms):=l0 hle2 3
  have ll2:c9 S2 (.ptr k0 2)=some (.int .i64 y.b):=l0 hle2 2
  have ll1:c9 S2 (.ptr k0 1)=some (.int .i64 y.a):=l0 hle2 1
  obtain⟨p1,hp1⟩:∃p,decide ((y.arms.length:Int)>0)=p:=⟨_,rfl⟩
  obtain⟨p2,hp2⟩:∃p,decide ((l.length:Int)<2)=p:=⟨_,rfl⟩
  obtain⟨p3,hp3⟩:∃p,(y.b != 0)=p:=⟨_,rfl⟩
  obtain⟨p4,hp4⟩:∃p,decide ((l.length:Int)<1)=p:=⟨_,rfl⟩
  obtain⟨p5,hp5⟩:∃p,(y.a != 0)=p:=⟨_,rfl⟩
  have key:(decide (y.arms.length=0)&&(decide (2≤l.length)||decide (y.b=0))&&(decide (1≤l.length)||decide (y.a=0)))=(!p1&&(!p2|| !p3)&&(!p4|| !p5)):=by
   have q1:decide (y.arms.length=0)= !p1:=by rw[←hp1, ←decide_not];exact decide_eq_decide.2 (by omega)
   have q2:decide (2≤l.length)= !p2:=by rw[←hp2, ←decide_not];exact decide_eq_decide.2 (by omega)
   have q3:decide (y.b=0)= !p3:=by rw[←hp3];by_cases h:y.b=0<;>simp[h]
   have q4:decide (1≤l.length)= !p4:=by rw[←hp4, ←decide_not];exact decide_eq_decide.2 (by omega)
   have q5:decide (y.a=0)= !p5:=by rw[←hp5];by_cases h:y.a=0<;>simp[h]
   rw[q1,q2,q3,q4,q5]
  by_cases h49:y.op=49
  ·have e49:(y.op==49)=true:=by simp[h49]
   rw[if_pos h49]at hisS henc
   simp only[e49,K7,beq_self_eq_true,vdT,oD,L7,if_true]
   cases ok with
   |true=>
    simp only[cdT]
    rw[laP (hle2 _ _ b0) ⟨by decide,by simp[O2]⟩,oD]
    show l8 Try.prog E w0 a8t [x6,inD y] S2 _
    refine(c5Y g2 ho h49 (by rw[List.length_cons];omega)).use ?_
    rintro v S3 ⟨t3,bs3,rfl,g3,hb3⟩
    simp only[exD,List.getElem?_cons_zero,List.getElem?_cons_succ,oD]
    refine c8Y g3 hSB (by rw[hisS,Bool.true_and];rfl) fun h=> ?_
    simp only[Bool.and_eq_true,decide_eq_true_eq]at h
    rw[hb3 h.1.1,henc]
   |false=>
    have hn:=nope (ok':=false) (by rw[hisS,Bool.false_and]) (fun h=>by cases h)
    simp only[cdF,D8,oD,Nat.zero_add,ll3,b1X,a6n,lnL,a5b, ←hl,H6,hp1,hp2,hp4]
    cases p1<;>cases p2<;>cases p3<;>cases p4<;>cases p5<;>simp[ll1,ll2,hp3,hp5]<;>exact hn
  ·have e49:(y.op==49)=false:=by simp[h49]
   rw[if_neg h49]at hisS henc
   rw[List.append_nil]at henc
   rw[key]at hisS
   simp only[e49,K7,vdF,oD,L7,Bool.false_eq_true,if_false,cdF,show((false==true)=false) from rfl]
   simp only[D8,oD,Nat.zero_add,ll3,b1X,a6n,lnL,a5b, ←hl,H6,hp1,hp2,hp4]
   cases p1<;>cases p2<;>cases p3<;>cases p4<;>cases p5<;>simp[ll1,ll2,hp3,hp5]<;>exact nope (by rw[hisS];simp) (fun _=>henc.symm)
theorem c5U(ho:y.Ok):U1 Try.prog E w0 b4p [inD y] (.int .i64 ((c0h y).length:Int)):=fun S=>by
 refine c2y ?_
 unfold c2j
 rw[inD,Q8,oD]
 intro k0 a0 n0
 rw[laP (b8.set_same _ _ _) ⟨by decide,by simp[O2]⟩,oD]
 refine(c2x ho).use ?_
 simp only[exD,List.getElem?_cons_zero,List.getElem?_cons_succ,oD,a1M]
 exact i4.drop n0 i4.pure
end
end
section
def d5Z(f:Fld):List D:=[.int .i64 (f.size:Int), .int .i64 f.lo, .int .i64 f.hi, .bool (decide (f.lo<0))]
section
variable{E:j3}{w0:j8}{S:b8}{op:Int}
end
end
section
@[simp] theorem d6X(row:List D)(rows:List (List D))(sz:Nat):o7 sz (.lst (row::rows) sz) (.int .i64 0)=some (.elt row 0):=b3J (i:=0) rfl
@[simp] theorem d7b(a row:List D)(rows:List (List D))(sz:Nat):o7 sz (.lst (a::row::rows) sz) (.int .i64 1)=some (.elt row 0):=b3J (i:=1) rfl
@[simp] theorem d6N(S:b8)(f:Fld):i6 S 4 (.elt (d5Z f) 0)=some (.agg (d5Z f)):=(rfl)
theorem c7I(a b:Int):(a==b)=decide (a=b):=by by_cases h:a=b<;>simp[h]
section
variable{E:j3}{w0:j8}{S:b8}{y:In}
end
end
end Go.Proofs.Ytdkidgkiplcggaa.d
end
section
open Go.Proofs Go Go.Am
namespace Go.Proofs.Ytdkidgkiplcggaa.d
def a4E:List (Nat×List Nat):=[(8,[0,1,5])]
def a4z:List (Nat×List Nat):=[]
def a4u:List (Nat×V1):=[]
noncomputable def a3s:Code:=(j7 [1,1,0,1,0,0] (Try.f19.body.getD .skip))
def a3D(E:j3)(w0:j8)(Q:D→b8→Prop):o9→List D→b8→Prop:=
 (q8 0 (G5 Try.prog E w0 a4E a4z a4u (j7 [1,1,1] (Try.f19.body.getD .skip)) (E7 Try.prog Try.f19 Q)))
def a3p(E:j3)(w0:j8)(N0:D→D→D→b8→Prop)(Q:D→b8→Prop)(x0 x1 x5:D)(S:b8):Prop:=
 b7 (m8 x0) fun v3=>
 b7 (i5 .lss x5 v3) fun v4=>
 i9 v4
 (b7 (o7 1 x0 x5) fun v5=>
 b7 (c9 S v5) fun v6=>
 b7 (o7 1 x1 x5) fun v7=>
 b7 (c9 S v7) fun v8=>
 b7 (i5 .neq v6 v8) fun v9=>
 i9 v9
 (Q (.bool false) S)
 (b7 (i5 .add x5 (.int .i64 1)) fun v10=>
 N0 x0 x1 v10 S))
 (Q (.bool true) S)
theorem b2E{E:j3}{w0:j8}{N0:D→D→D→b8→Prop}{Q:D→b8→Prop}{x0 x1 x5:D}{S:b8}(h:a3p E w0 N0 Q x0 x1 x5 S):
  j2 Try.prog E w0 a3s (m6 26 [0,1,5] [x0,x1,x5]) S (B1 (fun T S=>N0 (T.getD 0 b9) (T.getD 1 b9) (T.getD 5 b9) S) (a3D E w0 Q)):=j4 a4E a4z a4u mixed (by kernel_rfl) h
theorem b2M{E:j3}{w0:j8}{Q:D→b8→Prop}(I:Nat→D→D→D→b8→Prop)
  (step:∀n x0 x1 x5 S,I n x0 x1 x5 S→a3p E w0 (fun x0 x1 x5 S=>∃m,m<n∧I m x0 x1 x5 S) Q x0 x1 x5 S)
  {n:Nat} {x0 x1 x5:D} {S:b8} (h:I n x0 x1 x5 S):j2 Try.prog E w0 (.loop a3s) (m6 26 [0,1,5] [x0,x1,x5]) S (a3D E w0 Q):=
 p8 (k:=26) (n:=n) (I:=fun n T S=>I n (T.getD 0 b9) (T.getD 1 b9) (T.getD 5 b9) S) (fun n T S hl hI=>q9 [0,1,5] hl (j2.mono (b2E (step n _ _ _ S hI)) fun ex T' S' _ hq=>by cases ex<;>exact hq)) (o0 ..) (Eq.mp (by kernel_rfl) h)
def b0J(E:j3)(w0:j8)(Q:D→b8→Prop)(a0 a1:D)(S:b8):Prop:=
 b7 (m8 a0) fun v0=>
 b7 (m8 a1) fun v1=>
 b7 (i5 .neq v0 v1) fun v2=>
 i9 v2
 (Q (.bool false) S)
 (j2 Try.prog E w0 (.loop a3s) (m6 26 [0,1,5] [a0,a1,(.int .i64 0)]) S (a3D E w0 Q))
theorem b4C{E:j3}{w0:j8}{Q:D→b8→Prop}{a0 a1:D}{S:b8}(h:b0J E w0 (i4 E Q) a0 a1 S):l8 Try.prog E w0 V6 [a0,a1] S Q:=
 j5 a4E a4z a4u (fn:=Try.f19) (c:=Try.f19.body.getD .skip) mixed Try.func19 (by kernel_rfl) (by kernel_rfl) h
def M8:List (Nat×List Nat):=[(6,[1,2,5,6]),(14,[1,2,5,6,7]),(22,[1,2,5,8]),(30,[1,2,5,9])]
def M9:List (Nat×List Nat):=[]
def M7:List (Nat×V1):=[]
noncomputable def a8A:Code:=(j7 [1,1,0,1,0,0,1,0,0,1,1,0,0] (Try.f45.body.getD .skip))
def a9r(E:j3)(w0:j8)(N0:D→D→D→D→b8→Prop)(Q:D→b8→Prop):o9→List D→b8→Prop:=
 (q8 2 (q8 1 (G5 Try.prog E w0 M8 M9 M7 (j7 [1,1,0,1,0,0,1,1] (Try.f45.body.getD .skip)) (B1 (fun T S=>N0 (T.getD 1 b9) (T.getD 2 b9) (T.getD 5 b9) (T.getD 6 b9) S) (q8 0 (G5 Try.prog E w0 M8 M9 M7 (j7 [1,1,1] (Try.f45.body.getD .skip)) (E7 Try.prog Try.f45 Q)))))))
def a8m(E:j3)(w0:j8)(N0:D→D→D→D→b8→Prop)(N1:D→D→D→D→D→b8→Prop)(Q:D→b8→Prop)(x1 x2 x5 x6 x7:D)(S:b8):Prop:=
 b7 (j1 0 x2) fun v35=>
 b7 (c9 S v35) fun v36=>
 b7 (o7 5 v36 x6) fun v37=>
 b7 (j1 2 v37) fun v38=>
 b7 (c9 S v38) fun v39=>
 b7 (m8 v39) fun v40=>
 b7 (i5 .lss x7 v40) fun v41=>
 b7 (d9 (d6 v41 true) (some x5)) fun v42=>
 b7 (d9 (d6 v41 true) (some x1)) fun v43=>
 b7 (d9 (d6 v41 true) (i5 .leq v42 v43)) fun v44=>
 b7 (q7 v41 v44 (.bool false)) fun v45=>
 i9 v45
 (b7 (j1 0 x2) fun v46=>
 b7 (c9 S v46) fun v47=>
 b7 (o7 5 v47 x6) fun v48=>
 b7 (j1 2 v48) fun v49=>
 b7 (c9 S v49) fun v50=>
 b7 (o7 2 v50 x7) fun v51=>
 b7 (j1 0 v51) fun v52=>
 b7 (c9 S v52) fun v53=>
 b7 (a3n v53) fun v54=>
 b7 (i5 .add x5 v54) fun v55=>
 b7 (i5 .add x7 (.int .i64 1)) fun v56=>
 N1 x1 x2 v55 x6 v56 S)
 (b7 (i5 .add x6 (.int .i64 1)) fun v57=>
 N0 x1 x2 x5 v57 S)
theorem b9k{E:j3}{w0:j8}{N0:D→D→D→D→b8→Prop}{N1:D→D→D→D→D→b8→Prop}{Q:D→b8→Prop}{x1 x2 x5 x6 x7:D}{S:b8}(h:a8m E w0 N0 N1 Q x1 x2 x5 x6 x7 S):
  j2 Try.prog E w0 a8A (m6 135 [1,2,5,6,7] [x1,x2,x5,x6,x7]) S (B1 (fun T S=>N1 (T.getD 1 b9) (T.getD 2 b9) (T.getD 5 b9) (T.getD 6 b9) (T.getD 7 b9) S) (a9r E w0 N0 Q)):=j4 M8 M9 M7 mixed (by kernel_rfl) h
theorem b9b{E:j3}{w0:j8}{N0:D→D→D→D→b8→Prop}{Q:D→b8→Prop}(I:Nat→D→D→D→D→D→b8→Prop)
  (step:∀n x1 x2 x5 x6 x7 S,I n x1 x2 x5 x6 x7 S→a8m E w0 N0 (fun x1 x2 x5 x6 x7 S=>∃m,m<n∧I m x1 x2 x5 x6 x7 S) Q x1 x2 x5 x6 x7 S)
  {n:Nat} {x1 x2 x5 x6 x7:D} {S:b8} (h:I n x1 x2 x5 x6 x7 S):j2 Try.prog E w0 (.loop a8A) (m6 135 [1,2,5,6,7] [x1,x2,x5,x6,x7]) S (a9r E w0 N0 Q):=
 p8 (k:=135) (n:=n) (I:=fun n T S=>I n (T.getD 1 b9) (T.getD 2 b9) (T.getD 5 b9) (T.getD 6 b9) (T.getD 7 b9) S) (fun n T S hl hI=>q9 [1,2,5,6,7] hl (j2.mono (b9k (step n _ _ _ _ _ S hI)) fun ex T' S' _ hq=>by cases ex<;>exact hq)) (o0 ..) (Eq.mp (by kernel_rfl) h)
noncomputable def a8o:Code:=(j7 [1,1,1,1,0,1,0,0] (Try.f45.body.getD .skip))
def a8Z(E:j3)(w0:j8)(Q:D→b8→Prop):o9→List D→b8→Prop:=
 (q8 6 (G5 Try.prog E w0 M8 M9 M7 (j7 [1,1,1,1,1] (Try.f45.body.getD .skip)) (E7 Try.prog Try.f45 Q)))
def a9D(E:j3)(w0:j8)(N3:D→D→D→D→b8→Prop)(Q:D→b8→Prop)(x1 x2 x5 x9:D)(S:b8):Prop:=
 b7 (j1 2 x2) fun v73=>
 b7 (c9 S v73) fun v74=>
 b7 (m8 v74) fun v75=>
 b7 (i5 .lss x9 v75) fun v76=>
 b7 (d9 (d6 v76 true) (some x5)) fun v77=>
 b7 (d9 (d6 v76 true) (some x1)) fun v78=>
 b7 (d9 (d6 v76 true) (i5 .leq v77 v78)) fun v79=>
 b7 (q7 v76 v79 (.bool false)) fun v80=>
 i9 v80
 (b7 (j1 2 x2) fun v81=>
 b7 (c9 S v81) fun v82=>
 b7 (o7 6 v82 x9) fun v83=>
 b7 (i6 S 6 v83) fun v84=>
 j6 S [(.str []), .nilSlc, .nilSlc,(.int .i64 0),(.int .i64 0), .nilSlc] fun v85 S86=>
 i7 S86 6 v85 v84 fun v87 S88=>
 b7 (j1 0 v85) fun v89=>
 b7 (c9 S88 v89) fun v90=>
 b7 (a3n v90) fun v91=>
 b7 (i5 .add x5 v91) fun v92=>
 b7 (j1 1 v85) fun v93=>
 b7 (c9 S88 v93) fun v94=>
 b7 (m8 v94) fun v95=>
 b7 (i5 .add v92 v95) fun v96=>
 b7 (j1 2 v85) fun v97=>
 b7 (c9 S88 v97) fun v98=>
 b7 (m8 v98) fun v99=>
 b7 (i5 .add v96 v99) fun v100=>
 b7 (j1 5 v85) fun v101=>
 b7 (c9 S88 v101) fun v102=>
 b7 (m8 v102) fun v103=>
 b7 (i5 .add v100 v103) fun v104=>
 b7 (i5 .add x9 (.int .i64 1)) fun v105=>
 N3 x1 x2 v104 v105 S88)
 (Q x5 S)
theorem b9d{E:j3}{w0:j8}{N3:D→D→D→D→b8→Prop}{Q:D→b8→Prop}{x1 x2 x5 x9:D}{S:b8}(h:a9D E w0 N3 Q x1 x2 x5 x9 S):
  j2 Try.prog E w0 a8o (m6 135 [1,2,5,9] [x1,x2,x5,x9]) S (B1 (fun T S=>N3 (T.getD 1 b9) (T.getD 2 b9) (T.getD 5 b9) (T.getD 9 b9) S) (a8Z E w0 Q)):=j4 M8 M9 M7 mixed (by kernel_rfl) h
theorem b8l{E:j3}{w0:j8}{Q:D→b8→Prop}(I:Nat→D→D→D→D→b8→Prop)
  (step:∀n x1 x2 x5 x9 S,I n x1 x2 x5 x9 S→a9D E w0 (fun x1 x2 x5 x9 S=>∃m,m<n∧I m x1 x2 x5 x9 S) Q x1 x2 x5 x9 S)
  {n:Nat} {x1 x2 x5 x9:D} {S:b8} (h:I n x1 x2 x5 x9 S):j2 Try.prog E w0 (.loop a8o) (m6 135 [1,2,5,9] [x1,x2,x5,x9]) S (a8Z E w0 Q):=
 p8 (k:=135) (n:=n) (I:=fun n T S=>I n (T.getD 1 b9) (T.getD 2 b9) (T.getD 5 b9) (T.getD 9 b9) S) (fun n T S hl hI=>q9 [1,2,5,9] hl (j2.mono (b9d (step n _ _ _ _ S hI)) fun ex T' S' _ hq=>by cases ex<;>exact hq)) (o0 ..) (Eq.mp (by kernel_rfl) h)
noncomputable def a8z:Code:=(j7 [1,1,1,0,1,0,0] (Try.f45.body.getD .skip))
def a8l(E:j3)(w0:j8)(Q:D→b8→Prop):o9→List D→b8→Prop:=
 (q8 4 (G5 Try.prog E w0 M8 M9 M7 (j7 [1,1,1,1] (Try.f45.body.getD .skip)) (E7 Try.prog Try.f45 Q)))
def a9a(E:j3)(w0:j8)(N2:D→D→D→D→b8→Prop)(Q:D→b8→Prop)(x1 x2 x5 x8:D)(S:b8):Prop:=
 b7 (j1 1 x2) fun v58=>
 b7 (c9 S v58) fun v59=>
 b7 (m8 v59) fun v60=>
 b7 (i5 .lss x8 v60) fun v61=>
 b7 (d9 (d6 v61 true) (some x5)) fun v62=>
 b7 (d9 (d6 v61 true) (some x1)) fun v63=>
 b7 (d9 (d6 v61 true) (i5 .leq v62 v63)) fun v64=>
 b7 (q7 v61 v64 (.bool false)) fun v65=>
 i9 v65
 (b7 (j1 1 x2) fun v66=>
 b7 (c9 S v66) fun v67=>
 b7 (o7 1 v67 x8) fun v68=>
 b7 (c9 S v68) fun v69=>
 b7 (a3n v69) fun v70=>
 b7 (i5 .add x5 v70) fun v71=>
 b7 (i5 .add x8 (.int .i64 1)) fun v72=>
 N2 x1 x2 v71 v72 S)
 (j2 Try.prog E w0 (.loop a8o) (m6 135 [1,2,5,9] [x1,x2,x5,(.int .i64 0)]) S (a8Z E w0 Q))
theorem b8G{E:j3}{w0:j8}{N2:D→D→D→D→b8→Prop}{Q:D→b8→Prop}{x1 x2 x5 x8:D}{S:b8}(h:a9a E w0 N2 Q x1 x2 x5 x8 S):
  j2 Try.prog E w0 a8z (m6 135 [1,2,5,8] [x1,x2,x5,x8]) S (B1 (fun T S=>N2 (T.getD 1 b9) (T.getD 2 b9) (T.getD 5 b9) (T.getD 8 b9) S) (a8l E w0 Q)):=j4 M8 M9 M7 mixed (by kernel_rfl) h
theorem b8Z{E:j3}{w0:j8}{Q:D→b8→Prop}(I:Nat→D→D→D→D→b8→Prop)
  (step:∀n x1 x2 x5 x8 S,I n x1 x2 x5 x8 S→a9a E w0 (fun x1 x2 x5 x8 S=>∃m,m<n∧I m x1 x2 x5 x8 S) Q x1 x2 x5 x8 S)
  {n:Nat} {x1 x2 x5 x8:D} {S:b8} (h:I n x1 x2 x5 x8 S):j2 Try.prog E w0 (.loop a8z) (m6 135 [1,2,5,8] [x1,x2,x5,x8]) S (a8l E w0 Q):=
 p8 (k:=135) (n:=n) (I:=fun n T S=>I n (T.getD 1 b9) (T.getD 2 b9) (T.getD 5 b9) (T.getD 8 b9) S) (fun n T S hl hI=>q9 [1,2,5,8] hl (j2.mono (b8G (step n _ _ _ _ S hI)) fun ex T' S' _ hq=>by cases ex<;>exact hq)) (o0 ..) (Eq.mp (by kernel_rfl) h)
noncomputable def a9f:Code:=(j7 [1,1,0,1,0,0] (Try.f45.body.getD .skip))
def a9B(E:j3)(w0:j8)(Q:D→b8→Prop):o9→List D→b8→Prop:=
 (q8 0 (G5 Try.prog E w0 M8 M9 M7 (j7 [1,1,1] (Try.f45.body.getD .skip)) (E7 Try.prog Try.f45 Q)))
def a8u(E:j3)(w0:j8)(N0:D→D→D→D→b8→Prop)(Q:D→b8→Prop)(x1 x2 x5 x6:D)(S:b8):Prop:=
 b7 (j1 0 x2) fun v13=>
 b7 (c9 S v13) fun v14=>
 b7 (m8 v14) fun v15=>
 b7 (i5 .lss x6 v15) fun v16=>
 b7 (d9 (d6 v16 true) (some x5)) fun v17=>
 b7 (d9 (d6 v16 true) (some x1)) fun v18=>
 b7 (d9 (d6 v16 true) (i5 .leq v17 v18)) fun v19=>
 b7 (q7 v16 v19 (.bool false)) fun v20=>
 i9 v20
 (b7 (j1 0 x2) fun v21=>
 b7 (c9 S v21) fun v22=>
 b7 (o7 5 v22 x6) fun v23=>
 b7 (j1 1 v23) fun v24=>
 b7 (c9 S v24) fun v25=>
 b7 (a3n v25) fun v26=>
 b7 (i5 .add x5 v26) fun v27=>
 b7 (j1 0 x2) fun v28=>
 b7 (c9 S v28) fun v29=>
 b7 (o7 5 v29 x6) fun v30=>
 b7 (j1 2 v30) fun v31=>
 b7 (c9 S v31) fun v32=>
 b7 (m8 v32) fun v33=>
 b7 (i5 .add v27 v33) fun v34=>
 j2 Try.prog E w0 (.loop a8A) (m6 135 [1,2,5,6,7] [x1,x2,v34,x6,(.int .i64 0)]) S (a9r E w0 N0 Q))
 (j2 Try.prog E w0 (.loop a8z) (m6 135 [1,2,5,8] [x1,x2,x5,(.int .i64 0)]) S (a8l E w0 Q))
theorem b8z{E:j3}{w0:j8}{N0:D→D→D→D→b8→Prop}{Q:D→b8→Prop}{x1 x2 x5 x6:D}{S:b8}(h:a8u E w0 N0 Q x1 x2 x5 x6 S):
  j2 Try.prog E w0 a9f (m6 135 [1,2,5,6] [x1,x2,x5,x6]) S (B1 (fun T S=>N0 (T.getD 1 b9) (T.getD 2 b9) (T.getD 5 b9) (T.getD 6 b9) S) (a9B E w0 Q)):=j4 M8 M9 M7 mixed (by kernel_rfl) h
theorem b8n{E:j3}{w0:j8}{Q:D→b8→Prop}(I:Nat→D→D→D→D→b8→Prop)
  (step:∀n x1 x2 x5 x6 S,I n x1 x2 x5 x6 S→a8u E w0 (fun x1 x2 x5 x6 S=>∃m,m<n∧I m x1 x2 x5 x6 S) Q x1 x2 x5 x6 S)
  {n:Nat} {x1 x2 x5 x6:D} {S:b8} (h:I n x1 x2 x5 x6 S):j2 Try.prog E w0 (.loop a9f) (m6 135 [1,2,5,6] [x1,x2,x5,x6]) S (a9B E w0 Q):=
 p8 (k:=135) (n:=n) (I:=fun n T S=>I n (T.getD 1 b9) (T.getD 2 b9) (T.getD 5 b9) (T.getD 6 b9) S) (fun n T S hl hI=>q9 [1,2,5,6] hl (j2.mono (b8z (step n _ _ _ _ S hI)) fun ex T' S' _ hq=>by cases ex<;>exact hq)) (o0 ..) (Eq.mp (by kernel_rfl) h)
def b9X(E:j3)(w0:j8)(Q:D→b8→Prop)(a0 a1:D)(S:b8):Prop:=
 b7 (o5 a0) fun cs=>j6 S cs fun v0 S1=>
 b7 (j1 0 v0) fun v2=>
 b7 (c9 S1 v2) fun v3=>
 b7 (m8 v3) fun v4=>
 b7 (j1 1 v0) fun v5=>
 b7 (c9 S1 v5) fun v6=>
 b7 (m8 v6) fun v7=>
 b7 (i5 .add v4 v7) fun v8=>
 b7 (j1 2 v0) fun v9=>
 b7 (c9 S1 v9) fun v10=>
 b7 (m8 v10) fun v11=>
 b7 (i5 .add v8 v11) fun v12=>
 j2 Try.prog E w0 (.loop a9f) (m6 135 [1,2,5,6] [a1,v0,v12,(.int .i64 0)]) S1 (a9B E w0 Q)
theorem c2p{E:j3}{w0:j8}{Q:D→b8→Prop}{a0 a1:D}{S:b8}(h:b9X E w0 (i4 E Q) a0 a1 S):l8 Try.prog E w0 a8Q [a0,a1] S Q:=
 j5 M8 M9 M7 (fn:=Try.f45) (c:=Try.f45.body.getD .skip) mixed Try.func45 (by kernel_rfl) (by kernel_rfl) h
end Go.Proofs.Ytdkidgkiplcggaa.d
end
section
open Go.Proofs Go Go.Am Go.Op
namespace Go.Proofs.Ytdkidgkiplcggaa.d
section
def iC(l:List Int):List (List D):=C6 (l.map (D.int .i64))
def iD(l:List Int):D:= .lst (iC l) 1
@[simp] theorem t7(l:List Int):(iC l).length=l.length:=by simp[iC]
theorem c9z{l:List Int}{i:Nat}{n:Int}(h:l[i]? =some n):(iC l)[i]? =some [.int .i64 n]:=b4B (by rw[List.getElem?_map,h];rfl)
theorem b3k{l:List Int}{i:Nat}{n:Int}(h:l[i]? =some n):o7 1 (iD l) (.int .i64 (i:Int))=some (.elt [.int .i64 n] 0):=b3J (c9z h)
@[simp] theorem Y7(l:List Int):m8 (iD l)=some (.int .i64 l.length):=by simp[iD]
@[simp] theorem b9I(S:b8)(l:List Int):rowsS S 1 (iD l)=some (iC l):=by simp[iD,rowsS,K3]
theorem a3A(a b:List Int):iC (a++b)=iC a++iC b:=by simp[iC,C6]
section
variable{E:j3}{w0:j8}
theorem a9I{a b:List Int}(hl:a.length<2^60)(hb:b.length<2^60):U1 Try.prog E w0 V6 [iD a,iD b] (.bool (decide (a=b))):=fun S=>by
 refine b4C ?_
 unfold b0J
 simp only[Y7,oD,c2K]
 have e:((a.length:Int) != b.length)=decide (a.length≠b.length):=by
  by_cases h:a.length=b.length<;>simp[h,bne]
  intro h';exact h (by omega)
 rw[e,K0]
 refine⟨fun h=> ?_,fun h=> ?_⟩
 ·rw[decide_eq_false (fun e=>h (by rw[e]))]
  exact i4.pure
 have h:a.length=b.length:=by omega
 refine b2M (I:=fun n x0 x1 x5 S'=>S'=S∧x0=iD a∧x1=iD b∧∃i:Nat,x5= .int .i64 (i:Int)∧i+n=a.length∧a.take i=b.take i) ?_ (n:=a.length) ⟨rfl,rfl,rfl,0,rfl,by omega,rfl⟩
 rintro n _ _ _ _ ⟨rfl,rfl,rfl,i,rfl,hi,ht⟩
 unfold a3p
 simp only[Y7,oD,H6]
 rw[K0]
 refine⟨fun hlt=> ?_,fun hge=> ?_⟩
 ·have hlt:i<a.length:=by omega
  have ea:a[i]? =some a[i]:=List.getElem?_eq_getElem hlt
  have eb:b[i]? =some b[i]:=List.getElem?_eq_getElem (by omega)
  simp only[b3k ea,b3k eb,oD,lsE,List.getElem?_cons_zero,c2K]
  have e:(a[i] != b[i])=decide (a[i]≠b[i]):=by by_cases h:a[i]=b[i]<;>simp[h,bne]
  rw[e,K0]
  refine⟨fun hne=> ?_,fun he=> ?_⟩
  ·rw[decide_eq_false (fun e=>hne (by simp only[e]))]
   exact i4.pure
  ·rw[D5,oD,l7 (by omega) (by omega)]
   refine⟨n - 1,by omega,by trivial,by trivial,by trivial,i+1,rfl,by omega, ?_⟩
   rw[List.take_add_one,List.take_add_one,ht,ea,eb,Classical.not_not.1 he]
 ·rw[List.take_of_length_le (by omega),List.take_of_length_le (by omega)]at ht
  rw[decide_eq_true ht]
  exact i4.pure
end
end
section
def d3t(bs:List Int):List UInt8:=bs.map fun b=>UInt8.ofNat b.toNat
theorem d2r(l:List Int):(C6 (l.map (D.int .u8))).mapM c0v=some (d3t l):=by
 induction l with
 |nil=>rfl
 |cons b l ih=>
  have:(C6 ((b::l).map (D.int .u8)))=[D.int .u8 b]::C6 (l.map (D.int .u8)):=rfl
  rw[this,List.mapM_cons,ih]
  rfl
theorem d5X(S:b8)(l:List Int):c2d S (bD l)=some (.str (d3t l)):=by
 have:K3 S 1 (bD l)=some (C6 (l.map (D.int .u8))):=by simp[bD,K3]
 simp only[c2d,this,d2r,Option.map_some]
@[simp] theorem d5m(S:b8)(arms:List (Int×Int)):rowsS S 2 (b3T arms)=some (arms.map a0j):=by simp[b3T,rowsS,K3]
theorem d2P(a b:Int):(a != b)=decide (a≠b):=by by_cases h:a=b<;>simp[h,bne]
section
variable{E:j3}{w0:j8}
end
end
section
abbrev Tx:=List UInt8
structure Ty where
 kind:Int
 name:Tx
 fields:List (Tx×Int)
 elem:Int
 len:Int
 deriving DecidableEq
structure Ro where
 name:Tx
 params:List Int
 results:List Int
 locals:Int
 stack:Int
 code:List Int
 deriving DecidableEq
structure Mo where
 types:List Ty
 texts:List Tx
 funcs:List Ro
 deriving DecidableEq
structure Ty.Ok (t:Ty):Prop where
 kind:0≤t.kind∧t.kind≤255
 name:t.name.length<2^47
 fields:t.fields.length<2^47
 names:∀f∈t.fields,f.1.length<2^47∧I64 f.2
 elem:I64 t.elem
 len:I64 t.len
structure Ro.Ok (r:Ro):Prop where
 name:r.name.length<2^47
 params:r.params.length<2^47
 results:r.results.length<2^47
 ints:∀n∈r.params++r.results,I64 n
 locals:I64 r.locals
 stack:I64 r.stack
 code:r.code.length<2^47
 bytes:∀b∈r.code,a0J b
structure Mo.Ok (m:Mo):Prop where
 types:m.types.length<2^47
 texts:m.texts.length<2^47
 funcs:m.funcs.length<2^47
 ty:∀t∈m.types,t.Ok
 tx:∀t∈m.texts,t.length<2^47
 ro:∀r∈m.funcs,r.Ok
def a1a(f:Tx×Int):List D:=[.str f.1, .int .i64 f.2]
def a2N(fs:List (Tx×Int)):D:= .lst (fs.map a1a) 2
def V0(t:Ty):List D:=[.int .u8 t.kind, .str t.name,a2N t.fields, .int .i64 t.elem, .int .i64 t.len]
def a8S(l:List Ty):D:= .lst (l.map V0) 5
def b0c(l:List Tx):D:= .lst (C6 (l.map D.str)) 1
def K1(r:Ro):List D:=[.str r.name,iD r.params,iD r.results, .int .i64 r.locals, .int .i64 r.stack,bD r.code]
def a5s(l:List Ro):D:= .lst (l.map K1) 6
def K5(m:Mo):List D:=[a8S m.types,b0c m.texts,a5s m.funcs]
def moD(m:Mo):D:= .agg (K5 m)
theorem b0Y{l:List (Tx×Int)}{i:Nat}{y:Tx×Int}(h:l[i]? =some y):o7 2 (a2N l) (.int .i64 (i:Int))=some (.elt (a1a y) 0):=b3J (by rw[List.getElem?_map,h];rfl)
theorem b4F{l:List Ty}{i:Nat}{y:Ty}(h:l[i]? =some y):o7 5 (a8S l) (.int .i64 (i:Int))=some (.elt (V0 y) 0):=b3J (by rw[List.getElem?_map,h];rfl)
theorem c4B{l:List Tx}{i:Nat}{y:Tx}(h:l[i]? =some y):o7 1 (b0c l) (.int .i64 (i:Int))=some (.elt [.str y] 0):=b3J (b4B (by rw[List.getElem?_map,h];rfl))
theorem a9c{l:List Ro}{i:Nat}{y:Ro}(h:l[i]? =some y):o7 6 (a5s l) (.int .i64 (i:Int))=some (.elt (K1 y) 0):=b3J (by rw[List.getElem?_map,h];rfl)
@[simp] theorem a1c(l:List (Tx×Int)):m8 (a2N l)=some (.int .i64 l.length):=by simp[a2N]
@[simp] theorem a6h(l:List Ty):m8 (a8S l)=some (.int .i64 l.length):=by simp[a8S]
@[simp] theorem a8a(l:List Tx):m8 (b0c l)=some (.int .i64 l.length):=by simp[b0c]
@[simp] theorem a4p(l:List Ro):m8 (a5s l)=some (.int .i64 l.length):=by simp[a5s]
@[simp] theorem d2a(S:b8)(p:Tx×Int):i6 S 2 (.elt (a1a p) 0)=some (.agg (a1a p)):=(rfl)
@[simp] theorem d4q(S:b8)(p:Ty):i6 S 5 (.elt (V0 p) 0)=some (.agg (V0 p)):=(rfl)
@[simp] theorem d4f(S:b8)(p:Ro):i6 S 6 (.elt (K1 p) 0)=some (.agg (K1 p)):=(rfl)
theorem d6J(a b:Tx):(a==b)=decide (a=b):=by by_cases h:a=b<;>simp[h]
theorem a1m(k:IntKind)(a b:Int):i5 .neq (.int k a) (.int k b)=some (.bool (decide (a≠b))):=by rw[c2K,d2P]
theorem U6(k:IntKind)(a b:Int):i5 .eql (.int k a) (.int k b)=some (.bool (decide (a=b))):=by rw[a7k,c7I]
section
variable{E:j3}{w0:j8}
theorem t1:(true==false)=false:=rfl
theorem t2:(false==false)=true:=rfl
theorem t3:(false==true)=false:=rfl
theorem t4:(true==true)=true:=rfl
end
end
end Go.Proofs.Ytdkidgkiplcggaa.d
end
