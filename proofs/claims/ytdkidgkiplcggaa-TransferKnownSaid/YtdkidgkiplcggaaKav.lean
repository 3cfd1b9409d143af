/-
  TransferKnownSaid: part Kav of its proof.
-/
import Derived.Test.YtdkidgkiplcggaaKau
import Derived.Test.YtdkidgkiplcggaaRows
import Derived.Test.YtdkidgkiplcggaaKar
import Derived.KernelRfl
set_option linter.unusedVariables false
set_option linter.unusedSimpArgs false
set_option maxRecDepth 100000
section
open Go.Proofs Go Go.Am Go.Op
namespace Go.Proofs.Ytdkidgkiplcggaa.d
section
def a0x(y:Int×Int):List D:=[.int .i64 y.1, .int .i64 y.2]
def b3U(arms:List (Int×Int)):D:= .lst (arms.map a0x) 2
def O2(y:In):List D:=[.int .u8 y.op, .int .i64 y.a, .int .i64 y.b,b3U y.arms]
def inD(y:In):D:= .agg (O2 y)
def c0G(y:In):List Int:=if isS y=true then b2N y else[]
section
variable{E:i9}{w0:j7}{S0 S:b8}{t:D}{bs ms:List Int}
@[simp] theorem b1N(arms:List (Int×Int)):m9 (b3U arms)=some (.int .i64 arms.length):=by simp[b3U]
theorem c8Q{arms:List (Int×Int)}{i:Nat}{y:Int×Int}(h:arms[i]? =some y):p9 2 (b3U arms) (.int .i64 (i:Int))=some (.elt (a0x y) 0):=b6m (by rw[List.getElem?_map,h];rfl)
theorem c6V(h:b5L S0 t bs S){y:In}(ho:y.Ok)(h49:y.op=49)(hl:bs.length<2^30):j6 Try.prog E w0 a9f [t,inD y] S fun v S'=>
  ∃t' bs',v= .tup [t', .bool (decide (y.arms.length≤65535)&&y.arms.all (c0a (IntKind.u8.wrap y.a))&&P3.may y.b)]∧b5L S0 t' bs' S'∧(y.arms.length≤65535→bs'=bs++(G8 y.arms.length 2++a3g y.arms++G8 y.b 4)):=by
 refine c2M ?_
 unfold c1Z
 rw[inD,W3,oD]
 intro k0 a0 n0
 refine E3.use ?_
 rw[a4t (b3y _ _),oD]
 intro k5 a5 n5
 refine stP (ds:=[.int .i64 4,a0f 0 4294967295]) (b8.set_same _ _ _) (W3 _) ⟨rfl,by decide,by simp⟩ fun a5=> ?_
 rw[b8.set_set]
 obtain⟨ne5,n5'⟩:=b8.fresh n5
 have l0:∀ {S':b8},(S.set k0 ⟨(O2 y).length,[O2 y],a0⟩).le S'→∀i,d0 S' (.ptr k0 i)=(O2 y)[i]? :=fun h i=>ldP (h _ _ (b8.set_same _ _ _))
 rw[F8,oD,l0 (b8.le_new n5),show(O2 y)[0+1]? =some (.int .i64 y.a) from rfl,oD,cvI,oD]
 refine a1d.use ?_
 rw[a4t (c0f _),oD]
 intro k6 a6 n6
 refine stP (ds:=[.int .i64 8,a6V (IntKind.u8.wrap y.a)]) (b8.set_same _ _ _) (W3 _) ⟨rfl,by decide,by simp⟩ fun a6=> ?_
 rw[b8.set_set]
 have g0:=h.under (o:=⟨(O2 y).length,[O2 y],a0⟩) n0
 have g5:=g0.under (o:=⟨[D.int .i64 0, .nilFn].length,[l7 [D.int .i64 0, .nilFn] 0 [.int .i64 4,a0f 0 4294967295]],a5⟩) n5
 have g6:=g5.under (o:=⟨[D.int .i64 0, .nilFn].length,[l7 [D.int .i64 0, .nilFn] 0 [.int .i64 8,a6V (IntKind.u8.wrap y.a)]],a6⟩) n6
 have z0:S0 k0=none:=by
  cases e:S0 k0 with
  |none=>rfl
  |some o=>rw[h.le _ _ e]at n0;cases n0
 obtain⟨B,hB⟩:∃B,B=((S0.set k0 ⟨(O2 y).length,[O2 y],a0⟩).set k5 ⟨[D.int .i64 0, .nilFn].length,[l7 [D.int .i64 0, .nilFn] 0 [.int .i64 4,a0f 0 4294967295]],a5⟩).set k6 ⟨[D.int .i64 0, .nilFn].length,[l7 [D.int .i64 0, .nilFn] 0 [.int .i64 8,a6V (IntKind.u8.wrap y.a)]],a6⟩:=⟨_,rfl⟩
 rw[←hB]at g6
 generalize (((S.set k0 _).set k5 _).set k6 _)=S1 at g6 ⊢
 obtain⟨ne6,n6'⟩:=b8.fresh n6
 obtain⟨ne6',n6''⟩:=b8.fresh n6'
 have b0:B k0=some ⟨4,[O2 y],a0⟩:=by rw[hB,b8.set_ne _ _ _ (Ne.symm ne6'),b8.set_ne _ _ _ (Ne.symm ne5)];exact b8.set_same _ _ _
 have b5:B k5=some ⟨2,[[.int .i64 4,a0f 0 4294967295]],a5⟩:=by rw[hB,b8.set_ne _ _ _ (Ne.symm ne6)];exact b8.set_same _ _ _
 have b6:B k6=some ⟨2,[[.int .i64 8,a6V (IntKind.u8.wrap y.a)]],a6⟩:=by rw[hB];exact b8.set_same _ _ _
 have z5:S0 k5=none:=by
  cases e:S0 k5 with
  |none=>rfl
  |some o=>rw[h.le _ _ e]at n5';cases n5'
 have z6:S0 k6=none:=by
  cases e:S0 k6 with
  |none=>rfl
  |some o=>rw[h.le _ _ e]at n6'';cases n6''
 have hle:S0.le B:=by rw[hB];exact b8.le_set (b8.le_set (b8.le_new z0) z5) z6
 clear hB n0 n5 n5' n6 n6' n6'' g0 g5 l0
 have l0:∀ {S':b8},B.le S'→∀i,d0 S' (.ptr k0 i)=(O2 y)[i]? :=fun h i=>ldP (h _ _ b0)
 have l5:∀ {S':b8},B.le S'→i4 S' 2 (.ptr k5 0)=some (.agg [.int .i64 4,a0f 0 4294967295]):=fun h=>bx (h _ _ b5)
 have l6:∀ {S':b8},B.le S'→i4 S' 2 (.ptr k6 0)=some (.agg [.int .i64 8,a6V (IntKind.u8.wrap y.a)]):=fun h=>bx (h _ _ b6)
 have f5:c1U [.int .i64 4,a0f 0 4294967295] P3:=⟨_,rfl, .bet _ _⟩
 have f6:c1U [.int .i64 8,a6V (IntKind.u8.wrap y.a)] (vF (IntKind.u8.wrap y.a)):=⟨_,rfl, .fit _⟩
 have hsh:=ho.short
 simp only[F8,oD,l0 g6.le,show(O2 y)[0+3]? =some (b3U y.arms) from rfl,b1N,a9k]
 rw[M0]
 refine⟨fun hbig=> ?_,fun hsm=> ?_⟩
 ·have c:decide (y.arms.length≤65535)=false:=decide_eq_false (by omega)
  refine d9.less (b8.le_trans hle g6.le) (d9.here ⟨.nilSlc,[], ?_, .inl ⟨rfl,rfl,rfl⟩,fun h=>by omega⟩)
  rw[c,Bool.false_and,Bool.false_and]
 have hsm:y.arms.length≤65535:=by omega
 rw[cvI,oD,b9G (by omega)]
 refine(a3O (s:=2) (by decide) (by decide)).use ?_
 refine(b3I g6 (by rw[u4];omega)).use fun t1 S2 g7=> ?_
 simp only[F8,oD,l0 g7.le,show(O2 y)[0+3]? =some (b3U y.arms) from rfl,b1N]
 refine b8T (I:=fun n x0 x3 x6 x7 x8 x33 x34 x35 S=>∃(B':b8) (j:Nat),B.le B'∧j+n=y.arms.length∧b5L B' x0 (bs++G8 y.arms.length 2++a3g (y.arms.take j)) S∧
   x3= .ptr k0 0∧x6= .ptr k5 0∧x7= .ptr k6 0∧x8= .bool ((y.arms.take j).all (c0a (IntKind.u8.wrap y.a)))∧x33=b3U y.arms∧x34= .int .i64 (y.arms.length:Int)∧x35= .int .i64 (j:Int)) ?_ (n:=y.arms.length)
  ⟨B,0,b8.le_refl _,by omega,by simpa [a3g]using g7,rfl,rfl,rfl,rfl,rfl,rfl,rfl⟩
 rintro n x0 _ _ _ _ _ _ _ S3 ⟨B',j,hB',hj,g8,rfl,rfl,rfl,rfl,rfl,rfl,rfl⟩
 unfold a8L
 have hle8:=b8.le_trans hB' g8.le
 have hbl:(bs++G8 y.arms.length 2++a3g (y.arms.take j)).length<2^40:=by
  simp only[List.length_append,u4,a2H,List.length_take]
  omega
 rw[L7,oD,M0]
 refine⟨fun hlt=> ?_,fun hge=> ?_⟩
 ·have hlt:j<y.arms.length:=by omega
  obtain⟨z,hz⟩:∃z,z=y.arms[j]:=⟨_,rfl⟩
  have hjz:y.arms[j]? =some z:=by rw[List.getElem?_eq_getElem hlt,hz]
  obtain⟨hz1,hz2⟩:=ho.arms z (by rw[hz];exact List.getElem_mem _)
  rw[c8Q hjz,oD,laE,if_pos (by simp[a0x]),oD]
  intro k a nk
  refine stP (ds:=a0x z) (b8.set_same _ _ _) (W3 _) ⟨rfl,by decide,by simp[a0x]⟩ fun a=> ?_
  rw[b8.set_set]
  have hk:B.le (S3.set k ⟨[D.int .i64 0, .int .i64 0].length,[l7 [D.int .i64 0, .int .i64 0] 0 (a0x z)],a⟩):=b8.le_trans hle8 (b8.le_new nk)
  have g9:=g8.under (o:=⟨[D.int .i64 0, .int .i64 0].length,[l7 [D.int .i64 0, .int .i64 0] 0 (a0x z)],a⟩) nk
  have zk:B' k=none:=by
   cases e:B' k with
   |none=>rfl
   |some o=>rw[g8.le _ _ e]at nk;cases nk
  have lk:∀ {S':b8},(B'.set k ⟨[D.int .i64 0, .int .i64 0].length,[l7 [D.int .i64 0, .int .i64 0] 0 (a0x z)],a⟩).le S'→∀i,d0 S' (.ptr k i)=(a0x z)[i]? :=fun h i=>by
   rw[ldP (h _ _ (b8.set_same _ _ _))];rfl
  have hB9:B.le (B'.set k ⟨[D.int .i64 0, .int .i64 0].length,[l7 [D.int .i64 0, .int .i64 0] 0 (a0x z)],a⟩):=b8.le_trans hB' (b8.le_new zk)
  rw[l6 hk,oD,F8,oD,lk g9.le,show(a0x z)[0+0]? =some (.int .i64 z.1) from rfl,oD]
  refine(a3R g9 f6 hz1 (show 1≤8 by decide) (show 8≤8 by decide) hbl).use ?_
  rintro v S4 ⟨t4,rfl,g10⟩
  simp only[exD,List.getElem?_cons_zero,List.getElem?_cons_succ,oD]
  rw[l5 (b8.le_trans hB9 g10.le),oD,F8,oD,lk g10.le,show(a0x z)[0+1]? =some (.int .i64 z.2) from rfl,oD]
  refine(a3R g10 f5 hz2 (by decide) (by decide) (by simp only[List.length_append,u4,a2H,List.length_take]at hbl ⊢;have:(vF (IntKind.u8.wrap y.a)).size=8:=rfl;omega)).use ?_
  rintro v S5 ⟨t5,rfl,g11⟩
  simp only[exD,List.getElem?_cons_zero,List.getElem?_cons_succ,oD]
  have e1:∀p q r:Bool,(∀K:D→Prop,K (.bool (p&&q&&r))→b7 (d8 (b9 (.bool p) true) (some (.bool q))) fun v55=>b7 (o0 (.bool p) v55 (.bool false)) fun v56=>b7 (d8 (b9 v56 true) (some (.bool r))) fun v57=>b7 (o0 v56 v57 (.bool false)) fun v58=>K v58):=by
   intro p q r K hK
   cases p<;>cases q<;>cases r<;>simpa using hK
  refine e1 _ _ _ (fun v58=>b7 (f9 .add (.int .i64 (j:Int)) (.int .i64 1)) fun v59=>_) ?_
  rw[H7,oD,m7 (by omega) (by omega)]
  refine⟨n - 1,by omega,_,j+1,hB9,by omega, ?_,by trivial,by trivial,by trivial, ?_,by trivial,by trivial,by trivial⟩
  ·have:a3g (y.arms.take (j+1))=a3g (y.arms.take j)++(G8 z.1 8++G8 z.2 4):=by
    rw[List.take_add_one,hjz,Option.toList_some]
    simp[a3g,d3l,List.flatMap_append]
   rw[this, ←List.append_assoc, ←List.append_assoc]
   exact g11
  ·rw[List.take_add_one,hjz,Option.toList_some,List.all_append,List.all_cons,List.all_nil,Bool.and_true,c9J,Bool.and_assoc]
 ·have hj':j=y.arms.length:=by omega
  subst hj'
  rw[List.take_length]at g8 hbl ⊢
  rw[l5 hle8,oD,F8,oD,l0 hle8,show(O2 y)[0+2]? =some (.int .i64 y.b) from rfl,oD]
  refine(a3R g8 f5 ho.b (by decide) (by decide) hbl).use ?_
  rintro v S4 ⟨t4,rfl,g9⟩
  simp only[exD,List.getElem?_cons_zero,List.getElem?_cons_succ,oD]
  obtain⟨S5,hl5,g10⟩:=g9.base (b8.le_trans hle hB')
  have e1:∀p q:Bool,(∀K:D→Prop,K (.bool (p&&q))→b7 (d8 (b9 (.bool p) true) (some (.bool q))) fun v55=>b7 (o0 (.bool p) v55 (.bool false)) fun v56=>K v56):=by
   intro p q K hK
   cases p<;>cases q<;>simpa using hK
  refine e1 _ _ (fun v=>d9 E _ (.tup [t4,v]) S4) ?_
  refine d9.less hl5 (d9.here ⟨t4,_, ?_,g10,fun _=> ?_⟩)
  ·rw[decide_eq_true hsm,Bool.true_and]
  ·simp only[List.append_assoc];rfl
end
end
section
theorem c3b(y:In)(f:Fld):∀(l:List Fld) (i:Nat),a4p y i (l++[f])=a4p y i l++G8 (y.num (i+l.length)) f.size
 | [],i=>by simp[a4p]
 |g::l,i=>by
  rw[List.cons_append,a4p,a4p,c3b y f l (i+1),List.append_assoc,List.length_cons,show i+1+l.length=i+(l.length+1) by omega]
theorem c0S(y:In)(f:Fld):∀(l:List Fld) (i:Nat),a1F y i (l++[f])=(a1F y i l&&f.may (y.num (i+l.length)))
 | [],i=>by simp[a1F]
 |g::l,i=>by
  rw[List.cons_append,a1F,a1F,c0S y f l (i+1),Bool.and_assoc,List.length_cons,show i+1+l.length=i+(l.length+1) by omega]
theorem b4e(y:In):∀(l:List Fld) (i:Nat),(∀f∈l,f.size≤8)→(a4p y i l).length≤8*l.length
 | [],i,_=>by simp[a4p]
 |g::l,i,h=>by
  have:=b4e y l (i+1) fun f hf=>h f (List.mem_cons_of_mem _ hf)
  have:=h g List.mem_cons_self
  rw[a4p,List.length_append,u4,List.length_cons]
  omega
theorem c1U.load{row:List D}{f:Fld}(h:c1U row f):row.length=2:=by obtain⟨fv,rfl,_⟩:=h;rfl
section
variable{E:i9}{w0:j7}{S0 S:b8}{t:D}{bs:List Int}{y:In}
theorem c9F{B:b8}(h:b5L B t bs S)(hB:S0.le B){ok:Bool}(hok:isS y=ok)(hbs:ok=true→bs=b2N y):
  E5 E w0 (d9 E fun d' S'=>d'= .tup [bD (c0G y), .int .i64 (if isS y=true then 0 else 120)]∧S'=S0) (.bool ok) t S:=by
 unfold E5
 rw[unN,oD]
 cases ok with
 |false=>
  simp only[Bool.not_false,cdT]
  refine d9.less (b8.le_trans hB h.le) (d9.nilT (lp:=[]) (sz:=1) (d9.here ⟨?_,rfl⟩))
  rw[c0G,hok];rfl
 |true=>
  simp only[Bool.not_true,cdF]
  obtain⟨S',hl,hg⟩:=h.base hB
  refine d9.less hl (hg.finT (lp:=[]) (d9.here ⟨?_,rfl⟩))
  rw[c0G,hok,hbs rfl];rfl
theorem c2A(ho:y.Ok):P9 Try.prog E w0 a9g [inD y] (.tup [bD (c0G y), .int .i64 (if isS y=true then 0 else 120)]):=fun S=>by
 refine b8P ?_
 unfold b5p
 rw[inD,W3,oD]
 intro k0 a0 n0
 have b0:(S.set k0 ⟨4,[O2 y],a0⟩) k0=some ⟨4,[O2 y],a0⟩:=b8.set_same _ _ _
 have l0:∀ {S':b8},(S.set k0 ⟨(O2 y).length,[O2 y],a0⟩).le S'→∀i,d0 S' (.ptr k0 i)=(O2 y)[i]? :=fun h i=>ldP (h _ _ b0)
 have hle:S.le (S.set k0 ⟨(O2 y).length,[O2 y],a0⟩):=b8.le_new n0
 rw[F8,oD,l0 (b8.le_refl _),show(O2 y)[0+0]? =some (.int .u8 y.op) from rfl,oD]
 refine b3k.use ?_
 simp only[exD,List.getElem?_cons_zero,List.getElem?_cons_succ,oD]
 rw[l0 (b8.le_refl _),show(O2 y)[0+0]? =some (.int .u8 y.op) from rfl,oD]
 simp only[j1,clI,List.length_cons,List.length_nil,List.replicate,List.set]
 rw[if_pos (by decide)]
 refine C9 rfl ?_
 refine(b3I (bs:=[]) (ms:=[y.op]) (Grw.nil _ 1) (by simp)).use fun t1 S1 g1=> ?_
 rw[lnL,oD,a5a]
 obtain⟨l,hl⟩:∃l,l=(lay y.op).getD []:=⟨_,rfl⟩
 have hl2:l.length≤2:=by rw[hl];exact b4x
 have hgood:∀f∈l,b2a f:=by rw[hl];exact b6Z _
 have hs8:∀f∈l,f.size≤8:=fun f hf=>a6z (hgood f hf)
 rw[←hl]
 refine b6x (I:=fun n x1 x4 x5 x6 x21 x22 x23 S'=>∃(B:b8) (j:Nat),(S.set k0 ⟨(O2 y).length,[O2 y],a0⟩).le B∧j+n=l.length∧b5L B x6 (y.op::a4p y 0 (l.take j)) S'∧
   x1= .ptr k0 0∧x4= .lst (a4d y.op) 2∧x5= .bool ((lay y.op).isSome&&a1F y 0 (l.take j))∧x21= .lst (a4d y.op) 2∧x22= .int .i64 (l.length:Int)∧x23= .int .i64 (j:Int)) ?_ (n:=l.length)
  ⟨_,0,b8.le_refl _,by omega,by simpa [a4p]using g1,rfl,rfl,by simp[a1F],rfl,rfl,rfl⟩
 rintro n _ _ _ x6 _ _ _ S2 ⟨B,j,hB,hj,g2,rfl,rfl,rfl,rfl,rfl,rfl⟩
 unfold a6B
 have hle2:=b8.le_trans hB g2.le
 rw[L7,oD,M0]
 refine⟨fun hlt=> ?_,fun hge=> ?_⟩
 ·have hlt:j<l.length:=by omega
  obtain⟨f,hf⟩:∃f,f=l[j]:=⟨_,rfl⟩
  have hjf:l[j]? =some f:=by rw[List.getElem?_eq_getElem hlt,hf]
  obtain⟨row,hrow,hfd⟩:=c6R (op:=y.op) (i:=j) (f:=f) (by rw[←hl];exact hjf)
  obtain⟨hg1,_⟩:=hgood f (by rw[hf];exact List.getElem_mem _)
  have hg8:=hs8 f (by rw[hf];exact List.getElem_mem _)
  have hrl:=hfd.load
  rw[b6m hrow,oD,laE,if_pos ⟨by decide,by omega⟩,oD,List.drop_zero,List.take_of_length_le (by omega)]
  intro k a nk
  have hcl:o4 (.agg row)=some row:=rfl
  refine stP (ds:=row) (b8.set_same _ _ _) (W3 _) ⟨hrl,by decide,by simp⟩ fun a=> ?_
  rw[b8.set_set]
  have hset:l7 [D.int .i64 0, .nilFn] 0 row=row:=by
   obtain⟨fv,rfl,_⟩:=hfd;rfl
  rw[hset]
  have g3:=g2.under (o:=⟨[D.int .i64 0, .nilFn].length,[row],a⟩) nk
  have zk:B k=none:=by
   cases e:B k with
   |none=>rfl
   |some o=>rw[g2.le _ _ e]at nk;cases nk
  have hB3:(S.set k0 ⟨(O2 y).length,[O2 y],a0⟩).le (B.set k ⟨[D.int .i64 0, .nilFn].length,[row],a⟩):=b8.le_trans hB (b8.le_new zk)
  have hnum:∀n',n'=y.num j→a2I E w0 (fun x1 x4 x5 x6 x21 x22 x23 S'=>∃m,m<n∧∃(B:b8) (j:Nat),(S.set k0 ⟨(O2 y).length,[O2 y],a0⟩).le B∧j+m=l.length∧b5L B x6 (y.op::a4p y 0 (l.take j)) S'∧
    x1= .ptr k0 0∧x4= .lst (a4d y.op) 2∧x5= .bool ((lay y.op).isSome&&a1F y 0 (l.take j))∧x21= .lst (a4d y.op) 2∧x22= .int .i64 (l.length:Int)∧x23= .int .i64 (j:Int))
    (d9 E fun d' S'=>d'= .tup [bD (c0G y), .int .i64 (if isS y=true then 0 else 120)]∧S'=S) (.ptr k0 0) (.lst (a4d y.op) 2) (.bool ((lay y.op).isSome&&a1F y 0 (l.take j))) x6 (.ptr k 0) (.int .i64 n') (.lst (a4d y.op) 2) (.int .i64 (l.length:Int)) (.int .i64 (j:Int))
    (S2.set k ⟨[D.int .i64 0, .nilFn].length,[row],a⟩):=by
   rintro _ rfl
   unfold a2I
   rw[laP (b8.set_same _ _ _) ⟨by decide,by omega⟩,oD,List.drop_zero,List.take_of_length_le (by omega)]
   have hi:X1 (y.num j):=by unfold In.num;split;exact ho.b;exact ho.a
   have hbl:=b4e y (l.take j) 0 fun f hf=>hs8 f (List.mem_of_mem_take hf)
   refine(a3R g3 hfd hi hg1 hg8 (by rw[List.length_cons];rw[List.length_take]at hbl;omega)).use ?_
   rintro v S4 ⟨t4,rfl,g4⟩
   simp only[exD,List.getElem?_cons_zero,List.getElem?_cons_succ,oD]
   have e1:∀p q:Bool,(∀K:D→Prop,K (.bool (p&&q))→b7 (d8 (b9 (.bool p) true) (some (.bool q))) fun v55=>b7 (o0 (.bool p) v55 (.bool false)) fun v56=>K v56):=by
    intro p q K hK
    cases p<;>cases q<;>simpa using hK
   refine e1 _ _ (fun v30=>b7 (f9 .add (.int .i64 (j:Int)) (.int .i64 1)) fun v31=>_) ?_
   rw[H7,oD,m7 (by omega) (by omega)]
   have htk:l.take (j+1)=l.take j++[f]:=by rw[List.take_add_one,hjf];rfl
   have hlj:(l.take j).length=j:=by rw[List.length_take];omega
   refine⟨n - 1,by omega,_,j+1,hB3,by omega, ?_,by trivial,by trivial, ?_,by trivial,by trivial,by trivial⟩
   ·rw[htk,c3b,hlj,Nat.zero_add, ←List.cons_append];exact g4
   ·rw[htk,c0S,hlj,Nat.zero_add,Bool.and_assoc]
  have hle3:(S.set k0 ⟨(O2 y).length,[O2 y],a0⟩).le (S2.set k ⟨[D.int .i64 0, .nilFn].length,[row],a⟩):=b8.le_trans hB3 g3.le
  rw[F8,oD,l0 hle3,show(O2 y)[0+1]? =some (.int .i64 y.a) from rfl,oD,a7J,oD,cdB]
  refine⟨fun h1=> ?_,fun h1=> ?_⟩
  ·rw[F8,oD,l0 hle3,show(O2 y)[0+2]? =some (.int .i64 y.b) from rfl,oD]
   have h1:j=1:=by have:(j:Int)=1:=by simpa using h1
                   omega
   exact hnum _ (by unfold In.num;rw[if_pos h1])
  ·have h1:¬j=1:=by have:¬(j:Int)=1:=by simpa using h1
                    omega
   exact hnum _ (by unfold In.num;rw[if_neg h1])
 ·have hj':j=l.length:=by omega
  subst hj'
  rw[List.take_length]at g2 ⊢
  have hisS:isS y=(((lay y.op).isSome&&a1F y 0 l)&&
    if y.op=49 then decide (y.arms.length≤65535)&&y.arms.all (c0a (IntKind.u8.wrap y.a))&&decide (0≤y.b∧y.b≤4294967295)
    else decide (y.arms.length=0)&&(decide (2≤l.length)||decide (y.b=0))&&(decide (1≤l.length)||decide (y.a=0))):=by rw[hl];rfl
  have henc:b2N y=y.op::a4p y 0 l++if y.op=49 then G8 y.arms.length 2++a3g y.arms++G8 y.b 4 else[]:=by rw[hl];rfl
  generalize hok:((lay y.op).isSome&&a1F y 0 l)=ok at hisS ⊢
  have hbl:=b4e y l 0 hs8
  have hSB:S.le B:=b8.le_trans hle hB
  rw[F8,oD,l0 hle2,show(O2 y)[0+0]? =some (.int .u8 y.op) from rfl,oD,a7J,oD]
  have nope:∀ {ok':Bool},isS y=ok'→(ok'=true→y.op::a4p y 0 l=b2N y)→E5 E w0 (d9 E fun d' S'=>d'= .tup [bD (c0G y), .int .i64 (if isS y=true then 0 else 120)]∧S'=S) (.bool ok') x6 S2:=fun h1 h2=>c9F g2 hSB h1 h2
  have ll3:d0 S2 (.ptr k0 3)=some (b3U y.arms):=l0 hle2 3
  have ll2:d0 S2 (.ptr k0 2)=some (.int .i64 y.b):=l0 hle2 2
  have ll1:d0 S2 (.ptr k0 1)=some (.int .i64 y.a):=l0 hle2 1
  obtain⟨p1,hp1⟩:∃p,decide ((y.arms.length:Int)>0)=p:=⟨_,rfl⟩
  obtain⟨p2,hp2⟩:∃p,decide ((l.length:Int)<2)=p:=⟨_,rfl⟩
  obtain⟨p3,hp3⟩:∃p,(y.b != 0)=p:=⟨_,rfl⟩
  obtain⟨p4,hp4⟩:∃p,decide ((l.length:Int)<1)=p:=⟨_,rfl⟩
  obtain⟨p5,hp5⟩:∃p,(y.a != 0)=p:=⟨_,rfl⟩
  have key:(decide (y.arms.length=0)&&(decide (2≤l.length)||decide (y.b=0))&&(decide (1≤l.length)||decide (y.a=0)))=(!p1&&(!p2|| !p3)&&(!p4|| !p5)):=by
   have q1:decide (y.arms.length=0)= !p1:=by rw[←hp1, ←decide_not];exact decide_eq_decide.2 (by omega)
   have q2:decide (2≤l.length)= !p2:=by rw[←hp2, ←decide_not];exact decide_eq_decide.2 (by omega)
   have q3:decide (y.b=0)= !p3:=by rw[←hp3];by_cases h:y.b=0<;>simp[h]
   have q4:decide (1≤l.length)= !p4:=by rw[←hp4, ←decide_not];exact decide_eq_decide.2 (by omega)
   have q5:decide (y.a=0)= !p5:=by rw[←hp5];by_cases h:y.a=0<;>simp[h]
   rw[q1,q2,q3,q4,q5]
  by_cases h49:y.op=49
  ·have e49:(y.op==49)=true:=by simp[h49]
   rw[if_pos h49]at hisS henc
   simp only[e49,N6,beq_self_eq_true,vdT,oD,P0,if_true]
   cases ok with
   |true=>
    simp only[cdT]
    rw[laP (hle2 _ _ b0) ⟨by decide,by simp[O2]⟩,oD]
    show j6 Try.prog E w0 a9f [x6,inD y] S2 _
    refine(c6V g2 ho h49 (by rw[List.length_cons];omega)).use ?_
    rintro v S3 ⟨t3,bs3,rfl,g3,hb3⟩
    simp only[exD,List.getElem?_cons_zero,List.getElem?_cons_succ,oD]
    refine c9F g3 hSB (by rw[hisS,Bool.true_and];rfl) fun h=> ?_
    simp only[Bool.and_eq_true,decide_eq_true_eq]at h
    rw[hb3 h.1.1,henc]
   |false=>
    have hn:=nope (ok':=false) (by rw[hisS,Bool.false_and]) (fun h=>by cases h)
    simp only[cdF,F8,oD,Nat.zero_add,ll3,b1N,a9k,lnL,a5a, ←hl,L7,hp1,hp2,hp4]
    cases p1<;>cases p2<;>cases p3<;>cases p4<;>cases p5<;>simp[ll1,ll2,hp3,hp5]<;>exact hn
  ·have e49:(y.op==49)=false:=by simp[h49]
   rw[if_neg h49]at hisS henc
   rw[List.append_nil]at henc
   rw[key]at hisS
   simp only[e49,N6,vdF,oD,P0,Bool.false_eq_true,if_false,cdF,show((false==true)=false) from rfl]
   simp only[F8,oD,Nat.zero_add,ll3,b1N,a9k,lnL,a5a, ←hl,L7,hp1,hp2,hp4]
   cases p1<;>cases p2<;>cases p3<;>cases p4<;>cases p5<;>simp[ll1,ll2,hp3,hp5]<;>exact nope (by rw[hisS];simp) (fun _=>henc.symm)
theorem c6A(ho:y.Ok):P9 Try.prog E w0 b4d [inD y] (.int .i64 ((c0G y).length:Int)):=fun S=>by
 refine c2Q ?_
 unfold c1q
 rw[inD,W3,oD]
 intro k0 a0 n0
 rw[laP (b8.set_same _ _ _) ⟨by decide,by simp[O2]⟩,oD]
 refine(c2A ho).use ?_
 simp only[exD,List.getElem?_cons_zero,List.getElem?_cons_succ,oD,a2E]
 exact d9.drop n0 d9.pure
end
end
section
def d5Y(f:Fld):List D:=[.int .i64 (f.size:Int), .int .i64 f.lo, .int .i64 f.hi, .bool (decide (f.lo<0))]
section
variable{E:i9}{w0:j7}{S:b8}{op:Int}
end
end
section
@[simp] theorem d6X(row:List D)(rows:List (List D))(sz:Nat):p9 sz (.lst (row::rows) sz) (.int .i64 0)=some (.elt row 0):=b6m (i:=0) rfl
@[simp] theorem d7e(a row:List D)(rows:List (List D))(sz:Nat):p9 sz (.lst (a::row::rows) sz) (.int .i64 1)=some (.elt row 0):=b6m (i:=1) rfl
@[simp] theorem d6S(S:b8)(f:Fld):i4 S 4 (.elt (d5Y f) 0)=some (.agg (d5Y f)):=(rfl)
theorem c8K(a b:Int):(a==b)=decide (a=b):=by by_cases h:a=b<;>simp[h]
section
variable{E:i9}{w0:j7}{S:b8}{y:In}
end
end
end Go.Proofs.Ytdkidgkiplcggaa.d
end
section
open Go.Proofs Go Go.Am
namespace Go.Proofs.Ytdkidgkiplcggaa.d
def a4F:List (Nat×List Nat):=[(8,[0,1,5])]
def a4L:List (Nat×List Nat):=[]
def a4I:List (Nat×V5):=[]
noncomputable def a3E:Code:=(j9 [1,1,0,1,0,0] (Try.f19.body.getD .skip))
def a3t(E:i9)(w0:j7)(Q:D→b8→Prop):o7→List D→b8→Prop:=
 (r8 0 (L3 Try.prog E w0 a4F a4L a4I (j9 [1,1,1] (Try.f19.body.getD .skip)) (F3 Try.prog Try.f19 Q)))
def a3v(E:i9)(w0:j7)(N0:D→D→D→b8→Prop)(Q:D→b8→Prop)(x0 x1 x5:D)(S:b8):Prop:=
 b7 (m9 x0) fun v3=>
 b7 (f9 .lss x5 v3) fun v4=>
 i5 v4
 (b7 (p9 1 x0 x5) fun v5=>
 b7 (d0 S v5) fun v6=>
 b7 (p9 1 x1 x5) fun v7=>
 b7 (d0 S v7) fun v8=>
 b7 (f9 .neq v6 v8) fun v9=>
 i5 v9
 (Q (.bool false) S)
 (b7 (f9 .add x5 (.int .i64 1)) fun v10=>
 N0 x0 x1 v10 S))
 (Q (.bool true) S)
theorem b2F{E:i9}{w0:j7}{N0:D→D→D→b8→Prop}{Q:D→b8→Prop}{x0 x1 x5:D}{S:b8}(h:a3v E w0 N0 Q x0 x1 x5 S):
  j3 Try.prog E w0 a3E (l9 26 [0,1,5] [x0,x1,x5]) S (D8 (fun T S=>N0 (T.getD 0 c9) (T.getD 1 c9) (T.getD 5 c9) S) (a3t E w0 Q)):=j0 a4F a4L a4I mixed (by kernel_rfl) h
theorem b2V{E:i9}{w0:j7}{Q:D→b8→Prop}(I:Nat→D→D→D→b8→Prop)
  (step:∀n x0 x1 x5 S,I n x0 x1 x5 S→a3v E w0 (fun x0 x1 x5 S=>∃m,m<n∧I m x0 x1 x5 S) Q x0 x1 x5 S)
  {n:Nat} {x0 x1 x5:D} {S:b8} (h:I n x0 x1 x5 S):j3 Try.prog E w0 (.loop a3E) (l9 26 [0,1,5] [x0,x1,x5]) S (a3t E w0 Q):=
 q9 (k:=26) (n:=n) (I:=fun n T S=>I n (T.getD 0 c9) (T.getD 1 c9) (T.getD 5 c9) S) (fun n T S hl hI=>s4 [0,1,5] hl (j3.mono (b2F (step n _ _ _ S hI)) fun ex T' S' _ hq=>by cases ex<;>exact hq)) (o5 ..) (Eq.mp (by kernel_rfl) h)
def b0H(E:i9)(w0:j7)(Q:D→b8→Prop)(a0 a1:D)(S:b8):Prop:=
 b7 (m9 a0) fun v0=>
 b7 (m9 a1) fun v1=>
 b7 (f9 .neq v0 v1) fun v2=>
 i5 v2
 (Q (.bool false) S)
 (j3 Try.prog E w0 (.loop a3E) (l9 26 [0,1,5] [a0,a1,(.int .i64 0)]) S (a3t E w0 Q))
theorem b5f{E:i9}{w0:j7}{Q:D→b8→Prop}{a0 a1:D}{S:b8}(h:b0H E w0 (d9 E Q) a0 a1 S):j6 Try.prog E w0 J1 [a0,a1] S Q:=
 j4 a4F a4L a4I (fn:=Try.f19) (c:=Try.f19.body.getD .skip) mixed Try.func19 (by kernel_rfl) (by kernel_rfl) h
end Go.Proofs.Ytdkidgkiplcggaa.d
end
section
open Go.Proofs Go Go.Am Go.Op
namespace Go.Proofs.Ytdkidgkiplcggaa.d
section
def iC(l:List Int):List (List D):=A9 (l.map (D.int .i64))
def iD(l:List Int):D:= .lst (iC l) 1
@[simp] theorem s6(l:List Int):(iC l).length=l.length:=by simp[iC]
theorem c9B{l:List Int}{i:Nat}{n:Int}(h:l[i]? =some n):(iC l)[i]? =some [.int .i64 n]:=b4J (by rw[List.getElem?_map,h];rfl)
theorem b3m{l:List Int}{i:Nat}{n:Int}(h:l[i]? =some n):p9 1 (iD l) (.int .i64 (i:Int))=some (.elt [.int .i64 n] 0):=b6m (c9B h)
@[simp] theorem a3I(l:List Int):m9 (iD l)=some (.int .i64 l.length):=by simp[iD]
@[simp] theorem b9y(S:b8)(l:List Int):rowsS S 1 (iD l)=some (iC l):=by simp[iD,rowsS,J2]
theorem a3w(a b:List Int):iC (a++b)=iC a++iC b:=by simp[iC,A9]
section
variable{E:i9}{w0:j7}
theorem a1P{a b:List Int}(hl:a.length<2^60)(hb:b.length<2^60):P9 Try.prog E w0 J1 [iD a,iD b] (.bool (decide (a=b))):=fun S=>by
 refine b5f ?_
 unfold b0H
 simp only[a3I,oD,c2E]
 have e:((a.length:Int) != b.length)=decide (a.length≠b.length):=by
  by_cases h:a.length=b.length<;>simp[h,bne]
  intro h';exact h (by omega)
 rw[e,M0]
 refine⟨fun h=> ?_,fun h=> ?_⟩
 ·rw[decide_eq_false (fun e=>h (by rw[e]))]
  exact d9.pure
 have h:a.length=b.length:=by omega
 refine b2V (I:=fun n x0 x1 x5 S'=>S'=S∧x0=iD a∧x1=iD b∧∃i:Nat,x5= .int .i64 (i:Int)∧i+n=a.length∧a.take i=b.take i) ?_ (n:=a.length) ⟨rfl,rfl,rfl,0,rfl,by omega,rfl⟩
 rintro n _ _ _ _ ⟨rfl,rfl,rfl,i,rfl,hi,ht⟩
 unfold a3v
 simp only[a3I,oD,L7]
 rw[M0]
 refine⟨fun hlt=> ?_,fun hge=> ?_⟩
 ·have hlt:i<a.length:=by omega
  have ea:a[i]? =some a[i]:=List.getElem?_eq_getElem hlt
  have eb:b[i]? =some b[i]:=List.getElem?_eq_getElem (by omega)
  simp only[b3m ea,b3m eb,oD,lsE,List.getElem?_cons_zero,c2E]
  have e:(a[i] != b[i])=decide (a[i]≠b[i]):=by by_cases h:a[i]=b[i]<;>simp[h,bne]
  rw[e,M0]
  refine⟨fun hne=> ?_,fun he=> ?_⟩
  ·rw[decide_eq_false (fun e=>hne (by simp only[e]))]
   exact d9.pure
  ·rw[H7,oD,m7 (by omega) (by omega)]
   refine⟨n - 1,by omega,by trivial,by trivial,by trivial,i+1,rfl,by omega, ?_⟩
   rw[List.take_add_one,List.take_add_one,ht,ea,eb,Classical.not_not.1 he]
 ·rw[List.take_of_length_le (by omega),List.take_of_length_le (by omega)]at ht
  rw[decide_eq_true ht]
  exact d9.pure
end
end
section
def d3K(bs:List Int):List UInt8:=bs.map fun b=>UInt8.ofNat b.toNat
theorem d2i(l:List Int):(A9 (l.map (D.int .u8))).mapM c0h=some (d3K l):=by
 induction l with
 |nil=>rfl
 |cons b l ih=>
  have:(A9 ((b::l).map (D.int .u8)))=[D.int .u8 b]::A9 (l.map (D.int .u8)):=rfl
  rw[this,List.mapM_cons,ih]
  rfl
theorem d6i(S:b8)(l:List Int):c1n S (bD l)=some (.str (d3K l)):=by
 have:J2 S 1 (bD l)=some (A9 (l.map (D.int .u8))):=by simp[bD,J2]
 simp only[c1n,this,d2i,Option.map_some]
@[simp] theorem d5o(S:b8)(arms:List (Int×Int)):rowsS S 2 (b3U arms)=some (arms.map a0x):=by simp[b3U,rowsS,J2]
theorem d3u(a b:Int):(a != b)=decide (a≠b):=by by_cases h:a=b<;>simp[h,bne]
section
variable{E:i9}{w0:j7}
end
end
section
abbrev Tx:=List UInt8
structure Ty where
 kind:Int
 name:Tx
 fields:List (Tx×Int)
 elem:Int
 len:Int
 deriving DecidableEq
structure Ro where
 name:Tx
 params:List Int
 results:List Int
 locals:Int
 stack:Int
 code:List Int
 deriving DecidableEq
structure Mo where
 types:List Ty
 texts:List Tx
 funcs:List Ro
 deriving DecidableEq
structure Ty.Ok (t:Ty):Prop where
 kind:0≤t.kind∧t.kind≤255
 name:t.name.length<2^47
 fields:t.fields.length<2^47
 names:∀f∈t.fields,f.1.length<2^47∧X1 f.2
 elem:X1 t.elem
 len:X1 t.len
structure Ro.Ok (r:Ro):Prop where
 name:r.name.length<2^47
 params:r.params.length<2^47
 results:r.results.length<2^47
 ints:∀n∈r.params++r.results,X1 n
 locals:X1 r.locals
 stack:X1 r.stack
 code:r.code.length<2^47
 bytes:∀b∈r.code,F5 b
structure Mo.Ok (m:Mo):Prop where
 types:m.types.length<2^47
 texts:m.texts.length<2^47
 funcs:m.funcs.length<2^47
 ty:∀t∈m.types,t.Ok
 tx:∀t∈m.texts,t.length<2^47
 ro:∀r∈m.funcs,r.Ok
def a1z(f:Tx×Int):List D:=[.str f.1, .int .i64 f.2]
def a6i(fs:List (Tx×Int)):D:= .lst (fs.map a1z) 2
def X7(t:Ty):List D:=[.int .u8 t.kind, .str t.name,a6i t.fields, .int .i64 t.elem, .int .i64 t.len]
def a9a(l:List Ty):D:= .lst (l.map X7) 5
def b0y(l:List Tx):D:= .lst (A9 (l.map D.str)) 1
def P1(r:Ro):List D:=[.str r.name,iD r.params,iD r.results, .int .i64 r.locals, .int .i64 r.stack,bD r.code]
def a8v(l:List Ro):D:= .lst (l.map P1) 6
def O9(m:Mo):List D:=[a9a m.types,b0y m.texts,a8v m.funcs]
def moD(m:Mo):D:= .agg (O9 m)
theorem b5S{l:List (Tx×Int)}{i:Nat}{y:Tx×Int}(h:l[i]? =some y):p9 2 (a6i l) (.int .i64 (i:Int))=some (.elt (a1z y) 0):=b6m (by rw[List.getElem?_map,h];rfl)
theorem c4L{l:List Ty}{i:Nat}{y:Ty}(h:l[i]? =some y):p9 5 (a9a l) (.int .i64 (i:Int))=some (.elt (X7 y) 0):=b6m (by rw[List.getElem?_map,h];rfl)
theorem c9i{l:List Tx}{i:Nat}{y:Tx}(h:l[i]? =some y):p9 1 (b0y l) (.int .i64 (i:Int))=some (.elt [.str y] 0):=b6m (b4J (by rw[List.getElem?_map,h];rfl))
theorem b5X{l:List Ro}{i:Nat}{y:Ro}(h:l[i]? =some y):p9 6 (a8v l) (.int .i64 (i:Int))=some (.elt (P1 y) 0):=b6m (by rw[List.getElem?_map,h];rfl)
@[simp] theorem a3F(l:List (Tx×Int)):m9 (a6i l)=some (.int .i64 l.length):=by simp[a6i]
@[simp] theorem b1v(l:List Ty):m9 (a9a l)=some (.int .i64 l.length):=by simp[a9a]
@[simp] theorem b5a(l:List Tx):m9 (b0y l)=some (.int .i64 l.length):=by simp[b0y]
@[simp] theorem b1i(l:List Ro):m9 (a8v l)=some (.int .i64 l.length):=by simp[a8v]
@[simp] theorem d2v(S:b8)(p:Tx×Int):i4 S 2 (.elt (a1z p) 0)=some (.agg (a1z p)):=(rfl)
@[simp] theorem d5d(S:b8)(p:Ty):i4 S 5 (.elt (X7 p) 0)=some (.agg (X7 p)):=(rfl)
@[simp] theorem d5K(S:b8)(p:Ro):i4 S 6 (.elt (P1 p) 0)=some (.agg (P1 p)):=(rfl)
theorem d6z(a b:Tx):(a==b)=decide (a=b):=by by_cases h:a=b<;>simp[h]
theorem a5M(k:IntKind)(a b:Int):f9 .neq (.int k a) (.int k b)=some (.bool (decide (a≠b))):=by rw[c2E,d3u]
theorem L1(k:IntKind)(a b:Int):f9 .eql (.int k a) (.int k b)=some (.bool (decide (a=b))):=by rw[a7J,c8K]
section
variable{E:i9}{w0:j7}
theorem t1:(true==false)=false:=rfl
theorem t2:(false==false)=true:=rfl
theorem t3:(false==true)=false:=rfl
theorem t4:(true==true)=true:=rfl
end
end
end Go.Proofs.Ytdkidgkiplcggaa.d
end
