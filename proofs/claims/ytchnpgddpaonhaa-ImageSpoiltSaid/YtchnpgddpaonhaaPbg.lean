/-
  ImageSpoiltSaid: part Pbg of its proof.
-/
import Derived.Test.YtchnpgddpaonhaaPbf
import Derived.Test.YtchnpgddpaonhaaPbe
import Derived.Test.YtchnpgddpaonhaaPba
import Derived.Test.YtchnpgddpaonhaaPaw
import Derived.Test.YtchnpgddpaonhaaRows
import Derived.Test.YtchnpgddpaonhaaPaq
import Derived.KernelRfl
set_option linter.unusedVariables false
set_option linter.unusedSimpArgs false
set_option maxRecDepth 100000
section
open Go.Proofs Go Go.Am Go.Op
namespace Go.Am
section
variable{P:Program}{E:m6}{w0:o3}
theorem c9G{fn:Func}{Q:D→b7→Prop}{c:Code}{T:List D}{S:b7}{n:Nat}(L:List Nat)(hn:T.length=n)(h:a1i P E w0 fn Q c (n9 n L (a2R T L)) S):a1i P E w0 fn Q c T S:=fun R H avs F hC hT=>h R H avs F hC (by rw[←hn];exact c3G hT L)
def d4V(P:Program)(E:m6)(w0:o3)(fn:Func)(Q:D→b7→Prop)(n:Nat)(L:List Nat)(y:Code)(ex:r4)(T':List D)(S':b7):Prop:=match ex with
 | .normal=>a1i P E w0 fn Q y (n9 n L (a2R T' L)) S'
 | .ret=>a3V P S' T' fn.results.toList fun vs=>d9 E Q (b9R vs) S'
 | .exit _=>False
theorem a9E{fn:Func}{Q:D→b7→Prop}{x y:Code}{T:List D}{S:b7}{n:Nat}(L:List Nat)(hn:T.length=n)(h:k9 P E w0 x T S (d4V P E w0 fn Q n L y)):a1i P E w0 fn Q (.seq x y) T S:=
 d0l (h.mono fun ex T' S' hl hq=>by
  cases ex with
  |normal=>exact c9G L (by rw[hl,hn]) hq
  |ret=>exact hq
  |exit id=>exact hq)
def wkQ(E:m6)(Q:r4→List D→b7→Prop)(ex:r4)(T:List D)(S:b7):Prop:=∃T' S',(∀R H avs,D5 E R S H→A3 E R T avs→D5 E R S' H∧A3 E R T' avs)∧T'.length=T.length∧Q ex T' S'
theorem k9.post{c:Code}{T:List D}{S:b7}{Q:r4→List D→b7→Prop}(h:k9 P E w0 c T S (wkQ E Q)):k9 P E w0 c T S Q:=fun R H avs F hC hT=>
 (h R H avs F hC hT).mono fun ex T' H' ⟨F',R',S',T1,a,b,c,d,T2,S2,w,l,e⟩=>⟨F',R',S2,T2,a,(w _ _ _ b c).1,(w _ _ _ b c).2,by rw[l,d],e⟩
theorem WkL.length:∀ {ds es:List D},WkL ds es→ds.length=es.length
 | [],[],_=>rfl
 |_::_,_::_,w=>by simp only[List.length_cons,WkL.length w.2]
 | [],_::_,w=>w.elim
 |_::_,[],w=>w.elim
theorem D5.wk{R:Fz}{S:b7}{H:AHeap}{k sz:Nat}{c c':List D}{a:List AV}(w:WkL c c')(h:D5 E R (S.set k ⟨sz,[c],a⟩) H):D5 E R (S.set k ⟨sz,[c'],a⟩) H:=by
 refine⟨h.frozen,fun j o e=> ?_⟩
 by_cases hj:j=k
 ·subst hj
  rw[b7.set_same]at e
  cases e
  obtain⟨h1,h2,h3,h4,h5⟩:=h.own j _ (b7.set_same _ _ _)
  refine⟨h1,h2,h3,fun row hr=> ?_, ?_⟩
  ·simp only[List.mem_singleton]at hr
   subst hr
   rw[←w.length]
   exact h4 c (by simp)
  ·simp only[List.flatten_cons,List.flatten_nil,List.append_nil]at h5 ⊢
   exact w.ok h5
 ·rw[b7.set_ne _ _ _ hj]at e
  exact h.own j o (by rw[b7.set_ne _ _ _ hj];exact e)
end
end Go.Am
namespace Go.Proofs.Ytchnpgddpaonhaa.d
def mo0:Mo:=⟨[],[],[]⟩
def O5(bs:List Int):Mo×Int×Int:=
 if bs.length>2097152 then(mo0,0,3)
 else if(X4 bs).2.2≠0 then(mo0,(X4 bs).2.1,(X4 bs).2.2)
 else match a9r (bs.take (X4 bs).1.toNat) 8 with
  | .error x=>(mo0,x.1,x.2)
  | .ok (m,_)=>if C7 m≠0 then(mo0,0,C7 m) else(m,0,0)
def a9a(r:Mo×Int×Int):D:= .tup [moD r.1, .int .i64 r.2.1, .int .i64 r.2.2]
noncomputable abbrev cL:Code:=Try.f15.body.getD .skip
noncomputable abbrev cC:Code:=l9 [1] (Try.f40.body.getD .skip)
section
variable{E:m6}{w0:o3}
def c4T(E:m6)(Q:D→b7→Prop)(p2 p3 p4:D)(S:b7):Prop:=a9 (j0 S 3 p2) fun m=>a9 (c9 S p3) fun a=>a9 (c9 S p4) fun e=>d9 E Q (.tup [m,a,e]) S
variable{Q:D→b7→Prop}{a0 p2 p3 p4 v5:D}{S:b7}
theorem d2C(h:o6 S [.nilSlc, .nilSlc, .nilSlc] fun v0 S1=>o6 S1 [.int .i64 0] fun v2 S3=>o6 S3 [.int .i64 0] fun v4 S5=>a1i Try.prog E w0 Try.f15 Q (l9 [1] cL) (n9 38 [0,2,3,4] [a0,v0,v2,v4]) S5):
  a1i Try.prog E w0 Try.f15 Q cL ([a0]++List.replicate 37 b8) S:=by
 show a1i _ _ _ _ _ (.seq (l9 [0] cL) (l9 [1] cL)) _ _
 exact a9E [0,2,3,4] (n:=38) rfl (l8 [] [] [] o9 (by kernel_rfl) h)
theorem d2s(h:a9 (r6 a0) fun v9=>a9 (d8 .gtr v9 (.int .i64 2097152)) fun v10=>i9 v10 (a9 (j0 S 3 p2) fun v11=>f0 S 3 p2 v11 fun _ S1=>f0 S1 1 p3 (.int .i64 0) fun _ S2=>f0 S2 1 p4 (.int .i64 3) fun _ S3=>c4T E Q p2 p3 p4 S3)
   (a1i Try.prog E w0 Try.f15 Q (l9 [1,1] cL) (n9 38 [0,2,3,4] [a0,p2,p3,p4]) S)):
  a1i Try.prog E w0 Try.f15 Q (l9 [1] cL) (n9 38 [0,2,3,4] [a0,p2,p3,p4]) S:=by
 show a1i _ _ _ _ _ (.seq (l9 [1,0] cL) (l9 [1,1] cL)) _ _
 exact a9E [0,2,3,4] (n:=38) rfl (l8 [] [] [] o9 (by kernel_rfl) h)
theorem d2L(h:o4 Try.prog E w0 a4C [a0] S fun v14 S1=>a9 (o5 v14 0) fun v15=>a9 (o5 v14 1) fun v16=>a9 (o5 v14 2) fun v17=>f0 S1 1 p3 v16 fun _ S2=>f0 S2 1 p4 v17 fun _ S3=>
   a1i Try.prog E w0 Try.f15 Q (l9 [1,1,1] cL) (n9 38 [0,2,3,4,5] [a0,p2,p3,p4,v15]) S3):
  a1i Try.prog E w0 Try.f15 Q (l9 [1,1] cL) (n9 38 [0,2,3,4] [a0,p2,p3,p4]) S:=by
 show a1i _ _ _ _ _ (.seq (l9 [1,1,0] cL) (l9 [1,1,1] cL)) _ _
 exact a9E [0,2,3,4,5] (n:=38) rfl (l8 [] [] [] o9 (by kernel_rfl) h)
theorem d2p(h:a9 (c9 S p4) fun v18=>a9 (d8 .neq v18 (.int .i64 0)) fun v19=>i9 v19
   (a9 (j0 S 3 p2) fun v20=>a9 (c9 S p3) fun v21=>a9 (c9 S p4) fun v22=>f0 S 3 p2 v20 fun _ S1=>t6 p3 S S1∧t6 p4 S S1∧f0 S1 1 p3 v21 fun _ S2=>t6 p4 S S2∧f0 S2 1 p4 v22 fun _ S3=>c4T E Q p2 p3 p4 S3)
   (a1i Try.prog E w0 Try.f15 Q (l9 [1,1,1,1] cL) (n9 38 [0,2,3,4,5] [a0,p2,p3,p4,v5]) S)):
  a1i Try.prog E w0 Try.f15 Q (l9 [1,1,1] cL) (n9 38 [0,2,3,4,5] [a0,p2,p3,p4,v5]) S:=by
 show a1i _ _ _ _ _ (.seq (l9 [1,1,1,0] cL) (l9 [1,1,1,1] cL)) _ _
 exact a9E [0,2,3,4,5] (n:=38) rfl (l8 [] [] [] o9 (by kernel_rfl) h)
theorem d2U{K:List D→b7→Prop}(h:a9 (Q1 1 a0 none (some v5) none) fun v26=>a9 (E6 (w6 [.nilSlc, .int .i64 0] [(0,1,v26),(1,1, .int .i64 8)])) fun v27=>a9 (r7 v27) fun cs=>o6 S cs fun v28 S1=>K (n9 38 [2,3,4,6] [p2,p3,p4,v28]) S1):
  k9 Try.prog E w0 (l9 [1,1,1,1,1,0] cL) (n9 38 [0,2,3,4,5] [a0,p2,p3,p4,v5]) S fun ex T' S'=>match ex with| .normal=>K (n9 38 [2,3,4,6] (a2R T' [2,3,4,6])) S'|_=>False:=
 l8 [] [] [] o9 (by kernel_rfl) h
theorem d2S{p6:D}{K:List D→b7→Prop}(h:a9 (j0 S 3 p2) fun v31=>o4 Try.prog E (b1p w0.w) R6 [v31] S fun v32 S1=>a9 (d8 .neq v32 (.int .i64 0)) fun v34=>i9 v34
   (f0 S1 3 p2 (.agg [.nilSlc, .nilSlc, .nilSlc]) fun _ S2=>f0 S2 1 p3 (.int .i64 0) fun _ S3=>f0 S3 1 p4 v32 fun _ S4=>K (n9 38 [2,3,4] [p2,p3,p4]) S4)
   (a9 (j0 S1 3 p2) fun v37=>f0 S1 3 p2 v37 fun _ S2=>f0 S2 1 p3 (.int .i64 0) fun _ S3=>f0 S3 1 p4 (.int .i64 0) fun _ S4=>K (n9 38 [2,3,4] [p2,p3,p4]) S4)):
  k9 Try.prog E (b1p w0.w) (l9 [1,1,1,1,1,1,1] cL) (n9 38 [2,3,4,6] [p2,p3,p4,p6]) S fun ex T' S'=>b7l (K (n9 38 [2,3,4] (a2R T' [2,3,4]))) ex S':=
 l8 [] [] [] o9 (by kernel_rfl) h
theorem c8L{d:D}{w1:o3}{K:b7→Prop}(h:a9 (a9j .neq (d1x true d .nilIfc)) fun v8=>i9 v8
   (a9 (asD a7p (.agg [.int .i64 0, .int .i64 0]) true d) fun v11=>a9 (o5 v11 0) fun v12=>a9 (o5 v11 1) fun v13=>o6 S [.int .i64 0, .int .i64 0] fun v4 S1=>f0 S1 2 v4 v12 fun _ S2=>
    a9 (unD .not v13) fun v15=>i9 v15 (a0S E w1 d S2)
     (a9 (m8 0 v4) fun v18=>a9 (c9 S2 v18) fun v19=>a9 (m8 1 v4) fun v20=>a9 (c9 S2 v20) fun v21=>f0 S2 3 p2 (.agg [.nilSlc, .nilSlc, .nilSlc]) fun _ S3=>t6 v18 S2 S3∧t6 v20 S2 S3∧
      f0 S3 1 p3 v19 fun _ S4=>t6 v20 S2 S4∧f0 S4 1 p4 v21 fun _ S5=>K S5))
   (K S)):
  k9 Try.prog E w1 cC ((([p2,p3,p4]++List.replicate (Try.f40.ntmps - [p2,p3,p4].length) b8).set 6 d).set 3 d) S fun ex _ S'=>b7l K ex S':=
 l8 [] [] [] o9 (by kernel_rfl) h
noncomputable def d1K:Array Oper:=match l9 [1,1,1,1,1,1,0] cL with
 | .region _ ops _=>ops
 |_=> #[]
theorem d2J{w1:o3}{p6:D}{K:List D→b7→Prop}(h:o4 Try.prog E w1 a0H [p6] S fun v30 S1=>f0 S1 3 p2 v30 fun _ S2=>K (((n9 38 [2,3,4,6] [p2,p3,p4,p6]).set 29 p6).set 30 v30) S2):
  b8x Try.prog (o4 Try.prog E w1) (a0S E w1) d1K d1K.toList (n9 38 [2,3,4,6] [p2,p3,p4,p6]) S K:=Eq.mp (by kernel_rfl) h
theorem d0i{XD:D→b7→Prop}(h:k9 Try.prog E (b1p w0.w) (l9 [1,1,1,1,1,0] cL) (n9 38 [0,2,3,4,5] [a0,p2,p3,p4,v5]) S (d4F Try.prog E w0 Try.f15 Try.f40 cC 6 3 Q [p2,p3,p4] XD d1K (l9 [1,1,1,1,1,1,1] cL))):
  a1i Try.prog E w0 Try.f15 Q (l9 [1,1,1,1] cL) (n9 38 [0,2,3,4,5] [a0,p2,p3,p4,v5]) S:=
 c6b (fng:=Try.f40) (c2:=cC) (x:=6) (y:=3) (d:=23) (ks:=[2,3,4]) (caps:= #[.tmp 2, .tmp 3, .tmp 4]) (ops8:=d1K) Try.func40 rfl rfl (by decide)
  (by intro r hr;simp[Try.f15]at hr;rcases hr with rfl|rfl|rfl<;>simp) (by decide) (by decide)
  (by decide) (by rw[o7];decide) XD h
theorem d5f{rows:List (List D)}{sz h:Nat}(hh:h≤rows.length):Q1 sz (.lst rows sz) none (some (.int .i64 (h:Int))) none=some (b8C (rows.take h) (rows.drop h) sz):=by
 have h1:E3 (.int .i64 (h:Int)) rows.length=some h:=by
  simp only[E3]
  rw[if_pos ⟨by omega,by omega⟩,Int.toNat_natCast]
 simp only[Q1,N5,c4E,b1n,b8t,if_true,Option.bind_some,h1,Option.map_some]
 rw[List.take_of_length_le (l:=rows.drop h) (by simp)]
 simp
structure a6K (S0:b7) (k2 k3 k4:Nat) (c:List D) (a e:Int) (S:b7):Prop where
 n2:S0 k2=none
 n3:S0 k3=none
 n4:S0 k4=none
 h23:k2≠k3
 h24:k2≠k4
 h34:k3≠k4
 c2:w9 S k2 3 c
 c3:w9 S k3 1 [.int .i64 a]
 c4:w9 S k4 1 [.int .i64 e]
 le:S0.le S
section
variable{S0 S':b7}{k2 k3 k4:Nat}{c c':List D}{a a' e e':Int}
theorem a6K.up(h:a6K S0 k2 k3 k4 c a e S)(hl:S.le S'):a6K S0 k2 k3 k4 c a e S':=⟨h.n2,h.n3,h.n4,h.h23,h.h24,h.h34,h.c2.le hl,h.c3.le hl,h.c4.le hl,b7.le_trans h.le hl⟩
theorem a6K.keep(h:a6K S0 k2 k3 k4 c a e S){k:Nat}(hk:S k=none)(hl:Q2 [k] S S'):a6K S0 k2 k3 k4 c a e S':=by
 have n2:k2≠k:=h.c2.none hk
 have n3:k3≠k:=h.c3.none hk
 have n4:k4≠k:=h.c4.none hk
 exact⟨h.n2,h.n3,h.n4,h.h23,h.h24,h.h34,hl.cel (by simpa using n2) h.c2,hl.cel (by simpa using n3) h.c3,hl.cel (by simpa using n4) h.c4,hl.le h.le fun j hj=>by simp at hj;subst hj;exact b7.none_of h.le hk⟩
theorem a6K.l0(h:a6K S0 k2 k3 k4 c a e S){k:Nat}(hk:S0 k=none)(o:L7):S0.le (S.set k o):=fun j x hx=>by
 rw[b7.set_ne _ _ _ fun e=>by rw[e,hk]at hx;cases hx];exact h.le _ _ hx
theorem a6K.st2(h:a6K S0 k2 k3 k4 c a e S)(hc:c.length=3){v:D}(hv:r7 v=some c')(hc':c'.length=3){K:D→b7→Prop}(hK:∀S',a6K S0 k2 k3 k4 c' a e S'→(∀j,j≠k2→S' j=S j)→K b8 S'):f0 S 3 (.ptr k2 0) v K:=
 h.c2.st hv ⟨hc',by decide,by omega⟩ fun x=>hK _ (by
  have e1:o8 c 0 c'=c':=by
   match c,c',hc,hc' with
   | [a,b,c],[d,e,f],_,_=>rfl
  rw[e1]
  exact⟨h.n2,h.n3,h.n4,h.h23,h.h24,h.h34,w9.new,w9.set_ne h.c3 h.h23.symm,w9.set_ne h.c4 h.h24.symm,h.l0 h.n2 _⟩) fun j hj=>b7.set_ne _ _ _ hj
theorem a6K.st3(h:a6K S0 k2 k3 k4 c a e S){K:D→b7→Prop}(hK:∀S',a6K S0 k2 k3 k4 c a' e S'→(∀j,j≠k3→S' j=S j)→K b8 S'):f0 S 1 (.ptr k3 0) (.int .i64 a') K:=
 h.c3.st (clI _ _) ⟨rfl,by decide,by simp⟩ fun x=>hK _ ⟨h.n2,h.n3,h.n4,h.h23,h.h24,h.h34,w9.set_ne h.c2 h.h23,w9.new,w9.set_ne h.c4 h.h34.symm,h.l0 h.n3 _⟩ fun j hj=>b7.set_ne _ _ _ hj
theorem a6K.st4(h:a6K S0 k2 k3 k4 c a e S){K:D→b7→Prop}(hK:∀S',a6K S0 k2 k3 k4 c a e' S'→K b8 S'):f0 S 1 (.ptr k4 0) (.int .i64 e') K:=
 h.c4.st (clI _ _) ⟨rfl,by decide,by simp⟩ fun x=>hK _ ⟨h.n2,h.n3,h.n4,h.h23,h.h24,h.h34,w9.set_ne h.c2 h.h24,w9.set_ne h.c3 h.h34,w9.new,h.l0 h.n4 _⟩
theorem a6K.fin(h:a6K S0 k2 k3 k4 c a e S)(hc:c.length=3){m:Mo}(w:Wk (.agg c) (moD m)){r:D}(hr:a9a (m,a,e)=r):c4T E (fun d S'=>d=r∧S'=S0) (.ptr k2 0) (.ptr k3 0) (.ptr k4 0) S:=by
 unfold c4T
 rw[h.c2.all (n:=3) (by decide) hc.symm,oD,h.c3.ld,List.getElem?_cons_zero,oD,h.c4.ld,List.getElem?_cons_zero,oD]
 subst hr
 exact d9.weak (Wk.tup (es:=[moD m, .int .i64 a, .int .i64 e]) ⟨w,Wk.refl _,Wk.refl _,trivial⟩) (d9.less h.le (d9.here ⟨rfl,rfl⟩))
end
theorem c4C:Wk (.agg [.nilSlc, .nilSlc, .nilSlc]) (moD mo0):=Wk.agg ⟨Wk.nil _,Wk.nil _,Wk.nil _,trivial⟩
theorem c2U{p2 p3 p4:D}{T:List D}(hT:T.getD 2 b8=p2∧T.getD 3 b8=p3∧T.getD 4 b8=p4){S:b7}(h:c4T E Q p2 p3 p4 S):c1x Try.prog E w0 Try.f15 Try.f40 cC 6 3 Q [p2,p3,p4] .nilIfc T S:=by
 obtain⟨rfl,rfl,rfl⟩:=hT
 refine(c8L (w1:=b1p w0.w) (d:= .nilIfc) (K:=fun S'=>c4T E Q (T.getD 2 b8) (T.getD 3 b8) (T.getD 4 b8) S') (by
  have e0:a9j .neq (d1x true .nilIfc .nilIfc)=some (.bool false):=rfl
  rw[e0,oD,cdF]
  exact h)).mono fun ex _ S' _ hq=> ?_
 cases ex with
 |normal=>exact hq
 |ret=>exact hq
 |exit id=>exact hq
theorem c6X{T:List D}{S0:b7}{k2 k3 k4:Nat}(hT:T.getD 2 b8= .ptr k2 0∧T.getD 3 b8= .ptr k3 0∧T.getD 4 b8= .ptr k4 0){c:List D}(hc:c.length=3){a e:Int}(h:a6K S0 k2 k3 k4 c a e S)(x:Flt):
  c1x Try.prog E w0 Try.f15 Try.f40 cC 6 3 (fun d S'=>d=a9a (mo0,x.1,x.2)∧S'=S0) [.ptr k2 0, .ptr k3 0, .ptr k4 0] (b3F x) T S:=by
 refine(c8L (w1:=b1p w0.w) (K:=fun S'=>c4T E (fun d S'=>d=a9a (mo0,x.1,x.2)∧S'=S0) (.ptr k2 0) (.ptr k3 0) (.ptr k4 0) S') ?_).mono fun ex _ S' _ hq=> ?_
 ·have e0:a9j .neq (d1x true (b3F x) .nilIfc)=some (.bool true):=rfl
  have e1:asD a7p (.agg [.int .i64 0, .int .i64 0]) true (b3F x)=some (.tup [.agg [.int .i64 x.1, .int .i64 x.2], .bool true]):=by
   simp[b3F,asD]
  rw[e0,oD,cdT,e1,oD,exD,List.getElem?_cons_zero,oD,exD,List.getElem?_cons_succ,List.getElem?_cons_zero,oD]
  intro k5 a5 n5
  have h5:=h.up (b7.le_set (o:=⟨2,[[.int .i64 0, .int .i64 0]],a5⟩) (b7.le_refl S) n5)
  have d2:k2≠k5:=h.c2.none n5
  have d3:k3≠k5:=h.c3.none n5
  have d4:k4≠k5:=h.c4.none n5
  have c5:w9 (S.set k5 ⟨2,[[.int .i64 0, .int .i64 0]],a5⟩) k5 2 [.int .i64 0, .int .i64 0]:=w9.new
  have n0:S0 k5=none:=b7.none_of h.le n5
  refine c5.st (ds:=[.int .i64 x.1, .int .i64 x.2]) rfl ⟨rfl,by decide,by simp⟩ fun a6=> ?_
  rw[b7.set_set]
  have h6:=h.up (b7.le_set (o:=⟨2,[[.int .i64 x.1, .int .i64 x.2]],a6⟩) (b7.le_refl S) n5)
  have c6:w9 (S.set k5 ⟨2,[[.int .i64 x.1, .int .i64 x.2]],a6⟩) k5 2 [.int .i64 x.1, .int .i64 x.2]:=w9.new
  have e2:unD .not (.bool true)=some (.bool false):=rfl
  have e3:o8 [.int .i64 0, .int .i64 0] 0 [.int .i64 x.1, .int .i64 x.2]=[.int .i64 x.1, .int .i64 x.2]:=rfl
  rw[e2,oD,cdF,e3]
  generalize S.set k5 ⟨2,[[.int .i64 x.1, .int .i64 x.2]],a6⟩=S6 at h6 c6 ⊢
  simp only[I3,oD,Nat.zero_add,Nat.add_zero,c6.ld,List.getElem?_cons_zero,List.getElem?_cons_succ]
  refine h6.st2 hc (v:= .agg [.nilSlc, .nilSlc, .nilSlc]) (c':=[.nilSlc, .nilSlc, .nilSlc]) rfl rfl fun S7 h7 e7=> ?_
  refine⟨e7 k5 d2.symm,e7 k5 d2.symm, ?_⟩
  refine h7.st3 (a':=x.1) fun S8 h8 e8=> ?_
  refine⟨(e8 k5 d3.symm).trans (e7 k5 d2.symm), ?_⟩
  refine h8.st4 (e':=x.2) fun S9 h9=> ?_
  exact h9.fin rfl c4C rfl
 ·obtain⟨e1,e2,e3⟩:=hT
  have:∀S',c4T E (fun d S'=>d=a9a (mo0,x.1,x.2)∧S'=S0) (.ptr k2 0) (.ptr k3 0) (.ptr k4 0) S'→d2m Try.prog E Try.f15 (fun d S'=>d=a9a (mo0,x.1,x.2)∧S'=S0) T .normal S':=fun S' h'=>by
   rw[←e1, ←e2, ←e3]at h'
   exact h'
  cases ex with
  |normal=>exact this _ hq
  |ret=>exact this _ hq
  |exit id=>exact hq
theorem d1O{bs:List Int}(he:(X4 bs).2.2=0):∃n:Nat,(X4 bs).1=(n:Int)∧8≤n∧n≤bs.length:=by
 unfold X4 at he ⊢
 split at he
 ·rename_i a e h
  exfalso
  have:∀ {cs bs:List Int} {i:Nat},a3L bs cs i=some (a,e)→e≠0:=by
   intro cs
   induction cs with
   |nil=>intro bs i h;cases bs<;>simp[a3L]at h
   |cons c cs ih=>
    intro bs i h
    cases bs with
    |nil=>simp only[a3L,Option.some.injEq,Prod.mk.injEq]at h;omega
    |cons b bs=>
     rw[a3L]at h
     split at h
     ·simp only[Option.some.injEq,Prod.mk.injEq]at h;omega
     ·exact ih h
  exact this h he
 ·unfold c4O at he ⊢
  split
  ·rename_i h1;rw[if_pos h1]at he;simp at he
  ·rename_i h1
   rw[if_neg h1]at he
   split
   ·rename_i h2;rw[if_pos h2]at he;simp at he
   ·rename_i h2
    rw[if_neg h2]at he
    split
    ·rename_i h3;rw[if_pos h3]at he;simp at he
    ·exact⟨_,rfl,by omega,by omega⟩
theorem c9C{bs:List Int}(hb:∀b∈bs,H6 b){n:Nat}(hn8:8≤n)(hnl:n≤bs.length)(hl:bs.length<2^30){S0 S3:b7}{k2 k3 k4:Nat}{a e:Int}(h3:a6K S0 k2 k3 k4 [.nilSlc, .nilSlc, .nilSlc] a e S3){r:Mo×Int×Int}
  (hr:(match a9r (bs.take n) 8 with
    | .error x=>(mo0,x.1,x.2)
    | .ok (m,_)=>if C7 m≠0 then(mo0,0,C7 m) else(m,0,0))=r):
  a1i Try.prog E w0 Try.f15 (fun d S'=>d=a9a r∧S'=S0) (l9 [1,1,1,1] cL) (n9 38 [0,2,3,4,5] [bD bs, .ptr k2 0, .ptr k3 0, .ptr k4 0, .int .i64 (n:Int)]) S3:=by
 have hbt:∀b∈bs.take n,H6 b:=fun b h=>hb b (List.mem_of_mem_take h)
 have hlt:(bs.take n).length=n:=by rw[List.length_take];omega
 refine d0i (XD:=fun e S''=>∃x,a9r (bs.take n) 8= .error x∧e=b3F x∧S3.le S'') (k9.post ((d2U (K:=fun T' S'=>∃S'',(∀R H,D5 E R S' H→D5 E R S'' H)∧d4F Try.prog E w0 Try.f15 Try.f40 cC 6 3 (fun d S'=>d=a9a r∧S'=S0) [.ptr k2 0, .ptr k3 0, .ptr k4 0] (fun e S''=>∃x,a9r (bs.take n) 8= .error x∧e=b3F x∧S3.le S'') d1K (l9 [1,1,1,1,1,1,1] cL) .normal T' S'') ?_).mono fun ex T' S' hT hq=> ?_))
 rotate_left
 ·cases ex with
  |exit id=>exact hq.elim
  |ret=>exact hq.elim
  |normal=>
   obtain⟨S'',w,hq⟩:=hq
   have h38:T'.length=38:=by rw[hT,o7]
   exact⟨n9 38 [2,3,4,6] (a2R T' [2,3,4,6]),S'',fun R H avs hC hr=>⟨w R H hC,by rw[←h38];exact c3G hr _⟩,by rw[o7,h38],hq⟩
 have hsl:=d5f (rows:=u4 (bs.map (D.int .u8))) (sz:=1) (h:=n) (by simp[u4];omega)
 change Q1 1 (bD bs) _ _ _=_ at hsl
 have htk:(u4 (bs.map (D.int .u8))).take n=u4 ((bs.take n).map (D.int .u8)):=by simp[u4,List.map_take]
 rw[hsl,oD,htk]
 have hw:=b9q (u4 ((bs.take n).map (D.int .u8))) ((u4 (bs.map (D.int .u8))).drop n) 1
 have hcl:∀(rows more:List (List D)),r7 (b8C rows more 1)=some [b8C rows more 1]:=fun rows more=>by cases more<;>rfl
 generalize hx:b8C (u4 ((bs.take n).map (D.int .u8))) ((u4 (bs.map (D.int .u8))).drop n) 1=xd at hw ⊢
 have hcx:r7 xd=some [xd]:=by rw[←hx];exact hcl _ _
 have hf:E6 (w6 [.nilSlc, .int .i64 0] [(0,1,xd),(1,1, .int .i64 8)])=some (.agg [xd, .int .i64 8]):=by
  simp only[w6,hcx,clI]
  rfl
 rw[hf,oD,clA,oD]
 intro k6 a6 n6
 refine⟨S3.set k6 ⟨2,[[bD (bs.take n), .int .i64 8]],a6⟩,fun R H hC=>D5.wk (c:=[xd, .int .i64 8]) ⟨hw,Wk.refl _,trivial⟩ hC,d2J ?_, ?_⟩
 rotate_left
 ·rintro _ S'' ⟨x,ex,rfl,hle⟩
  rw[ex]at hr
  subst hr
  exact c6X ⟨rfl,rfl,rfl⟩ rfl (h3.up hle) x
 have hrd:=c4A (E:=E) (w0:=(⟨w0.w,fun e S''=>∃x,a9r (bs.take n) 8= .error x∧e=b3F x∧S3.le S''⟩:o3)) hbt (by omega) S3 k6 8 (S3.set k6 ⟨2,[[bD (bs.take n), .int .i64 8]],a6⟩) (b7.le_new n6) n6 (by omega) w9.new fun x S' e hle=>⟨⟨_,_,rfl⟩,x,e,rfl,hle⟩
 refine hrd.use fun v S5 ⟨m,q,e,h1,h2,hv,hR,hk⟩=> ?_
 subst hv
 rw[e]at hr
 simp only at hr
 have h5:=h3.keep n6 ((Q2.new n6 _).trans hk)
 refine h5.st2 rfl (v:=moD m) (c':=moC m) rfl rfl fun S6 h6 _=> ?_
 refine s6 [2,3,4,6] (n:=38) rfl ((d2S (p2:= .ptr k2 0) (p3:= .ptr k3 0) (p4:= .ptr k4 0) (p6:= .ptr k6 0) (K:=fun T S=>(T.getD 2 b8= .ptr k2 0∧T.getD 3 b8= .ptr k3 0∧T.getD 4 b8= .ptr k4 0)∧c4T E (fun d S'=>d=a9a r∧S'=S0) (.ptr k2 0) (.ptr k3 0) (.ptr k4 0) S) ?_).mono fun ex T' S' hT hq=> ?_)
 rotate_left
 ·cases ex with
  |exit id=>exact hq
  |normal=>exact c2U (T:=T') hq.1 hq.2
  |ret=>exact c2U (T:=T') hq.1 hq.2
 rw[h6.c2.all (n:=3) (by decide) rfl,oD]
 refine(show o4 Try.prog E (b1p w0.w) R6 [moD m] S6 _ from(a6d (c3i hbt e)).use ?_)
 rw[b4F,oD]
 by_cases hs:C7 m=0
 ·rw[show(C7 m != 0)=false by simp[hs],cdF]
  rw[if_neg (by simp[hs])]at hr
  rw[h6.c2.all (n:=3) (by decide) rfl,oD]
  refine h6.st2 rfl (v:=moD m) (c':=moC m) rfl rfl fun S7 h7 _=> ?_
  refine h7.st3 (a':=0) fun S8 h8 _=> ?_
  refine h8.st4 (e':=0) fun S9 h9=> ?_
  exact⟨⟨rfl,rfl,rfl⟩,h9.fin rfl (Wk.refl _) (by rw[hr])⟩
 ·rw[show(C7 m != 0)=true by simp[hs],cdT]
  rw[if_pos hs]at hr
  refine h6.st2 rfl (v:= .agg [.nilSlc, .nilSlc, .nilSlc]) (c':=[.nilSlc, .nilSlc, .nilSlc]) rfl rfl fun S7 h7 _=> ?_
  refine h7.st3 (a':=0) fun S8 h8 _=> ?_
  refine h8.st4 (e':=C7 m) fun S9 h9=> ?_
  exact⟨⟨rfl,rfl,rfl⟩,h9.fin rfl c4C (by rw[hr])⟩
theorem c2e{bs:List Int}(hb:∀b∈bs,H6 b)(hl:bs.length<2^40):Y7 Try.prog E w0 a1t [bD bs] (a9a (O5 bs)):=fun S0=>by
 refine c8b (c:=cL) Try.func15 rfl (d2C ?_)
 intro k2 a2 n2 k3 a3 n3 k4 a4 n4
 have d23:k3≠k2:=(b7.fresh n3).1
 have n3':=(b7.fresh n3).2
 have d34:k4≠k3:=(b7.fresh n4).1
 have n4':=(b7.fresh n4).2
 have d24:k4≠k2:=(b7.fresh n4').1
 have n4'':=(b7.fresh n4').2
 have h0:a6K S0 k2 k3 k4 [.nilSlc, .nilSlc, .nilSlc] 0 0 (((S0.set k2 ⟨3,[[.nilSlc, .nilSlc, .nilSlc]],a2⟩).set k3 ⟨1,[[.int .i64 0]],a3⟩).set k4 ⟨1,[[.int .i64 0]],a4⟩):=
  ⟨n2,n3',n4'',d23.symm,d24.symm,d34.symm,w9.set_ne (w9.set_ne w9.new d23.symm) d24.symm,w9.set_ne w9.new d34.symm,w9.new,b7.le_set (b7.le_set (b7.le_new n2) n3') n4''⟩
 show a1i _ _ _ _ _ _ _ (((S0.set k2 ⟨3,[[.nilSlc, .nilSlc, .nilSlc]],a2⟩).set k3 ⟨1,[[.int .i64 0]],a3⟩).set k4 ⟨1,[[.int .i64 0]],a4⟩)
 generalize ((S0.set k2 ⟨3,[[.nilSlc, .nilSlc, .nilSlc]],a2⟩).set k3 ⟨1,[[.int .i64 0]],a3⟩).set k4 ⟨1,[[.int .i64 0]],a4⟩=S1 at h0 ⊢
 refine d2s ?_
 rw[L9,oD,a3z,oD,M6]
 refine⟨fun hgt=> ?_,fun hle=> ?_⟩
 ·rw[h0.c2.all (n:=3) (by decide) rfl,oD]
  refine h0.st2 rfl (v:= .agg [.nilSlc, .nilSlc, .nilSlc]) (c':=[.nilSlc, .nilSlc, .nilSlc]) rfl rfl fun S2 h2 _=> ?_
  refine h2.st3 (a':=0) fun S3 h3 _=> ?_
  refine h3.st4 (e':=3) fun S4 h4=> ?_
  refine h4.fin rfl c4C ?_
  unfold O5
  rw[if_pos (by omega)]
 have eL:O5 bs=if(X4 bs).2.2≠0 then(mo0,(X4 bs).2.1,(X4 bs).2.2)
   else match a9r (bs.take (X4 bs).1.toNat) 8 with
    | .error x=>(mo0,x.1,x.2)
    | .ok (m,_)=>if C7 m≠0 then(mo0,0,C7 m) else(m,0,0):=by
  unfold O5;rw[if_neg (by omega)]
 rw[eL]
 refine d2L ((b6t hb hl).use ?_)
 unfold d5p
 rw[exD,List.getElem?_cons_zero,oD,exD,List.getElem?_cons_succ,List.getElem?_cons_zero,oD,exD,List.getElem?_cons_succ,List.getElem?_cons_succ,List.getElem?_cons_zero,oD]
 refine h0.st3 (a':=(X4 bs).2.1) fun S2 h2 _=> ?_
 refine h2.st4 (e':=(X4 bs).2.2) fun S3 h3=> ?_
 refine d2p ?_
 rw[h3.c4.ld,List.getElem?_cons_zero,oD,b4F,oD]
 by_cases he:(X4 bs).2.2=0
 rotate_left
 ·rw[show((X4 bs).2.2 != 0)=true by simp[he],cdT,if_pos he]
  rw[h3.c2.all (n:=3) (by decide) rfl,oD,h3.c3.ld,List.getElem?_cons_zero,oD,oD]
  refine h3.st2 rfl (v:= .agg [.nilSlc, .nilSlc, .nilSlc]) (c':=[.nilSlc, .nilSlc, .nilSlc]) rfl rfl fun S4 h4 e4=> ?_
  refine⟨e4 k3 h3.h23.symm,e4 k4 h3.h24.symm, ?_⟩
  refine h4.st3 (a':=(X4 bs).2.1) fun S5 h5 e5=> ?_
  refine⟨(e5 k4 h3.h34.symm).trans (e4 k4 h3.h24.symm), ?_⟩
  refine h5.st4 (e':=(X4 bs).2.2) fun S6 h6=> ?_
  exact h6.fin rfl c4C rfl
 rw[show((X4 bs).2.2 != 0)=false by simp[he],cdF,if_neg (by simp[he])]
 obtain⟨n,hn,hn8,hnl⟩:∃n:Nat,(X4 bs).1=(n:Int)∧8≤n∧n≤bs.length:=d1O he
 rw[hn,Int.toNat_natCast]
 exact c9C hb hn8 hnl (by omega) h3 rfl
end
end Go.Proofs.Ytchnpgddpaonhaa.d
end
section
open Go.Proofs Go Go.Am Go.Op
namespace Go.Proofs.Ytchnpgddpaonhaa.d
section
theorem a8y(l:List Int):0≤M1 l∧M1 l<4294967296:=by
 unfold M1
 show 0≤(_:Int) % 4294967296∧(_:Int) % 4294967296<4294967296
 exact⟨Int.emod_nonneg _ (by decide),Int.emod_lt_of_pos _ (by decide)⟩
def E5(L:Int)(body:List Int)(s:Int):List Int:=[84,82,77,1]++(B9 L 4++(body++B9 s 4))
theorem X7(L:Int)(body:List Int)(s:Int):(E5 L body s).length=body.length+12:=by
 simp only[E5,List.length_append,s8,List.length_cons,List.length_nil];omega
theorem c5j(L:Int)(body:List Int)(s:Int):((E5 L body s).drop 4).take 4=B9 L 4:=by
 show(B9 L 4++(body++B9 s 4)).take 4=_
 rw[List.take_left' (s8 _ _)]
theorem a8A(L:Int)(body:List Int)(s:Int):(E5 L body s).drop 8=body++B9 s 4:=by
 rw[show(8:Nat)=4+4 from rfl, ←List.drop_drop]
 show(B9 L 4++(body++B9 s 4)).drop 4=_
 rw[List.drop_left' (s8 _ _)]
theorem d2G(L:Int)(body:List Int)(s:Int):(E5 L body s).drop (8+body.length)=B9 s 4:=by
 rw[←List.drop_drop,a8A,List.drop_left]
theorem d0j{body:List Int}(hl:body.length≤2097140):X4 (E5 body.length body (M1 body))=(((8+body.length:Nat):Int),0,0):=by
 have hm:a3L (E5 body.length body (M1 body)) U5 0=none:=rfl
 have hL:leN (B9 (body.length:Int) 4)=body.length:=by
  have:=a5e 4 (body.length:Int)
  omega
 obtain⟨s0,s1⟩:=a8y body
 have hS:(leN (B9 (M1 body) 4):Int)=M1 body:=by
  have:=a5e 4 (M1 body)
  omega
 unfold X4
 rw[hm]
 simp only
 unfold c4O
 rw[c5j,hL,X7,a8A,List.take_left,d2G,List.take_of_length_le (by rw[s8];exact Nat.le_refl _),hS]
 rw[if_neg (by omega),if_neg (by omega),if_neg (by simp)]
theorem b6N{m:Mo}(h:(a3h m).2=0):C7 m=0∧(A8 m).length≤2097140∧(a3h m).1=E5 (A8 m).length (A8 m) (M1 (A8 m)):=by
 unfold a3h at h ⊢
 split at h
 ·rename_i h0;exact(h0 h).elim
 rename_i h0
 split at h
 ·cases h
 rename_i h1
 rw[if_neg h0,if_neg h1]
 exact⟨Classical.not_not.1 h0,by omega,rfl⟩
theorem d1b{m:Mo}(hm:m.Ok)(h:(a3h m).2=0):O5 (a3h m).1=(m,0,0):=by
 obtain⟨hs,hl,he⟩:=b6N h
 rw[he]
 have hlen:=X7 (A8 m).length (A8 m) (M1 (A8 m))
 unfold O5
 rw[if_neg (by omega),d0j hl,if_neg (by simp)]
 simp only[Int.toNat_natCast]
 have htl:((E5 (A8 m).length (A8 m) (M1 (A8 m))).take (8+(A8 m).length)).length=8+(A8 m).length:=by rw[List.length_take];omega
 rw[c9B (m:=m) (d2e hm hs) (by omega) (by rw[List.drop_take,a8A,Nat.add_sub_cancel_left,List.take_left])]
 simp only
 rw[if_neg (by simp[hs])]
end
section
theorem Mo.Small.fits{m:Mo}{N:Nat}(hm:m.Ok)(h:m.Small N)(hN:N<2^30):m.Fits:=
 ⟨hm,by have:=h.types;omega,by have:=h.texts;omega,by have:=h.funcs;omega,fun t ht=>by have:=h.fields t ht;omega,fun r hr=>by have:=h.params r hr;omega⟩
end
end Go.Proofs.Ytchnpgddpaonhaa.d
end
section
open Go.Proofs Go Go.Am
namespace Go.Proofs.Ytchnpgddpaonhaa.d
def c1B:List (Nat×List Nat):=[]
def c0c:List (Nat×List Nat):=[]
def c1D:List (Nat×Arr):=[]
def b3s(E:m6)(w0:o3)(Q:D→b7→Prop)(S:b7):Prop:=
 a9 (E6 (w6 [.nilSlc, .nilSlc, .nilSlc] [])) fun v0=>
 o4 Try.prog E w0 a0W [v0] S fun v1 S2=>
 a9 (o5 v1 0) fun v3=>
 a9 (o5 v1 1) fun v4=>
 a9 (d8 .eql v4 (.int .i64 0)) fun v5=>
 a9 (j9 (d6 v5 true) (some v3)) fun v6=>
 a9 (j9 (d6 v5 true) (b3I S2 v6)) fun v7=>
 a9 (j9 (d6 v5 true) (c2p .eql v7 (.str [84,82,77,1,3,0,0,0,0,0,0,18,217,65,255]))) fun v8=>
 a9 (z2 v5 v8 (.bool false)) fun v9=>
 Q v9 S2
theorem b6D{E:m6}{w0:o3}{Q:D→b7→Prop}{S:b7}(h:b3s E w0 (d9 E Q) S):o4 Try.prog E w0 a0D [] S Q:=
 m9 c1B c0c c1D (fn:=Try.f10) (c:=Try.f10.body.getD .skip) o9 Try.func10 (by kernel_rfl) (by kernel_rfl) h
end Go.Proofs.Ytchnpgddpaonhaa.d
end
section
open Go.Proofs Go Go.Am Go.Op
namespace Go.Proofs.Ytchnpgddpaonhaa.d
section
variable{E:m6}{w0:o3}
theorem d3Z:(⟨[],[],[]⟩:Mo).Ok:=by constructor<;>simp
theorem d6f:a3h ⟨[],[],[]⟩=([84,82,77,1,3,0,0,0,0,0,0,18,217,65,255],0):=by kernel_rfl
theorem b9W:Y7 Try.prog E w0 a0D [] (.bool true):=fun S=>by
 refine b6D ?_
 unfold b3s
 have e:E6 (w6 [.nilSlc, .nilSlc, .nilSlc] [])=some (.agg [.nilSlc, .nilSlc, .nilSlc]):=rfl
 rw[e,oD]
 have fm:(⟨[],[],[]⟩:Mo).Fits:=Mo.Small.fits (N:=0) d3Z (by constructor<;>simp) (by decide)
 refine DF.weak (es:=[moD ⟨[],[],[]⟩]) ⟨Wk.agg ⟨Wk.nil _,Wk.nil _,Wk.nil _,trivial⟩,trivial⟩ ((b0x fm).use ?_)
 simp only[d6f,exD,List.getElem?_cons_zero,List.getElem?_cons_succ,oD,a4M,decide_true,wdB,vdT,gdT,d0M,show((true==true)=true) from rfl]
 have eb:c2p .eql (.str (a8U [84,82,77,1,3,0,0,0,0,0,0,18,217,65,255])) (.str [84,82,77,1,3,0,0,0,0,0,0,18,217,65,255])=some (.bool true):=rfl
 simp only[eb,oD,pdB,if_true]
 exact d9.pure
end
end Go.Proofs.Ytchnpgddpaonhaa.d
end
section
open Go.Proofs Go Go.Am
namespace Go.Proofs.Ytchnpgddpaonhaa.d
def b1Q:List (Nat×List Nat):=[]
def b1X:List (Nat×List Nat):=[]
def b2l:List (Nat×Arr):=[]
def a4N(E:m6)(w0:o3)(Q:D→b7→Prop)(a0 a1 a2:D)(S:b7):Prop:=
 a9 (r7 a0) fun cs=>o6 S cs fun v0 S1=>
 a9 (j0 S1 3 v0) fun v2=>
 o4 Try.prog E w0 b3K [v2,(.int .i64 10000)] S1 fun v3 S4=>
 a9 (d8 .gtr v3 (.int .i64 10000)) fun v5=>
 i9 v5
 (o4 Try.prog E w0 a0D [] S4 fun v6 S7=>
 Q v6 S7)
 (a9 (j0 S4 3 v0) fun v8=>
 o4 Try.prog E w0 a0W [v8] S4 fun v9 S10=>
 a9 (o5 v9 0) fun v11=>
 a9 (o5 v9 1) fun v12=>
 a9 (d8 .neq v12 (.int .i64 0)) fun v13=>
 i9 v13
 (o4 Try.prog E w0 a0D [] S10 fun v14 S15=>
 Q v14 S15)
 (a9 (r6 v11) fun v16=>
 o4 Try.prog E w0 b3U [a1,v16] S10 fun v17 S18=>
 a9 (Q1 1 v11 none (some v17) none) fun v19=>
 o4 Try.prog E w0 a1t [v19] S18 fun v20 S21=>
 a9 (o5 v20 0) fun v22=>
 a9 (o5 v20 1) fun v23=>
 a9 (o5 v20 2) fun v24=>
 o6 S21 [.nilSlc, .nilSlc, .nilSlc] fun v25 S26=>
 f0 S26 3 v25 v22 fun v27 S28=>
 a9 (d8 .neq v24 (.int .i64 10)) fun v29=>
 a9 (j9 (d6 v29 false) (some v23)) fun v30=>
 a9 (j9 (d6 v29 false) (some v17)) fun v31=>
 a9 (j9 (d6 v29 false) (d8 .neq v30 v31)) fun v32=>
 a9 (z2 v29 (.bool true) v32) fun v33=>
 i9 v33
 (Q (.bool false) S28)
 (y9 S28 1 1 .nilSlc v11 fun v34 S35=>
 a9 (A7 1 v34 v17) fun v36=>
 f0 S35 1 v36 a2 fun v37 S38=>
 o4 Try.prog E w0 a1t [v34] S38 fun v39 S40=>
 a9 (o5 v39 0) fun v41=>
 a9 (o5 v39 1) fun v42=>
 a9 (o5 v39 2) fun v43=>
 o6 S40 [.nilSlc, .nilSlc, .nilSlc] fun v44 S45=>
 f0 S45 3 v44 v41 fun v46 S47=>
 a9 (d8 .eql v43 (.int .i64 0)) fun v48=>
 a9 (A7 1 v11 v17) fun v49=>
 a9 (c9 S47 v49) fun v50=>
 a9 (d8 .eql v50 a2) fun v51=>
 a9 (a9j .neq (d2k v48 v51)) fun v52=>
 i9 v52
 (Q (.bool false) S47)
 (a9 (A7 1 v11 v17) fun v53=>
 a9 (c9 S47 v53) fun v54=>
 a9 (A7 1 v34 v17) fun v55=>
 f0 S47 1 v55 v54 fun v56 S57=>
 u6 S57 1 (p9 1 (List.replicate 1 [(.int .u8 0)]) [(0,a2)]) 1 fun v58 S59=>
 y9 S59 1 1 v34 v58 fun v60 S61=>
 o4 Try.prog E w0 a1t [v60] S61 fun v62 S63=>
 a9 (o5 v62 0) fun v64=>
 a9 (o5 v62 1) fun v65=>
 a9 (o5 v62 2) fun v66=>
 o6 S63 [.nilSlc, .nilSlc, .nilSlc] fun v67 S68=>
 f0 S68 3 v67 v64 fun v69 S70=>
 a9 (d8 .eql v66 (.int .i64 130)) fun v71=>
 a9 (j9 (d6 v71 true) (some v65)) fun v72=>
 a9 (j9 (d6 v71 true) (some v11)) fun v73=>
 a9 (j9 (d6 v71 true) (r6 v73)) fun v74=>
 a9 (j9 (d6 v71 true) (d8 .eql v72 v74)) fun v75=>
 a9 (z2 v71 v75 (.bool false)) fun v76=>
 a6e (d6 v76 true) (fun K=>o4 Try.prog E w0 a0D [] S70 K) S70 fun v77 S78=>
 a9 (z2 v76 v77 (.bool false)) fun v79=>
 Q v79 S78))))
theorem a9Q{E:m6}{w0:o3}{Q:D→b7→Prop}{a0 a1 a2:D}{S:b7}(h:a4N E w0 (d9 E Q) a0 a1 a2 S):o4 Try.prog E w0 a4K [a0,a1,a2] S Q:=
 m9 b1Q b1X b2l (fn:=Try.f6) (c:=Try.f6.body.getD .skip) o9 Try.func6 (by kernel_rfl) (by kernel_rfl) h
def c6j:List (Nat×List Nat):=[]
def c6A:List (Nat×List Nat):=[]
def c6N:List (Nat×Arr):=[]
def b9F(E:m6)(w0:o3)(Q:D→b7→Prop)(a0 a1:D)(S:b7):Prop:=
 a9 (d8 .lss a1 (.int .i64 1)) fun v0=>
 i9 v0
 (Q (.int .i64 0) S)
 (a9 (d8 .rem a0 a1) fun v1=>
 a9 (d8 .lss v1 (.int .i64 0)) fun v2=>
 i9 v2
 (a9 (d8 .add v1 a1) fun v3=>
 Q v3 S)
 (Q v1 S))
theorem c2t{E:m6}{w0:o3}{Q:D→b7→Prop}{a0 a1:D}{S:b7}(h:b9F E w0 (d9 E Q) a0 a1 S):o4 Try.prog E w0 b3U [a0,a1] S Q:=
 m9 c6j c6A c6N (fn:=Try.f16) (c:=Try.f16.body.getD .skip) o9 Try.func16 (by kernel_rfl) (by kernel_rfl) h
end Go.Proofs.Ytchnpgddpaonhaa.d
end
section
open Go.Proofs Go Go.Am Go.Op
namespace Go.Proofs.Ytchnpgddpaonhaa.d
section
section
variable{E:m6}{w0:o3}
theorem t11:(true==true)=true:=rfl
theorem t00:(false==false)=true:=rfl
end
end
section
theorem c9y:∀(l:List Int) (i acc:Nat) {v k:Nat},a8k l i acc=(v,k,0)→i≤9→H8 l→∃n r,l=a4c (9 - i) n++r∧v=acc+n*2^(7*i)∧k=i+(a4c (9 - i) n).length∧(0<i→0<n)
 | [],i,acc,v,k,h,_,_=>by cases h
 |b::l,i,acc,v,k,h,hi,hb=>by
  obtain⟨b0,b1⟩:=hb b (by simp)
  rw[a8k]at h
  split at h
  ·cases h
  rename_i hbad
  split at h
  ·rename_i h128
   cases h
   have e1:b.toNat % 128=b.toNat:=by omega
   have e2:a4c (9 - i) b.toNat=[b]:=by
    cases hf:9 - i with
    |zero=>rw[a4c];congr 1;omega
    |succ f=>rw[a4c,if_pos (by omega)];congr 1;omega
   exact⟨b.toNat,l,by rw[e2];rfl,by rw[e1],by rw[e2];rfl,fun _=>by omega⟩
  ·rename_i h128
   have hi9:i≠9:=fun e=>hbad (.inl ⟨e,by omega⟩)
   obtain⟨n,r,h1,h2,h3,h4⟩:=c9y l (i+1) _ h (by omega) fun c hc=>hb c (List.mem_cons_of_mem _ hc)
   have hn:=h4 (by omega)
   have e9:9 - i=(9 - (i+1))+1:=by omega
   have em:(b.toNat % 128+128*n) % 128=b.toNat % 128:=by omega
   have ed:(b.toNat % 128+128*n) / 128=n:=by omega
   have ep:a4c (9 - i) (b.toNat % 128+128*n)=b::a4c (9 - (i+1)) n:=by
    rw[e9,a4c,if_neg (by omega),em,ed]
    congr 1
    omega
   refine⟨b.toNat % 128+128*n,r,by rw[ep,h1];rfl, ?_,by rw[ep,h3,List.length_cons];omega,fun _=>by omega⟩
   have e2:2^(7*(i+1))=128*2^(7*i):=by rw[show 7*(i+1)=7+7*i by omega,Nat.pow_add]
   rw[h2,e2,Nat.add_mul,Nat.mul_comm 128 n, ←Nat.mul_assoc,Nat.add_assoc]
def Gd{α:Type}(bs:List Int)(g:Ps α)(R:α→List Int→Prop):Prop:=∀p,p≤bs.length→
 (∀x,g p= .error x→0≤x.1∧x.1≤(bs.length:Int)∧x.2≠0)∧∀a q,g p= .ok (a,q)→p≤q∧q≤bs.length∧∃l,R a l∧bs.drop p=l++bs.drop q
section
variable{bs:List Int}{α β:Type}
theorem Gd.ret(a:α):Gd bs (Ps.ret a) fun b l=>b=a∧l=[]:=fun p hp=>⟨fun x h=>(by cases h),fun b q h=>by cases h;exact⟨Nat.le_refl _,hp,[],⟨rfl,rfl⟩,rfl⟩⟩
theorem Gd.bind{g:Ps α}{f:α→Ps β}{R:α→List Int→Prop}{Rf:α→β→List Int→Prop}{R':β→List Int→Prop}(h:Gd bs g R)(hf:∀a l,R a l→Gd bs (f a) (Rf a))(hR:∀a b l1 l2,R a l1→Rf a b l2→R' b (l1++l2)):Gd bs (g.bind f) R':=fun p hp=>by
 refine⟨fun x hx=> ?_,fun b q hq=> ?_⟩
 ·cases hg:g p with
  |error e=>
   rw[Ps.bind_err hg]at hx
   cases hx
   exact(h p hp).1 _ hg
  |ok r=>
   obtain⟨a,q⟩:=r
   rw[Ps.bind_ok hg]at hx
   obtain⟨h1,h2,l,h3,h4⟩:=(h p hp).2 a q hg
   exact((hf a l h3) q h2).1 x hx
 ·obtain⟨a,q1,h1,h2⟩:=Ps.of_bind hq
  obtain⟨k1,k2,l,k3,k4⟩:=(h p hp).2 a q1 h1
  obtain⟨j1,j2,l2,j3,j4⟩:=((hf a l k3) q1 k2).2 b q h2
  exact⟨Nat.le_trans k1 j1,j2,l++l2,hR a b l l2 k3 j3,by rw[k4,j4,List.append_assoc]⟩
theorem Gd.map{g:Ps α}{f:α→β}{R:α→List Int→Prop}{R':β→List Int→Prop}(h:Gd bs g R)(hR:∀a l,R a l→R' (f a) l):Gd bs (g.bind fun a=>Ps.ret (f a)) R':=
 h.bind (fun a l _=>Gd.ret (f a)) fun a b l1 l2 h1 ⟨e1,e2⟩=>by subst e1;subst e2;rw[List.append_nil];exact hR a l1 h1
theorem Gd.rep{g:Ps α}{P:α→Prop}{enc:α→List Int}(h:Gd bs g fun a l=>P a∧l=enc a):∀n,Gd bs (Ps.rep g n) fun l' l=>l'.length=n∧(∀a∈l',P a)∧l=l'.flatMap enc
 |0=>fun p hp=>⟨fun x h=>(by cases h),fun b q h=>by cases h;exact⟨Nat.le_refl _,hp,[],⟨rfl,by simp,rfl⟩,rfl⟩⟩
 |n+1=>by
  rw[Ps.rep]
  refine h.bind (fun a l _=>(Gd.rep h n).map (R':=fun l' l=>∃t,l'=a::t∧t.length=n∧(∀a∈t,P a)∧l=t.flatMap enc) fun t l ht=>⟨t,rfl,ht⟩) ?_
  rintro a b l1 l2 ⟨h1,rfl⟩ ⟨t,rfl,h2,h3,rfl⟩
  exact⟨by simp[h2],fun c hc=>by rcases List.mem_cons.1 hc with rfl|hc; ·exact h1
                                 ·exact h3 c hc,by simp⟩
section
variable(hb:H8 bs)
include hb
theorem Gd.num:Gd bs (a6s bs) fun n l=>(0≤n∧n≤2147483647)∧l=F7 n:=fun p hp=>by
 have hbd:H8 (bs.drop p):=fun b h=>hb b (List.mem_of_mem_drop h)
 unfold a6s
 obtain⟨v,k,e,hg⟩:∃v k e,a8k (bs.drop p) 0 0=(v,k,e):=⟨_,_,_,rfl⟩
 rw[hg]
 simp only
 refine⟨fun x hx=> ?_,fun a q ha=> ?_⟩
 ·split at hx
  ·cases hx;exact⟨by simp,by simp,by simp⟩
  ·split at hx
   ·rename_i he;cases hx;exact⟨by simp only;omega,by simp only;omega,he⟩
   ·split at hx
    ·cases hx;exact⟨by simp only;omega,by simp only;omega,by simp⟩
    ·cases hx
 ·split at ha
  ·cases ha
  ·rename_i h10
   split at ha
   ·cases ha
   ·rename_i he
    split at ha
    ·cases ha
    ·rename_i hv
     cases ha
     obtain rfl:e=0:=Classical.not_not.1 he
     obtain⟨n,r,h1,h2,h3,_⟩:=c9y _ 0 0 hg (by decide) hbd
     simp only[Nat.sub_zero,Nat.mul_zero,Nat.pow_zero,Nat.mul_one,Nat.zero_add]at h1 h2 h3
     subst h2
     have hlen:=congrArg List.length h1
     simp only[List.length_drop,List.length_append]at hlen
     have en:F7 (v:Int)=a4c 9 v:=by
      unfold F7 d0t
      congr 1
      omega
     refine⟨by omega,by omega,F7 v,⟨⟨by omega,by omega⟩,rfl⟩, ?_⟩
     rw[en, ←List.drop_drop,h1,h3,List.drop_left]
theorem Gd.count(most:Int):Gd bs (P1 bs most) fun n l=>(0≤n∧n≤most∧n≤2147483647)∧l=F7 n:=fun p hp=>by
 unfold P1
 have:=Gd.bind (R':=fun n l=>(0≤n∧n≤most∧n≤2147483647)∧l=F7 n) (f:=fun n q=>if n>most then .error ((p:Int),3) else .ok (n,q)) (Rf:=fun n m l=>(m=n∧n≤most)∧l=[]) (Gd.num hb) (fun n l h q hq=> ?_) ?_
 ·exact this p hp
 ·refine⟨fun x hx=> ?_,fun a q' ha=> ?_⟩
  ·simp only at hx
   split at hx
   ·cases hx;exact⟨by simp only;omega,by simp only;omega,by simp⟩
   ·cases hx
  ·simp only at ha
   split at ha
   ·cases ha
   ·cases ha;exact⟨Nat.le_refl _,hq,[],⟨⟨rfl,by omega⟩,rfl⟩,rfl⟩
 ·rintro n m l1 l2 ⟨h1,rfl⟩ ⟨⟨rfl,h2⟩,rfl⟩
  exact⟨⟨h1.1,h2,h1.2⟩,by simp⟩
theorem Gd.oct{n:Int}(h0:0≤n):Gd bs (b4l bs n) fun a l=>((a.length:Int)=n∧H8 a)∧l=a:=fun p hp=>by
 unfold b4l
 refine⟨fun x hx=> ?_,fun a q ha=> ?_⟩
 ·split at hx
  ·cases hx;exact⟨by simp,by simp,by simp⟩
  ·cases hx
 ·split at ha
  ·cases ha
  ·rename_i hn
   cases ha
   refine⟨by omega,by omega,_,⟨⟨?_,fun b h=>hb b (List.mem_of_mem_drop (List.mem_of_mem_take h))⟩,rfl⟩, ?_⟩
   ·rw[List.length_take,List.length_drop];omega
   ·rw[←List.drop_drop,List.take_append_drop]
theorem Gd.text(most:Int):Gd bs (a4Q bs most) fun s l=>(s.length:Int)≤most∧l=X1 s:=by
 unfold a4Q
 refine(Gd.count hb most).bind (Rf:=fun n s l=>∃a:List Int,((a.length:Int)=n∧H8 a)∧s=a8U a∧l=a) (fun n l ⟨h,_⟩=>(Gd.oct hb h.1).map fun a l ⟨h,e⟩=>⟨a,h,rfl,e⟩) ?_
 rintro n s l1 l2 ⟨h1,rfl⟩ ⟨a,⟨h2,h3⟩,rfl,rfl⟩
 refine⟨by rw[b5E];omega, ?_⟩
 unfold X1
 rw[b5E,a9w h3,h2]
theorem Gd.nums(most:Int):Gd bs (b3D bs most) fun s l=>((s.length:Int)≤most∧∀n∈s,0≤n∧n≤2147483647)∧l=a4E s:=by
 unfold b3D
 refine(Gd.count hb most).bind (fun n l ⟨h,_⟩=>Gd.rep (Gd.num hb) n.toNat) ?_
 rintro n s l1 l2 ⟨h1,rfl⟩ ⟨h2,h3,rfl⟩
 refine⟨⟨by omega,h3⟩, ?_⟩
 unfold a4E
 rw[show((s.length:Nat):Int)=n by omega]
theorem Gd.fld:Gd bs (b3k bs) fun f l=>True∧l=b0T f:=by
 unfold b3k
 refine(Gd.text hb 65536).bind (Rf:=fun s f l=>∃n,f=(s,n)∧l=F7 n) (fun s l _=>(Gd.num hb).map fun n l ⟨_,e⟩=>⟨n,rfl,e⟩) ?_
 rintro s f l1 l2 ⟨_,rfl⟩ ⟨n,rfl,rfl⟩
 exact⟨trivial,rfl⟩
theorem Gd.one:Gd bs (b3S bs) fun t l=>True∧l=tyB t:=fun p hp=>by
 rw[c9k]
 have:=Gd.bind (R':=fun t l=>True∧l=tyB t) (f:=fun k=>a8g bs p (k.headD 0)) (Rf:=fun k t l=>t.kind=k.headD 0∧tyB t=t.kind::l) (Gd.oct hb (n:=1) (by decide)) (fun k l hk=> ?_) ?_
 ·exact this p hp
 ·generalize k.headD 0=y
  by_cases h6:y=6
  ·subst h6
   rw[c4n]
   refine(Gd.text hb 65536).bind (Rf:=fun s t l=>∃fs:List (Tx×Int),t=(⟨6,s,fs,0,0⟩:Ty)∧l=F7 fs.length++fs.flatMap b0T) (fun s l _=> ?_) ?_
   ·refine(Gd.count hb 32).bind (Rf:=fun n t l=>∃fs:List (Tx×Int),fs.length=n.toNat∧t=(⟨6,s,fs,0,0⟩:Ty)∧l=fs.flatMap b0T) (fun n l _=>(Gd.rep (Gd.fld hb) n.toNat).map fun fs l ⟨h1,_,h2⟩=>⟨fs,h1,rfl,h2⟩) ?_
    rintro n t l1 l2 ⟨h1,rfl⟩ ⟨fs,h2,rfl,rfl⟩
    exact⟨fs,rfl,by rw[show((fs.length:Nat):Int)=n by omega]⟩
   ·rintro s t l1 l2 ⟨_,rfl⟩ ⟨fs,rfl,rfl⟩
    exact⟨rfl,rfl⟩
  by_cases h7:y=7
  ·subst h7
   rw[c4B]
   refine(Gd.num hb).bind (Rf:=fun a t l=>∃b,t=(⟨7,[],[],a,b⟩:Ty)∧l=F7 b) (fun a l _=>(Gd.num hb).map fun b l ⟨_,e⟩=>⟨b,rfl,e⟩) ?_
   rintro a t l1 l2 ⟨_,rfl⟩ ⟨b,rfl,rfl⟩
   exact⟨rfl,rfl⟩
  by_cases h8:y=8
  ·subst h8
   rw[c4f]
   refine(Gd.num hb).map fun a l ⟨_,e⟩=>⟨rfl, ?_⟩
   subst e
   show[(8:Int)]++(F7 a++[])=_
   rw[List.append_nil];rfl
  rw[d0R bs p h6 h7 h8]
  exact fun q hq=>⟨fun x hx=>by cases hx;exact⟨by simp only;omega,by simp only;omega,by simp⟩,fun a q h=>by cases h⟩
 ·rintro k t l1 l2 ⟨⟨h1,h2⟩,rfl⟩ ⟨h3,h4⟩
  refine⟨trivial, ?_⟩
  obtain⟨y,rfl⟩:∃y,l1=[y]:=by
   match l1,h1 with
   | [y],_=>exact⟨y,rfl⟩
   | [],h=>simp at h
   |a::b::c,h=>simp only[List.length_cons]at h;omega
  rw[h4,h3];rfl
theorem Gd.ro:Gd bs (b5o bs) fun r l=>True∧l=roB r:=by
 unfold b5o
 refine(Gd.text hb 65536).bind (Rf:=fun s r l=>r.name=s∧roB r=X1 s++l) (fun s l _=> ?_) fun s r l1 l2 ⟨_,e⟩ ⟨_,e2⟩=>⟨trivial,by rw[e2,e]⟩
 refine(Gd.nums hb 32).bind (Rf:=fun a r l=>r.name=s∧roB r=X1 s++(a4E a++l)) (fun a l _=> ?_) fun a r l1 l2 ⟨_,e⟩ ⟨h,e2⟩=>⟨h,by rw[e2,e]⟩
 refine(Gd.nums hb 8).bind (Rf:=fun b r l=>r.name=s∧roB r=X1 s++(a4E a++(a4E b++l))) (fun b l _=> ?_) fun b r l1 l2 ⟨_,e⟩ ⟨h,e2⟩=>⟨h,by rw[e2,e]⟩
 refine(Gd.num hb).bind (Rf:=fun x r l=>r.name=s∧roB r=X1 s++(a4E a++(a4E b++(F7 x++l)))) (fun x l _=> ?_) fun x r l1 l2 ⟨_,e⟩ ⟨h,e2⟩=>⟨h,by rw[e2,e]⟩
 refine(Gd.num hb).bind (Rf:=fun y r l=>r.name=s∧roB r=X1 s++(a4E a++(a4E b++(F7 x++(F7 y++l))))) (fun y l _=> ?_) fun y r l1 l2 ⟨_,e⟩ ⟨h,e2⟩=>⟨h,by rw[e2,e]⟩
 refine(Gd.count hb 65536).bind (Rf:=fun n r l=>∃c:List Int,((c.length:Int)=n∧H8 c)∧r=(⟨s,a,b,x,y,c⟩:Ro)∧l=c) (fun n l ⟨h,_⟩=>(Gd.oct hb h.1).map fun c l ⟨h,e⟩=>⟨c,h,rfl,e⟩) ?_
 rintro n r l1 l2 ⟨_,rfl⟩ ⟨c,⟨h1,h2⟩,rfl,rfl⟩
 refine⟨rfl, ?_⟩
 unfold roB
 simp only
 unfold X1
 rw[b5E,a9w h2,h1]
theorem Gd.mod:Gd bs (a9r bs) fun m l=>True∧l=A8 m:=by
 unfold a9r
 have gend:∀m:Mo,Gd bs (b9f bs m) fun b l=>b=m∧l=[]:=fun m p hp=>by
  unfold b9f
  refine⟨fun x hx=> ?_,fun a q ha=> ?_⟩
  ·split at hx
   ·cases hx;exact⟨by simp only;omega,by simp only;omega,by simp⟩
   ·cases hx
  ·split at ha
   ·cases ha
   ·cases ha;exact⟨Nat.le_refl _,hp,[],⟨rfl,rfl⟩,rfl⟩
 refine(Gd.count hb 256).bind (Rf:=fun n m l=>m.types.length=n.toNat∧F7 n++l=F7 n++l∧A8 m=F7 m.types.length++l) (fun n l hn=> ?_) fun n m l1 l2 ⟨h0,e⟩ ⟨h,_,e2⟩=>⟨trivial,by rw[e2,e,h];congr 2;omega⟩
 refine(Gd.rep (Gd.one hb) n.toNat).bind (Rf:=fun ts m l=>m.types=ts∧A8 m=F7 m.types.length++(ts.flatMap tyB++l)) (fun ts l _=> ?_) fun ts m l1 l2 ⟨h1,_,e⟩ ⟨h,e2⟩=>⟨by rw[h,h1],rfl,by rw[e2,e]⟩
 refine(Gd.count hb 32768).bind (Rf:=fun n m l=>m.types=ts∧m.texts.length=n.toNat∧A8 m=F7 m.types.length++(ts.flatMap tyB++(F7 m.texts.length++l))) (fun n l _=> ?_) fun n m l1 l2 ⟨h0,e⟩ ⟨h,h2,e2⟩=>⟨h,by rw[e2,e,h2];congr 4;omega⟩
 refine(Gd.rep (Gd.text hb 65536) n.toNat).bind (Rf:=fun xs m l=>m.types=ts∧m.texts=xs∧A8 m=F7 m.types.length++(ts.flatMap tyB++(F7 m.texts.length++(xs.flatMap X1++l)))) (fun xs l _=> ?_) fun xs m l1 l2 ⟨h1,_,e⟩ ⟨h,h2,e2⟩=>⟨h,by rw[h2,h1],by rw[e2,e]⟩
 refine(Gd.count hb 256).bind (Rf:=fun n m l=>m.types=ts∧m.texts=xs∧m.funcs.length=n.toNat∧A8 m=F7 m.types.length++(ts.flatMap tyB++(F7 m.texts.length++(xs.flatMap X1++(F7 m.funcs.length++l))))) (fun n l _=> ?_) fun n m l1 l2 ⟨h0,e⟩ ⟨h,h2,h3,e2⟩=>⟨h,h2,by rw[e2,e,h3];congr 6;omega⟩
 refine(Gd.rep (Gd.ro hb) n.toNat).bind (Rf:=fun fs m l=>m=(⟨ts,xs,fs⟩:Mo)∧l=[]) (fun fs l _=>gend _) fun fs m l1 l2 ⟨h1,_,e⟩ ⟨h,e2⟩=> ?_
 subst h
 subst e2
 subst e
 refine⟨rfl,rfl,h1, ?_⟩
 rw[List.append_nil]
 rfl
end
theorem d0O{p q:Nat}{m:Mo}(h:a9r bs p= .ok (m,q)):bs.length≤q:=by
 unfold a9r at h
 obtain⟨n1,q1,h1,h⟩:=Ps.of_bind h
 obtain⟨ts,q2,h2,h⟩:=Ps.of_bind h
 obtain⟨n3,q3,h3,h⟩:=Ps.of_bind h
 obtain⟨xs,q4,h4,h⟩:=Ps.of_bind h
 obtain⟨n5,q5,h5,h⟩:=Ps.of_bind h
 obtain⟨fs,q6,h6,h⟩:=Ps.of_bind h
 unfold b9f at h
 split at h
 ·cases h
 ·cases h;omega
end
end
section
theorem c6h:∀ {cs bs:List Int} {i:Nat},a3L bs cs i=none→bs=cs++bs.drop cs.length
 | [],bs,i,h=>rfl
 |c::cs,[],i,h=>by simp[a3L]at h
 |c::cs,b::bs,i,h=>by
  rw[a3L]at h
  split at h
  ·cases h
  ·rename_i hbc
   obtain rfl:b=c:=Classical.not_not.1 hbc
   have:=c6h h
   rw[List.length_cons,List.drop_succ_cons,List.cons_append, ←this]
theorem c3T:∀ {cs bs:List Int} {i:Nat} {a e:Int},a3L bs cs i=some (a,e)→(i:Int)≤a∧a≤(i:Int)+bs.length∧e≠0∧(e=10→a=(i:Int)+bs.length∧bs.length<cs.length)
 | [],bs,i,a,e,h=>by cases bs<;>simp[a3L]at h
 |c::cs,[],i,a,e,h=>by
  simp only[a3L,Option.some.injEq,Prod.mk.injEq]at h
  obtain⟨rfl,rfl⟩:=h
  exact⟨by omega,by simp,by omega,fun _=>⟨by simp,by simp⟩⟩
 |c::cs,b::bs,i,a,e,h=>by
  rw[a3L]at h
  simp only[List.length_cons]
  split at h
  ·simp only[Option.some.injEq,Prod.mk.injEq]at h
   obtain⟨rfl,rfl⟩:=h
   exact⟨by omega,by omega,by omega,fun h=>by omega⟩
  ·have:=c3T h
   omega
theorem d3j{bs:List Int}(he:(X4 bs).2.2≠0):0≤(X4 bs).2.1∧(X4 bs).2.1≤(bs.length:Int):=by
 unfold X4 at he ⊢
 split
 ·rename_i a e h
  have:=c3T h
  simp only
  omega
 ·rename_i h
  rw[h]at he
  have hl:=c0r h
  unfold c4O at he ⊢
  simp only at he ⊢
  split
  ·simp
  ·rename_i h1
   rw[if_neg h1]at he
   split
   ·simp only;omega
   ·rename_i h2
    rw[if_neg h2]at he
    split
    ·simp only;omega
    ·rename_i h3;rw[if_neg h3]at he;simp at he
theorem c8u{bs:List Int}(hb:H8 bs)(he:(X4 bs).2.2=0):∃body:List Int,H8 body∧bs=E5 body.length body (M1 body)∧(X4 bs).1=((8+body.length:Nat):Int):=by
 unfold X4 at he ⊢
 split at he
 ·rename_i a e h
  have:=c3T h
  simp only at he
  omega
 ·rename_i hm
  have hpre:=c6h hm
  have hl:=c0r hm
  unfold c4O at he ⊢
  split at he
  ·simp at he
  rename_i h1
  rw[if_neg h1]
  split at he
  ·simp at he
  rename_i h2
  rw[if_neg h2]
  split at he
  ·simp at he
  rename_i h3
  rw[if_neg h3]
  have hN:∃N,N=leN ((bs.drop 4).take 4):=⟨_,rfl⟩
  obtain⟨N,hN⟩:=hN
  rw[←hN]at h1 h2 h3 ⊢
  have hlen:bs.length=N+12:=by omega
  have b4:H8 ((bs.drop 4).take 4):=fun b h=>hb b (List.mem_of_mem_drop (List.mem_of_mem_take h))
  have l4:((bs.drop 4).take 4).length=4:=by rw[List.length_take,List.length_drop];omega
  have hN32:=b1d b4
  rw[←hN,l4]at hN32
  have bb:H8 ((bs.drop 8).take N):=fun b h=>hb b (List.mem_of_mem_drop (List.mem_of_mem_take h))
  have lb:((bs.drop 8).take N).length=N:=by rw[List.length_take,List.length_drop];omega
  have be:H8 (bs.drop (8+N)):=fun b h=>hb b (List.mem_of_mem_drop h)
  have le:(bs.drop (8+N)).length=4:=by rw[List.length_drop];omega
  have e1:(bs.drop 4).take 4=B9 (N:Int) 4:=by
   refine b9r b4 (a6x _ _) (by rw[l4,s8]) ?_
   have:=a5e 4 (N:Int)
   omega
  have h3:(leN ((bs.drop (8+N)).take 4):Int)=M1 ((bs.drop 8).take N):=Classical.not_not.1 h3
  rw[List.take_of_length_le (by omega)]at h3
  have e2:bs.drop (8+N)=B9 (M1 ((bs.drop 8).take N)) 4:=by
   refine b9r be (a6x _ _) (by rw[le,s8]) ?_
   have:=a5e 4 (M1 ((bs.drop 8).take N))
   have:=a8y ((bs.drop 8).take N)
   omega
  refine⟨(bs.drop 8).take N,bb, ?_,by rw[lb]⟩
  rw[lb]
  unfold E5
  rw[←e1, ←e2]
  have a1:bs.drop 4=(bs.drop 4).take 4++bs.drop 8:=by
   have:=(List.take_append_drop 4 (bs.drop 4)).symm
   rwa [List.drop_drop]at this
  have a2:bs.drop 8=(bs.drop 8).take N++bs.drop (8+N):=by
   have:=(List.take_append_drop N (bs.drop 8)).symm
   rwa [List.drop_drop]at this
  rw[←a2, ←a1]
  exact hpre
theorem c6F{bs:List Int}(hb:H8 bs)(hl:bs.length≤2097152):
  ((O5 bs).2.2≠0→(O5 bs).1=mo0∧0≤(O5 bs).2.1∧(O5 bs).2.1≤(bs.length:Int))∧
  ((O5 bs).2.2=0→(O5 bs).2.1=0∧a3h (O5 bs).1=(bs,0)∧(O5 bs).1.Fits):=by
 have e0:O5 bs=if(X4 bs).2.2≠0 then(mo0,(X4 bs).2.1,(X4 bs).2.2)
   else match a9r (bs.take (X4 bs).1.toNat) 8 with
    | .error x=>(mo0,x.1,x.2)
    | .ok (m,_)=>if C7 m≠0 then(mo0,0,C7 m) else(m,0,0):=by
  unfold O5
  rw[if_neg (by omega)]<;>rfl
 rw[e0]
 by_cases he:(X4 bs).2.2=0
 ·rw[if_neg (by simp[he])]
  obtain⟨body,bb,hw,ho⟩:=c8u hb he
  have hlen:bs.length=body.length+12:=by
   have:=congrArg List.length hw
   rwa [X7]at this
  rw[ho,Int.toNat_natCast]
  have hbt:H8 (bs.take (8+body.length)):=fun b h=>hb b (List.mem_of_mem_take h)
  have hlt:(bs.take (8+body.length)).length=8+body.length:=by rw[List.length_take];omega
  have hdr:(bs.take (8+body.length)).drop 8=body:=by
   rw[List.drop_take,Nat.add_sub_cancel_left,hw,a8A,List.take_left]
  have hg:=Gd.mod hbt 8 (by omega)
  cases hm:a9r (bs.take (8+body.length)) 8 with
  |error x=>
   have:=hg.1 x hm
   simp only
   refine⟨fun _=>⟨by trivial,by omega,by omega⟩,fun h=>(this.2.2 h).elim⟩
  |ok r=>
   obtain⟨m,q⟩:=r
   obtain⟨_,h2,l,⟨_,rfl⟩,h4⟩:=hg.2 m q hm
   have hq:=d0O hm
   rw[List.drop_of_length_le hq,List.append_nil,hdr]at h4
   simp only
   by_cases hs:C7 m=0
   ·rw[if_neg (by simp[hs])]
    refine⟨fun h=>(h rfl).elim,fun _=>⟨by trivial, ?_,c3i hbt hm⟩⟩
    simp only
    unfold a3h
    rw[if_neg (by simp[hs]),if_neg (by rw[←h4];omega), ←h4]
    exact congrArg (·,0) hw.symm
   ·rw[if_pos hs]
    exact⟨fun _=>⟨by trivial,by simp,by simp⟩,fun h=>(hs h).elim⟩
 ·rw[if_pos he]
  exact⟨fun _=>⟨by trivial,d3j he⟩,fun h=>(he h).elim⟩
end
end Go.Proofs.Ytchnpgddpaonhaa.d
end
