/-
  ImageOnceSaid: part Nbf of its proof.
-/
import Derived.Test.YtchnpgddpaonhaaNbe
import Derived.Test.YtchnpgddpaonhaaNbd
import Derived.Test.YtchnpgddpaonhaaNaz
import Derived.Test.YtchnpgddpaonhaaNav
import Derived.Test.YtchnpgddpaonhaaRows
import Derived.Test.YtchnpgddpaonhaaNaq
import Derived.KernelRfl
set_option linter.unusedVariables false
set_option linter.unusedSimpArgs false
set_option maxRecDepth 100000
section
open Go.Proofs Go Go.Am Go.Op
namespace Go.Am
section
variable{P:Program}{E:l9}{w0:o0}
theorem c8r{fn:Func}{Q:D→b7→Prop}{c:Code}{T:List D}{S:b7}{n:Nat}(L:List Nat)(hn:T.length=n)(h:a0O P E w0 fn Q c (m9 n L (a2k T L)) S):a0O P E w0 fn Q c T S:=fun R H avs F hC hT=>h R H avs F hC (by rw[←hn];exact c2y hT L)
def d3A(P:Program)(E:l9)(w0:o0)(fn:Func)(Q:D→b7→Prop)(n:Nat)(L:List Nat)(y:Code)(ex:r0)(T':List D)(S':b7):Prop:=match ex with
 | .normal=>a0O P E w0 fn Q y (m9 n L (a2k T' L)) S'
 | .ret=>a3F P S' T' fn.results.toList fun vs=>d8 E Q (b9s vs) S'
 | .exit _=>False
theorem a8M{fn:Func}{Q:D→b7→Prop}{x y:Code}{T:List D}{S:b7}{n:Nat}(L:List Nat)(hn:T.length=n)(h:j9 P E w0 x T S (d3A P E w0 fn Q n L y)):a0O P E w0 fn Q (.seq x y) T S:=
 c8c (h.mono fun ex T' S' hl hq=>by
  cases ex with
  |normal=>exact c8r L (by rw[hl,hn]) hq
  |ret=>exact hq
  |exit id=>exact hq)
def wkQ(E:l9)(Q:r0→List D→b7→Prop)(ex:r0)(T:List D)(S:b7):Prop:=∃T' S',(∀R H avs,C8 E R S H→A2 E R T avs→C8 E R S' H∧A2 E R T' avs)∧T'.length=T.length∧Q ex T' S'
theorem j9.post{c:Code}{T:List D}{S:b7}{Q:r0→List D→b7→Prop}(h:j9 P E w0 c T S (wkQ E Q)):j9 P E w0 c T S Q:=fun R H avs F hC hT=>
 (h R H avs F hC hT).mono fun ex T' H' ⟨F',R',S',T1,a,b,c,d,T2,S2,w,l,e⟩=>⟨F',R',S2,T2,a,(w _ _ _ b c).1,(w _ _ _ b c).2,by rw[l,d],e⟩
theorem WkL.length:∀ {ds es:List D},WkL ds es→ds.length=es.length
 | [],[],_=>rfl
 |_::_,_::_,w=>by simp only[List.length_cons,WkL.length w.2]
 | [],_::_,w=>w.elim
 |_::_,[],w=>w.elim
theorem C8.wk{R:Fz}{S:b7}{H:AHeap}{k sz:Nat}{c c':List D}{a:List AV}(w:WkL c c')(h:C8 E R (S.set k ⟨sz,[c],a⟩) H):C8 E R (S.set k ⟨sz,[c'],a⟩) H:=by
 refine⟨h.frozen,fun j o e=> ?_⟩
 by_cases hj:j=k
 ·subst hj
  rw[b7.set_same]at e
  cases e
  obtain⟨h1,h2,h3,h4,h5⟩:=h.own j _ (b7.set_same _ _ _)
  refine⟨h1,h2,h3,fun row hr=> ?_, ?_⟩
  ·simp only[List.mem_singleton]at hr
   subst hr
   rw[←w.length]
   exact h4 c (by simp)
  ·simp only[List.flatten_cons,List.flatten_nil,List.append_nil]at h5 ⊢
   exact w.ok h5
 ·rw[b7.set_ne _ _ _ hj]at e
  exact h.own j o (by rw[b7.set_ne _ _ _ hj];exact e)
end
end Go.Am
namespace Go.Proofs.Ytchnpgddpaonhaa.d
def mo0:Mo:=⟨[],[],[]⟩
def a5L(bs:List Int):Mo×Int×Int:=
 if bs.length>2097152 then(mo0,0,3)
 else if(a0C bs).2.2≠0 then(mo0,(a0C bs).2.1,(a0C bs).2.2)
 else match b1F (bs.take (a0C bs).1.toNat) 8 with
  | .error x=>(mo0,x.1,x.2)
  | .ok (m,_)=>if D6 m≠0 then(mo0,0,D6 m) else(m,0,0)
def a6N(r:Mo×Int×Int):D:= .tup [moD r.1, .int .i64 r.2.1, .int .i64 r.2.2]
noncomputable abbrev cL:Code:=Try.f15.body.getD .skip
noncomputable abbrev cC:Code:=l8 [1] (Try.f40.body.getD .skip)
section
variable{E:l9}{w0:o0}
def c3F(E:l9)(Q:D→b7→Prop)(p2 p3 p4:D)(S:b7):Prop:=a9 (i9 S 3 p2) fun m=>a9 (c9 S p3) fun a=>a9 (c9 S p4) fun e=>d8 E Q (.tup [m,a,e]) S
variable{Q:D→b7→Prop}{a0 p2 p3 p4 v5:D}{S:b7}
theorem d1w(h:o4 S [.nilSlc, .nilSlc, .nilSlc] fun v0 S1=>o4 S1 [.int .i64 0] fun v2 S3=>o4 S3 [.int .i64 0] fun v4 S5=>a0O Try.prog E w0 Try.f15 Q (l8 [1] cL) (m9 38 [0,2,3,4] [a0,v0,v2,v4]) S5):
  a0O Try.prog E w0 Try.f15 Q cL ([a0]++List.replicate 37 b8) S:=by
 show a0O _ _ _ _ _ (.seq (l8 [0] cL) (l8 [1] cL)) _ _
 exact a8M [0,2,3,4] (n:=38) rfl (k9 [] [] [] o7 (by kernel_rfl) h)
theorem d0P(h:a9 (r6 a0) fun v9=>a9 (d9 .gtr v9 (.int .i64 2097152)) fun v10=>j0 v10 (a9 (i9 S 3 p2) fun v11=>f0 S 3 p2 v11 fun _ S1=>f0 S1 1 p3 (.int .i64 0) fun _ S2=>f0 S2 1 p4 (.int .i64 3) fun _ S3=>c3F E Q p2 p3 p4 S3)
   (a0O Try.prog E w0 Try.f15 Q (l8 [1,1] cL) (m9 38 [0,2,3,4] [a0,p2,p3,p4]) S)):
  a0O Try.prog E w0 Try.f15 Q (l8 [1] cL) (m9 38 [0,2,3,4] [a0,p2,p3,p4]) S:=by
 show a0O _ _ _ _ _ (.seq (l8 [1,0] cL) (l8 [1,1] cL)) _ _
 exact a8M [0,2,3,4] (n:=38) rfl (k9 [] [] [] o7 (by kernel_rfl) h)
theorem d0T(h:n9 Try.prog E w0 a4i [a0] S fun v14 S1=>a9 (o6 v14 0) fun v15=>a9 (o6 v14 1) fun v16=>a9 (o6 v14 2) fun v17=>f0 S1 1 p3 v16 fun _ S2=>f0 S2 1 p4 v17 fun _ S3=>
   a0O Try.prog E w0 Try.f15 Q (l8 [1,1,1] cL) (m9 38 [0,2,3,4,5] [a0,p2,p3,p4,v15]) S3):
  a0O Try.prog E w0 Try.f15 Q (l8 [1,1] cL) (m9 38 [0,2,3,4] [a0,p2,p3,p4]) S:=by
 show a0O _ _ _ _ _ (.seq (l8 [1,1,0] cL) (l8 [1,1,1] cL)) _ _
 exact a8M [0,2,3,4,5] (n:=38) rfl (k9 [] [] [] o7 (by kernel_rfl) h)
theorem d0G(h:a9 (c9 S p4) fun v18=>a9 (d9 .neq v18 (.int .i64 0)) fun v19=>j0 v19
   (a9 (i9 S 3 p2) fun v20=>a9 (c9 S p3) fun v21=>a9 (c9 S p4) fun v22=>f0 S 3 p2 v20 fun _ S1=>r9 p3 S S1∧r9 p4 S S1∧f0 S1 1 p3 v21 fun _ S2=>r9 p4 S S2∧f0 S2 1 p4 v22 fun _ S3=>c3F E Q p2 p3 p4 S3)
   (a0O Try.prog E w0 Try.f15 Q (l8 [1,1,1,1] cL) (m9 38 [0,2,3,4,5] [a0,p2,p3,p4,v5]) S)):
  a0O Try.prog E w0 Try.f15 Q (l8 [1,1,1] cL) (m9 38 [0,2,3,4,5] [a0,p2,p3,p4,v5]) S:=by
 show a0O _ _ _ _ _ (.seq (l8 [1,1,1,0] cL) (l8 [1,1,1,1] cL)) _ _
 exact a8M [0,2,3,4,5] (n:=38) rfl (k9 [] [] [] o7 (by kernel_rfl) h)
theorem d1l{K:List D→b7→Prop}(h:a9 (V0 1 a0 none (some v5) none) fun v26=>a9 (E0 (u6 [.nilSlc, .int .i64 0] [(0,1,v26),(1,1, .int .i64 8)])) fun v27=>a9 (r4 v27) fun cs=>o4 S cs fun v28 S1=>K (m9 38 [2,3,4,6] [p2,p3,p4,v28]) S1):
  j9 Try.prog E w0 (l8 [1,1,1,1,1,0] cL) (m9 38 [0,2,3,4,5] [a0,p2,p3,p4,v5]) S fun ex T' S'=>match ex with| .normal=>K (m9 38 [2,3,4,6] (a2k T' [2,3,4,6])) S'|_=>False:=
 k9 [] [] [] o7 (by kernel_rfl) h
theorem d0C{p6:D}{K:List D→b7→Prop}(h:a9 (i9 S 3 p2) fun v31=>n9 Try.prog E (b0E w0.w) P8 [v31] S fun v32 S1=>a9 (d9 .neq v32 (.int .i64 0)) fun v34=>j0 v34
   (f0 S1 3 p2 (.agg [.nilSlc, .nilSlc, .nilSlc]) fun _ S2=>f0 S2 1 p3 (.int .i64 0) fun _ S3=>f0 S3 1 p4 v32 fun _ S4=>K (m9 38 [2,3,4] [p2,p3,p4]) S4)
   (a9 (i9 S1 3 p2) fun v37=>f0 S1 3 p2 v37 fun _ S2=>f0 S2 1 p3 (.int .i64 0) fun _ S3=>f0 S3 1 p4 (.int .i64 0) fun _ S4=>K (m9 38 [2,3,4] [p2,p3,p4]) S4)):
  j9 Try.prog E (b0E w0.w) (l8 [1,1,1,1,1,1,1] cL) (m9 38 [2,3,4,6] [p2,p3,p4,p6]) S fun ex T' S'=>b6G (K (m9 38 [2,3,4] (a2k T' [2,3,4]))) ex S':=
 k9 [] [] [] o7 (by kernel_rfl) h
theorem c7J{d:D}{w1:o0}{K:b7→Prop}(h:a9 (b1n .neq (c9l true d .nilIfc)) fun v8=>j0 v8
   (a9 (asD a6S (.agg [.int .i64 0, .int .i64 0]) true d) fun v11=>a9 (o6 v11 0) fun v12=>a9 (o6 v11 1) fun v13=>o4 S [.int .i64 0, .int .i64 0] fun v4 S1=>f0 S1 2 v4 v12 fun _ S2=>
    a9 (unD .not v13) fun v15=>j0 v15 (a0M E w1 d S2)
     (a9 (m7 0 v4) fun v18=>a9 (c9 S2 v18) fun v19=>a9 (m7 1 v4) fun v20=>a9 (c9 S2 v20) fun v21=>f0 S2 3 p2 (.agg [.nilSlc, .nilSlc, .nilSlc]) fun _ S3=>r9 v18 S2 S3∧r9 v20 S2 S3∧
      f0 S3 1 p3 v19 fun _ S4=>r9 v20 S2 S4∧f0 S4 1 p4 v21 fun _ S5=>K S5))
   (K S)):
  j9 Try.prog E w1 cC ((([p2,p3,p4]++List.replicate (Try.f40.ntmps - [p2,p3,p4].length) b8).set 6 d).set 3 d) S fun ex _ S'=>b6G K ex S':=
 k9 [] [] [] o7 (by kernel_rfl) h
noncomputable def d0g:Array Oper:=match l8 [1,1,1,1,1,1,0] cL with
 | .region _ ops _=>ops
 |_=> #[]
theorem d1k{w1:o0}{p6:D}{K:List D→b7→Prop}(h:n9 Try.prog E w1 a0r [p6] S fun v30 S1=>f0 S1 3 p2 v30 fun _ S2=>K (((m9 38 [2,3,4,6] [p2,p3,p4,p6]).set 29 p6).set 30 v30) S2):
  b7C Try.prog (n9 Try.prog E w1) (a0M E w1) d0g d0g.toList (m9 38 [2,3,4,6] [p2,p3,p4,p6]) S K:=Eq.mp (by kernel_rfl) h
theorem c8Z{XD:D→b7→Prop}(h:j9 Try.prog E (b0E w0.w) (l8 [1,1,1,1,1,0] cL) (m9 38 [0,2,3,4,5] [a0,p2,p3,p4,v5]) S (d1Q Try.prog E w0 Try.f15 Try.f40 cC 6 3 Q [p2,p3,p4] XD d0g (l8 [1,1,1,1,1,1,1] cL))):
  a0O Try.prog E w0 Try.f15 Q (l8 [1,1,1,1] cL) (m9 38 [0,2,3,4,5] [a0,p2,p3,p4,v5]) S:=
 c5a (fng:=Try.f40) (c2:=cC) (x:=6) (y:=3) (d:=23) (ks:=[2,3,4]) (caps:= #[.tmp 2, .tmp 3, .tmp 4]) (ops8:=d0g) Try.func40 rfl rfl (by decide)
  (by intro r hr;simp[Try.f15]at hr;rcases hr with rfl|rfl|rfl<;>simp) (by decide) (by decide)
  (by decide) (by rw[o8];decide) XD h
theorem d4e{rows:List (List D)}{sz h:Nat}(hh:h≤rows.length):V0 sz (.lst rows sz) none (some (.int .i64 (h:Int))) none=some (b7t (rows.take h) (rows.drop h) sz):=by
 have h1:D7 (.int .i64 (h:Int)) rows.length=some h:=by
  simp only[D7]
  rw[if_pos ⟨by omega,by omega⟩,Int.toNat_natCast]
 simp only[V0,M0,c3c,b1k,b8h,if_true,Option.bind_some,h1,Option.map_some]
 rw[List.take_of_length_le (l:=rows.drop h) (by simp)]
 simp
structure a6n (S0:b7) (k2 k3 k4:Nat) (c:List D) (a e:Int) (S:b7):Prop where
 n2:S0 k2=none
 n3:S0 k3=none
 n4:S0 k4=none
 h23:k2≠k3
 h24:k2≠k4
 h34:k3≠k4
 c2:w5 S k2 3 c
 c3:w5 S k3 1 [.int .i64 a]
 c4:w5 S k4 1 [.int .i64 e]
 le:S0.le S
section
variable{S0 S':b7}{k2 k3 k4:Nat}{c c':List D}{a a' e e':Int}
theorem a6n.up(h:a6n S0 k2 k3 k4 c a e S)(hl:S.le S'):a6n S0 k2 k3 k4 c a e S':=⟨h.n2,h.n3,h.n4,h.h23,h.h24,h.h34,h.c2.le hl,h.c3.le hl,h.c4.le hl,b7.le_trans h.le hl⟩
theorem a6n.keep(h:a6n S0 k2 k3 k4 c a e S){k:Nat}(hk:S k=none)(hl:O8 [k] S S'):a6n S0 k2 k3 k4 c a e S':=by
 have n2:k2≠k:=h.c2.none hk
 have n3:k3≠k:=h.c3.none hk
 have n4:k4≠k:=h.c4.none hk
 exact⟨h.n2,h.n3,h.n4,h.h23,h.h24,h.h34,hl.cel (by simpa using n2) h.c2,hl.cel (by simpa using n3) h.c3,hl.cel (by simpa using n4) h.c4,hl.le h.le fun j hj=>by simp at hj;subst hj;exact b7.none_of h.le hk⟩
theorem a6n.l0(h:a6n S0 k2 k3 k4 c a e S){k:Nat}(hk:S0 k=none)(o:L2):S0.le (S.set k o):=fun j x hx=>by
 rw[b7.set_ne _ _ _ fun e=>by rw[e,hk]at hx;cases hx];exact h.le _ _ hx
theorem a6n.st2(h:a6n S0 k2 k3 k4 c a e S)(hc:c.length=3){v:D}(hv:r4 v=some c')(hc':c'.length=3){K:D→b7→Prop}(hK:∀S',a6n S0 k2 k3 k4 c' a e S'→(∀j,j≠k2→S' j=S j)→K b8 S'):f0 S 3 (.ptr k2 0) v K:=
 h.c2.st hv ⟨hc',by decide,by omega⟩ fun x=>hK _ (by
  have e1:o5 c 0 c'=c':=by
   match c,c',hc,hc' with
   | [a,b,c],[d,e,f],_,_=>rfl
  rw[e1]
  exact⟨h.n2,h.n3,h.n4,h.h23,h.h24,h.h34,w5.new,w5.set_ne h.c3 h.h23.symm,w5.set_ne h.c4 h.h24.symm,h.l0 h.n2 _⟩) fun j hj=>b7.set_ne _ _ _ hj
theorem a6n.st3(h:a6n S0 k2 k3 k4 c a e S){K:D→b7→Prop}(hK:∀S',a6n S0 k2 k3 k4 c a' e S'→(∀j,j≠k3→S' j=S j)→K b8 S'):f0 S 1 (.ptr k3 0) (.int .i64 a') K:=
 h.c3.st (clI _ _) ⟨rfl,by decide,by simp⟩ fun x=>hK _ ⟨h.n2,h.n3,h.n4,h.h23,h.h24,h.h34,w5.set_ne h.c2 h.h23,w5.new,w5.set_ne h.c4 h.h34.symm,h.l0 h.n3 _⟩ fun j hj=>b7.set_ne _ _ _ hj
theorem a6n.st4(h:a6n S0 k2 k3 k4 c a e S){K:D→b7→Prop}(hK:∀S',a6n S0 k2 k3 k4 c a e' S'→K b8 S'):f0 S 1 (.ptr k4 0) (.int .i64 e') K:=
 h.c4.st (clI _ _) ⟨rfl,by decide,by simp⟩ fun x=>hK _ ⟨h.n2,h.n3,h.n4,h.h23,h.h24,h.h34,w5.set_ne h.c2 h.h24,w5.set_ne h.c3 h.h34,w5.new,h.l0 h.n4 _⟩
theorem a6n.fin(h:a6n S0 k2 k3 k4 c a e S)(hc:c.length=3){m:Mo}(w:Wk (.agg c) (moD m)){r:D}(hr:a6N (m,a,e)=r):c3F E (fun d S'=>d=r∧S'=S0) (.ptr k2 0) (.ptr k3 0) (.ptr k4 0) S:=by
 unfold c3F
 rw[h.c2.all (n:=3) (by decide) hc.symm,oD,h.c3.ld,List.getElem?_cons_zero,oD,h.c4.ld,List.getElem?_cons_zero,oD]
 subst hr
 exact d8.weak (Wk.tup (es:=[moD m, .int .i64 a, .int .i64 e]) ⟨w,Wk.refl _,Wk.refl _,trivial⟩) (d8.less h.le (d8.here ⟨rfl,rfl⟩))
end
theorem c2P:Wk (.agg [.nilSlc, .nilSlc, .nilSlc]) (moD mo0):=Wk.agg ⟨Wk.nil _,Wk.nil _,Wk.nil _,trivial⟩
theorem c1F{p2 p3 p4:D}{T:List D}(hT:T.getD 2 b8=p2∧T.getD 3 b8=p3∧T.getD 4 b8=p4){S:b7}(h:c3F E Q p2 p3 p4 S):b9U Try.prog E w0 Try.f15 Try.f40 cC 6 3 Q [p2,p3,p4] .nilIfc T S:=by
 obtain⟨rfl,rfl,rfl⟩:=hT
 refine(c7J (w1:=b0E w0.w) (d:= .nilIfc) (K:=fun S'=>c3F E Q (T.getD 2 b8) (T.getD 3 b8) (T.getD 4 b8) S') (by
  have e0:b1n .neq (c9l true .nilIfc .nilIfc)=some (.bool false):=rfl
  rw[e0,oD,cdF]
  exact h)).mono fun ex _ S' _ hq=> ?_
 cases ex with
 |normal=>exact hq
 |ret=>exact hq
 |exit id=>exact hq
theorem c4S{T:List D}{S0:b7}{k2 k3 k4:Nat}(hT:T.getD 2 b8= .ptr k2 0∧T.getD 3 b8= .ptr k3 0∧T.getD 4 b8= .ptr k4 0){c:List D}(hc:c.length=3){a e:Int}(h:a6n S0 k2 k3 k4 c a e S)(x:Flt):
  b9U Try.prog E w0 Try.f15 Try.f40 cC 6 3 (fun d S'=>d=a6N (mo0,x.1,x.2)∧S'=S0) [.ptr k2 0, .ptr k3 0, .ptr k4 0] (b2U x) T S:=by
 refine(c7J (w1:=b0E w0.w) (K:=fun S'=>c3F E (fun d S'=>d=a6N (mo0,x.1,x.2)∧S'=S0) (.ptr k2 0) (.ptr k3 0) (.ptr k4 0) S') ?_).mono fun ex _ S' _ hq=> ?_
 ·have e0:b1n .neq (c9l true (b2U x) .nilIfc)=some (.bool true):=rfl
  have e1:asD a6S (.agg [.int .i64 0, .int .i64 0]) true (b2U x)=some (.tup [.agg [.int .i64 x.1, .int .i64 x.2], .bool true]):=by
   simp[b2U,asD]
  rw[e0,oD,cdT,e1,oD,exD,List.getElem?_cons_zero,oD,exD,List.getElem?_cons_succ,List.getElem?_cons_zero,oD]
  intro k5 a5 n5
  have h5:=h.up (b7.le_set (o:=⟨2,[[.int .i64 0, .int .i64 0]],a5⟩) (b7.le_refl S) n5)
  have d2:k2≠k5:=h.c2.none n5
  have d3:k3≠k5:=h.c3.none n5
  have d4:k4≠k5:=h.c4.none n5
  have c5:w5 (S.set k5 ⟨2,[[.int .i64 0, .int .i64 0]],a5⟩) k5 2 [.int .i64 0, .int .i64 0]:=w5.new
  have n0:S0 k5=none:=b7.none_of h.le n5
  refine c5.st (ds:=[.int .i64 x.1, .int .i64 x.2]) rfl ⟨rfl,by decide,by simp⟩ fun a6=> ?_
  rw[b7.set_set]
  have h6:=h.up (b7.le_set (o:=⟨2,[[.int .i64 x.1, .int .i64 x.2]],a6⟩) (b7.le_refl S) n5)
  have c6:w5 (S.set k5 ⟨2,[[.int .i64 x.1, .int .i64 x.2]],a6⟩) k5 2 [.int .i64 x.1, .int .i64 x.2]:=w5.new
  have e2:unD .not (.bool true)=some (.bool false):=rfl
  have e3:o5 [.int .i64 0, .int .i64 0] 0 [.int .i64 x.1, .int .i64 x.2]=[.int .i64 x.1, .int .i64 x.2]:=rfl
  rw[e2,oD,cdF,e3]
  generalize S.set k5 ⟨2,[[.int .i64 x.1, .int .i64 x.2]],a6⟩=S6 at h6 c6 ⊢
  simp only[I4,oD,Nat.zero_add,Nat.add_zero,c6.ld,List.getElem?_cons_zero,List.getElem?_cons_succ]
  refine h6.st2 hc (v:= .agg [.nilSlc, .nilSlc, .nilSlc]) (c':=[.nilSlc, .nilSlc, .nilSlc]) rfl rfl fun S7 h7 e7=> ?_
  refine⟨e7 k5 d2.symm,e7 k5 d2.symm, ?_⟩
  refine h7.st3 (a':=x.1) fun S8 h8 e8=> ?_
  refine⟨(e8 k5 d3.symm).trans (e7 k5 d2.symm), ?_⟩
  refine h8.st4 (e':=x.2) fun S9 h9=> ?_
  exact h9.fin rfl c2P rfl
 ·obtain⟨e1,e2,e3⟩:=hT
  have:∀S',c3F E (fun d S'=>d=a6N (mo0,x.1,x.2)∧S'=S0) (.ptr k2 0) (.ptr k3 0) (.ptr k4 0) S'→c9W Try.prog E Try.f15 (fun d S'=>d=a6N (mo0,x.1,x.2)∧S'=S0) T .normal S':=fun S' h'=>by
   rw[←e1, ←e2, ←e3]at h'
   exact h'
  cases ex with
  |normal=>exact this _ hq
  |ret=>exact this _ hq
  |exit id=>exact hq
theorem c9B{bs:List Int}(he:(a0C bs).2.2=0):∃n:Nat,(a0C bs).1=(n:Int)∧8≤n∧n≤bs.length:=by
 unfold a0C at he ⊢
 split at he
 ·rename_i a e h
  exfalso
  have:∀ {cs bs:List Int} {i:Nat},a6Y bs cs i=some (a,e)→e≠0:=by
   intro cs
   induction cs with
   |nil=>intro bs i h;cases bs<;>simp[a6Y]at h
   |cons c cs ih=>
    intro bs i h
    cases bs with
    |nil=>simp only[a6Y,Option.some.injEq,Prod.mk.injEq]at h;omega
    |cons b bs=>
     rw[a6Y]at h
     split at h
     ·simp only[Option.some.injEq,Prod.mk.injEq]at h;omega
     ·exact ih h
  exact this h he
 ·unfold c8t at he ⊢
  split
  ·rename_i h1;rw[if_pos h1]at he;simp at he
  ·rename_i h1
   rw[if_neg h1]at he
   split
   ·rename_i h2;rw[if_pos h2]at he;simp at he
   ·rename_i h2
    rw[if_neg h2]at he
    split
    ·rename_i h3;rw[if_pos h3]at he;simp at he
    ·exact⟨_,rfl,by omega,by omega⟩
theorem c8w{bs:List Int}(hb:∀b∈bs,M3 b){n:Nat}(hn8:8≤n)(hnl:n≤bs.length)(hl:bs.length<2^30){S0 S3:b7}{k2 k3 k4:Nat}{a e:Int}(h3:a6n S0 k2 k3 k4 [.nilSlc, .nilSlc, .nilSlc] a e S3){r:Mo×Int×Int}
  (hr:(match b1F (bs.take n) 8 with
    | .error x=>(mo0,x.1,x.2)
    | .ok (m,_)=>if D6 m≠0 then(mo0,0,D6 m) else(m,0,0))=r):
  a0O Try.prog E w0 Try.f15 (fun d S'=>d=a6N r∧S'=S0) (l8 [1,1,1,1] cL) (m9 38 [0,2,3,4,5] [bD bs, .ptr k2 0, .ptr k3 0, .ptr k4 0, .int .i64 (n:Int)]) S3:=by
 have hbt:∀b∈bs.take n,M3 b:=fun b h=>hb b (List.mem_of_mem_take h)
 have hlt:(bs.take n).length=n:=by rw[List.length_take];omega
 refine c8Z (XD:=fun e S''=>∃x,b1F (bs.take n) 8= .error x∧e=b2U x∧S3.le S'') (j9.post ((d1l (K:=fun T' S'=>∃S'',(∀R H,C8 E R S' H→C8 E R S'' H)∧d1Q Try.prog E w0 Try.f15 Try.f40 cC 6 3 (fun d S'=>d=a6N r∧S'=S0) [.ptr k2 0, .ptr k3 0, .ptr k4 0] (fun e S''=>∃x,b1F (bs.take n) 8= .error x∧e=b2U x∧S3.le S'') d0g (l8 [1,1,1,1,1,1,1] cL) .normal T' S'') ?_).mono fun ex T' S' hT hq=> ?_))
 rotate_left
 ·cases ex with
  |exit id=>exact hq.elim
  |ret=>exact hq.elim
  |normal=>
   obtain⟨S'',w,hq⟩:=hq
   have h38:T'.length=38:=by rw[hT,o8]
   exact⟨m9 38 [2,3,4,6] (a2k T' [2,3,4,6]),S'',fun R H avs hC hr=>⟨w R H hC,by rw[←h38];exact c2y hr _⟩,by rw[o8,h38],hq⟩
 have hsl:=d4e (rows:=A4 (bs.map (D.int .u8))) (sz:=1) (h:=n) (by simp[A4];omega)
 change V0 1 (bD bs) _ _ _=_ at hsl
 have htk:(A4 (bs.map (D.int .u8))).take n=A4 ((bs.take n).map (D.int .u8)):=by simp[A4,List.map_take]
 rw[hsl,oD,htk]
 have hw:=c3e (A4 ((bs.take n).map (D.int .u8))) ((A4 (bs.map (D.int .u8))).drop n) 1
 have hcl:∀(rows more:List (List D)),r4 (b7t rows more 1)=some [b7t rows more 1]:=fun rows more=>by cases more<;>rfl
 generalize hx:b7t (A4 ((bs.take n).map (D.int .u8))) ((A4 (bs.map (D.int .u8))).drop n) 1=xd at hw ⊢
 have hcx:r4 xd=some [xd]:=by rw[←hx];exact hcl _ _
 have hf:E0 (u6 [.nilSlc, .int .i64 0] [(0,1,xd),(1,1, .int .i64 8)])=some (.agg [xd, .int .i64 8]):=by
  simp only[u6,hcx,clI]
  rfl
 rw[hf,oD,clA,oD]
 intro k6 a6 n6
 refine⟨S3.set k6 ⟨2,[[bD (bs.take n), .int .i64 8]],a6⟩,fun R H hC=>C8.wk (c:=[xd, .int .i64 8]) ⟨hw,Wk.refl _,trivial⟩ hC,d1k ?_, ?_⟩
 rotate_left
 ·rintro _ S'' ⟨x,ex,rfl,hle⟩
  rw[ex]at hr
  subst hr
  exact c4S ⟨rfl,rfl,rfl⟩ rfl (h3.up hle) x
 have hrd:=c3E (E:=E) (w0:=(⟨w0.w,fun e S''=>∃x,b1F (bs.take n) 8= .error x∧e=b2U x∧S3.le S''⟩:o0)) hbt (by omega) S3 k6 8 (S3.set k6 ⟨2,[[bD (bs.take n), .int .i64 8]],a6⟩) (b7.le_new n6) n6 (by omega) w5.new fun x S' e hle=>⟨⟨_,_,rfl⟩,x,e,rfl,hle⟩
 refine hrd.use fun v S5 ⟨m,q,e,h1,h2,hv,hR,hk⟩=> ?_
 subst hv
 rw[e]at hr
 simp only at hr
 have h5:=h3.keep n6 ((O8.new n6 _).trans hk)
 refine h5.st2 rfl (v:=moD m) (c':=moC m) rfl rfl fun S6 h6 _=> ?_
 refine s5 [2,3,4,6] (n:=38) rfl ((d0C (p2:= .ptr k2 0) (p3:= .ptr k3 0) (p4:= .ptr k4 0) (p6:= .ptr k6 0) (K:=fun T S=>(T.getD 2 b8= .ptr k2 0∧T.getD 3 b8= .ptr k3 0∧T.getD 4 b8= .ptr k4 0)∧c3F E (fun d S'=>d=a6N r∧S'=S0) (.ptr k2 0) (.ptr k3 0) (.ptr k4 0) S) ?_).mono fun ex T' S' hT hq=> ?_)
 rotate_left
 ·cases ex with
  |exit id=>exact hq
  |normal=>exact c1F (T:=T') hq.1 hq.2
  |ret=>exact c1F (T:=T') hq.1 hq.2
 rw[h6.c2.all (n:=3) (by decide) rfl,oD]
 refine(show n9 Try.prog E (b0E w0.w) P8 [moD m] S6 _ from(a6c (c1E hbt e)).use ?_)
 rw[b6h,oD]
 by_cases hs:D6 m=0
 ·rw[show(D6 m != 0)=false by simp[hs],cdF]
  rw[if_neg (by simp[hs])]at hr
  rw[h6.c2.all (n:=3) (by decide) rfl,oD]
  refine h6.st2 rfl (v:=moD m) (c':=moC m) rfl rfl fun S7 h7 _=> ?_
  refine h7.st3 (a':=0) fun S8 h8 _=> ?_
  refine h8.st4 (e':=0) fun S9 h9=> ?_
  exact⟨⟨rfl,rfl,rfl⟩,h9.fin rfl (Wk.refl _) (by rw[hr])⟩
 ·rw[show(D6 m != 0)=true by simp[hs],cdT]
  rw[if_pos hs]at hr
  refine h6.st2 rfl (v:= .agg [.nilSlc, .nilSlc, .nilSlc]) (c':=[.nilSlc, .nilSlc, .nilSlc]) rfl rfl fun S7 h7 _=> ?_
  refine h7.st3 (a':=0) fun S8 h8 _=> ?_
  refine h8.st4 (e':=D6 m) fun S9 h9=> ?_
  exact⟨⟨rfl,rfl,rfl⟩,h9.fin rfl c2P (by rw[hr])⟩
theorem c1o{bs:List Int}(hb:∀b∈bs,M3 b)(hl:bs.length<2^40):a0B Try.prog E w0 b5s [bD bs] (a6N (a5L bs)):=fun S0=>by
 refine c5S (c:=cL) Try.func15 rfl (d1w ?_)
 intro k2 a2 n2 k3 a3 n3 k4 a4 n4
 have d23:k3≠k2:=(b7.fresh n3).1
 have n3':=(b7.fresh n3).2
 have d34:k4≠k3:=(b7.fresh n4).1
 have n4':=(b7.fresh n4).2
 have d24:k4≠k2:=(b7.fresh n4').1
 have n4'':=(b7.fresh n4').2
 have h0:a6n S0 k2 k3 k4 [.nilSlc, .nilSlc, .nilSlc] 0 0 (((S0.set k2 ⟨3,[[.nilSlc, .nilSlc, .nilSlc]],a2⟩).set k3 ⟨1,[[.int .i64 0]],a3⟩).set k4 ⟨1,[[.int .i64 0]],a4⟩):=
  ⟨n2,n3',n4'',d23.symm,d24.symm,d34.symm,w5.set_ne (w5.set_ne w5.new d23.symm) d24.symm,w5.set_ne w5.new d34.symm,w5.new,b7.le_set (b7.le_set (b7.le_new n2) n3') n4''⟩
 show a0O _ _ _ _ _ _ _ (((S0.set k2 ⟨3,[[.nilSlc, .nilSlc, .nilSlc]],a2⟩).set k3 ⟨1,[[.int .i64 0]],a3⟩).set k4 ⟨1,[[.int .i64 0]],a4⟩)
 generalize ((S0.set k2 ⟨3,[[.nilSlc, .nilSlc, .nilSlc]],a2⟩).set k3 ⟨1,[[.int .i64 0]],a3⟩).set k4 ⟨1,[[.int .i64 0]],a4⟩=S1 at h0 ⊢
 refine d0P ?_
 rw[M5,oD,a3f,oD,O4]
 refine⟨fun hgt=> ?_,fun hle=> ?_⟩
 ·rw[h0.c2.all (n:=3) (by decide) rfl,oD]
  refine h0.st2 rfl (v:= .agg [.nilSlc, .nilSlc, .nilSlc]) (c':=[.nilSlc, .nilSlc, .nilSlc]) rfl rfl fun S2 h2 _=> ?_
  refine h2.st3 (a':=0) fun S3 h3 _=> ?_
  refine h3.st4 (e':=3) fun S4 h4=> ?_
  refine h4.fin rfl c2P ?_
  unfold a5L
  rw[if_pos (by omega)]
 have eL:a5L bs=if(a0C bs).2.2≠0 then(mo0,(a0C bs).2.1,(a0C bs).2.2)
   else match b1F (bs.take (a0C bs).1.toNat) 8 with
    | .error x=>(mo0,x.1,x.2)
    | .ok (m,_)=>if D6 m≠0 then(mo0,0,D6 m) else(m,0,0):=by
  unfold a5L;rw[if_neg (by omega)]
 rw[eL]
 refine d0T ((b6l hb hl).use ?_)
 unfold d2O
 rw[exD,List.getElem?_cons_zero,oD,exD,List.getElem?_cons_succ,List.getElem?_cons_zero,oD,exD,List.getElem?_cons_succ,List.getElem?_cons_succ,List.getElem?_cons_zero,oD]
 refine h0.st3 (a':=(a0C bs).2.1) fun S2 h2 _=> ?_
 refine h2.st4 (e':=(a0C bs).2.2) fun S3 h3=> ?_
 refine d0G ?_
 rw[h3.c4.ld,List.getElem?_cons_zero,oD,b6h,oD]
 by_cases he:(a0C bs).2.2=0
 rotate_left
 ·rw[show((a0C bs).2.2 != 0)=true by simp[he],cdT,if_pos he]
  rw[h3.c2.all (n:=3) (by decide) rfl,oD,h3.c3.ld,List.getElem?_cons_zero,oD,oD]
  refine h3.st2 rfl (v:= .agg [.nilSlc, .nilSlc, .nilSlc]) (c':=[.nilSlc, .nilSlc, .nilSlc]) rfl rfl fun S4 h4 e4=> ?_
  refine⟨e4 k3 h3.h23.symm,e4 k4 h3.h24.symm, ?_⟩
  refine h4.st3 (a':=(a0C bs).2.1) fun S5 h5 e5=> ?_
  refine⟨(e5 k4 h3.h34.symm).trans (e4 k4 h3.h24.symm), ?_⟩
  refine h5.st4 (e':=(a0C bs).2.2) fun S6 h6=> ?_
  exact h6.fin rfl c2P rfl
 rw[show((a0C bs).2.2 != 0)=false by simp[he],cdF,if_neg (by simp[he])]
 obtain⟨n,hn,hn8,hnl⟩:∃n:Nat,(a0C bs).1=(n:Int)∧8≤n∧n≤bs.length:=c9B he
 rw[hn,Int.toNat_natCast]
 exact c8w hb hn8 hnl (by omega) h3 rfl
end
end Go.Proofs.Ytchnpgddpaonhaa.d
end
section
open Go.Proofs Go Go.Am Go.Op
namespace Go.Proofs.Ytchnpgddpaonhaa.d
section
theorem c6q(l:List Int):0≤a7J l∧a7J l<4294967296:=by
 unfold a7J
 show 0≤(_:Int) % 4294967296∧(_:Int) % 4294967296<4294967296
 exact⟨Int.emod_nonneg _ (by decide),Int.emod_lt_of_pos _ (by decide)⟩
def b9q(L:Int)(body:List Int)(s:Int):List Int:=[84,82,77,1]++(E8 L 4++(body++E8 s 4))
theorem c8l(L:Int)(body:List Int)(s:Int):(b9q L body s).length=body.length+12:=by
 simp only[b9q,List.length_append,s8,List.length_cons,List.length_nil];omega
theorem d1d(L:Int)(body:List Int)(s:Int):(b9q L body s).drop 8=body++E8 s 4:=by
 rw[show(8:Nat)=4+4 from rfl, ←List.drop_drop]
 show(E8 L 4++(body++E8 s 4)).drop 4=_
 rw[List.drop_left' (s8 _ _)]
end
section
theorem c7b:∀(l:List Int) (i acc:Nat) {v k:Nat},a7R l i acc=(v,k,0)→i≤9→b4W l→∃n r,l=a4Z (9 - i) n++r∧v=acc+n*2^(7*i)∧k=i+(a4Z (9 - i) n).length∧(0<i→0<n)
 | [],i,acc,v,k,h,_,_=>by cases h
 |b::l,i,acc,v,k,h,hi,hb=>by
  obtain⟨b0,b1⟩:=hb b (by simp)
  rw[a7R]at h
  split at h
  ·cases h
  rename_i hbad
  split at h
  ·rename_i h128
   cases h
   have e1:b.toNat % 128=b.toNat:=by omega
   have e2:a4Z (9 - i) b.toNat=[b]:=by
    cases hf:9 - i with
    |zero=>rw[a4Z];congr 1;omega
    |succ f=>rw[a4Z,if_pos (by omega)];congr 1;omega
   exact⟨b.toNat,l,by rw[e2];rfl,by rw[e1],by rw[e2];rfl,fun _=>by omega⟩
  ·rename_i h128
   have hi9:i≠9:=fun e=>hbad (.inl ⟨e,by omega⟩)
   obtain⟨n,r,h1,h2,h3,h4⟩:=c7b l (i+1) _ h (by omega) fun c hc=>hb c (List.mem_cons_of_mem _ hc)
   have hn:=h4 (by omega)
   have e9:9 - i=(9 - (i+1))+1:=by omega
   have em:(b.toNat % 128+128*n) % 128=b.toNat % 128:=by omega
   have ed:(b.toNat % 128+128*n) / 128=n:=by omega
   have ep:a4Z (9 - i) (b.toNat % 128+128*n)=b::a4Z (9 - (i+1)) n:=by
    rw[e9,a4Z,if_neg (by omega),em,ed]
    congr 1
    omega
   refine⟨b.toNat % 128+128*n,r,by rw[ep,h1];rfl, ?_,by rw[ep,h3,List.length_cons];omega,fun _=>by omega⟩
   have e2:2^(7*(i+1))=128*2^(7*i):=by rw[show 7*(i+1)=7+7*i by omega,Nat.pow_add]
   rw[h2,e2,Nat.add_mul,Nat.mul_comm 128 n, ←Nat.mul_assoc,Nat.add_assoc]
def Gd{α:Type}(bs:List Int)(g:Ps α)(R:α→List Int→Prop):Prop:=∀p,p≤bs.length→
 (∀x,g p= .error x→0≤x.1∧x.1≤(bs.length:Int)∧x.2≠0)∧∀a q,g p= .ok (a,q)→p≤q∧q≤bs.length∧∃l,R a l∧bs.drop p=l++bs.drop q
section
variable{bs:List Int}{α β:Type}
theorem Gd.ret(a:α):Gd bs (Ps.ret a) fun b l=>b=a∧l=[]:=fun p hp=>⟨fun x h=>(by cases h),fun b q h=>by cases h;exact⟨Nat.le_refl _,hp,[],⟨rfl,rfl⟩,rfl⟩⟩
theorem Gd.bind{g:Ps α}{f:α→Ps β}{R:α→List Int→Prop}{Rf:α→β→List Int→Prop}{R':β→List Int→Prop}(h:Gd bs g R)(hf:∀a l,R a l→Gd bs (f a) (Rf a))(hR:∀a b l1 l2,R a l1→Rf a b l2→R' b (l1++l2)):Gd bs (g.bind f) R':=fun p hp=>by
 refine⟨fun x hx=> ?_,fun b q hq=> ?_⟩
 ·cases hg:g p with
  |error e=>
   rw[Ps.bind_err hg]at hx
   cases hx
   exact(h p hp).1 _ hg
  |ok r=>
   obtain⟨a,q⟩:=r
   rw[Ps.bind_ok hg]at hx
   obtain⟨h1,h2,l,h3,h4⟩:=(h p hp).2 a q hg
   exact((hf a l h3) q h2).1 x hx
 ·obtain⟨a,q1,h1,h2⟩:=Ps.of_bind hq
  obtain⟨k1,k2,l,k3,k4⟩:=(h p hp).2 a q1 h1
  obtain⟨j1,j2,l2,j3,j4⟩:=((hf a l k3) q1 k2).2 b q h2
  exact⟨Nat.le_trans k1 j1,j2,l++l2,hR a b l l2 k3 j3,by rw[k4,j4,List.append_assoc]⟩
theorem Gd.map{g:Ps α}{f:α→β}{R:α→List Int→Prop}{R':β→List Int→Prop}(h:Gd bs g R)(hR:∀a l,R a l→R' (f a) l):Gd bs (g.bind fun a=>Ps.ret (f a)) R':=
 h.bind (fun a l _=>Gd.ret (f a)) fun a b l1 l2 h1 ⟨e1,e2⟩=>by subst e1;subst e2;rw[List.append_nil];exact hR a l1 h1
theorem Gd.rep{g:Ps α}{P:α→Prop}{enc:α→List Int}(h:Gd bs g fun a l=>P a∧l=enc a):∀n,Gd bs (Ps.rep g n) fun l' l=>l'.length=n∧(∀a∈l',P a)∧l=l'.flatMap enc
 |0=>fun p hp=>⟨fun x h=>(by cases h),fun b q h=>by cases h;exact⟨Nat.le_refl _,hp,[],⟨rfl,by simp,rfl⟩,rfl⟩⟩
 |n+1=>by
  rw[Ps.rep]
  refine h.bind (fun a l _=>(Gd.rep h n).map (R':=fun l' l=>∃t,l'=a::t∧t.length=n∧(∀a∈t,P a)∧l=t.flatMap enc) fun t l ht=>⟨t,rfl,ht⟩) ?_
  rintro a b l1 l2 ⟨h1,rfl⟩ ⟨t,rfl,h2,h3,rfl⟩
  exact⟨by simp[h2],fun c hc=>by rcases List.mem_cons.1 hc with rfl|hc; ·exact h1
                                 ·exact h3 c hc,by simp⟩
section
variable(hb:b4W bs)
include hb
theorem Gd.num:Gd bs (a5t bs) fun n l=>(0≤n∧n≤2147483647)∧l=G3 n:=fun p hp=>by
 have hbd:b4W (bs.drop p):=fun b h=>hb b (List.mem_of_mem_drop h)
 unfold a5t
 obtain⟨v,k,e,hg⟩:∃v k e,a7R (bs.drop p) 0 0=(v,k,e):=⟨_,_,_,rfl⟩
 rw[hg]
 simp only
 refine⟨fun x hx=> ?_,fun a q ha=> ?_⟩
 ·split at hx
  ·cases hx;exact⟨by simp,by simp,by simp⟩
  ·split at hx
   ·rename_i he;cases hx;exact⟨by simp only;omega,by simp only;omega,he⟩
   ·split at hx
    ·cases hx;exact⟨by simp only;omega,by simp only;omega,by simp⟩
    ·cases hx
 ·split at ha
  ·cases ha
  ·rename_i h10
   split at ha
   ·cases ha
   ·rename_i he
    split at ha
    ·cases ha
    ·rename_i hv
     cases ha
     obtain rfl:e=0:=Classical.not_not.1 he
     obtain⟨n,r,h1,h2,h3,_⟩:=c7b _ 0 0 hg (by decide) hbd
     simp only[Nat.sub_zero,Nat.mul_zero,Nat.pow_zero,Nat.mul_one,Nat.zero_add]at h1 h2 h3
     subst h2
     have hlen:=congrArg List.length h1
     simp only[List.length_drop,List.length_append]at hlen
     have en:G3 (v:Int)=a4Z 9 v:=by
      unfold G3 c8V
      congr 1
      omega
     refine⟨by omega,by omega,G3 v,⟨⟨by omega,by omega⟩,rfl⟩, ?_⟩
     rw[en, ←List.drop_drop,h1,h3,List.drop_left]
theorem Gd.count(most:Int):Gd bs (X4 bs most) fun n l=>(0≤n∧n≤most∧n≤2147483647)∧l=G3 n:=fun p hp=>by
 unfold X4
 have:=Gd.bind (R':=fun n l=>(0≤n∧n≤most∧n≤2147483647)∧l=G3 n) (f:=fun n q=>if n>most then .error ((p:Int),3) else .ok (n,q)) (Rf:=fun n m l=>(m=n∧n≤most)∧l=[]) (Gd.num hb) (fun n l h q hq=> ?_) ?_
 ·exact this p hp
 ·refine⟨fun x hx=> ?_,fun a q' ha=> ?_⟩
  ·simp only at hx
   split at hx
   ·cases hx;exact⟨by simp only;omega,by simp only;omega,by simp⟩
   ·cases hx
  ·simp only at ha
   split at ha
   ·cases ha
   ·cases ha;exact⟨Nat.le_refl _,hq,[],⟨⟨rfl,by omega⟩,rfl⟩,rfl⟩
 ·rintro n m l1 l2 ⟨h1,rfl⟩ ⟨⟨rfl,h2⟩,rfl⟩
  exact⟨⟨h1.1,h2,h1.2⟩,by simp⟩
theorem Gd.oct{n:Int}(h0:0≤n):Gd bs (b3s bs n) fun a l=>((a.length:Int)=n∧b4W a)∧l=a:=fun p hp=>by
 unfold b3s
 refine⟨fun x hx=> ?_,fun a q ha=> ?_⟩
 ·split at hx
  ·cases hx;exact⟨by simp,by simp,by simp⟩
  ·cases hx
 ·split at ha
  ·cases ha
  ·rename_i hn
   cases ha
   refine⟨by omega,by omega,_,⟨⟨?_,fun b h=>hb b (List.mem_of_mem_drop (List.mem_of_mem_take h))⟩,rfl⟩, ?_⟩
   ·rw[List.length_take,List.length_drop];omega
   ·rw[←List.drop_drop,List.take_append_drop]
theorem Gd.text(most:Int):Gd bs (a5E bs most) fun s l=>(s.length:Int)≤most∧l=a0T s:=by
 unfold a5E
 refine(Gd.count hb most).bind (Rf:=fun n s l=>∃a:List Int,((a.length:Int)=n∧b4W a)∧s=b2b a∧l=a) (fun n l ⟨h,_⟩=>(Gd.oct hb h.1).map fun a l ⟨h,e⟩=>⟨a,h,rfl,e⟩) ?_
 rintro n s l1 l2 ⟨h1,rfl⟩ ⟨a,⟨h2,h3⟩,rfl,rfl⟩
 refine⟨by rw[b4g];omega, ?_⟩
 unfold a0T
 rw[b4g,a9q h3,h2]
theorem Gd.nums(most:Int):Gd bs (b2F bs most) fun s l=>((s.length:Int)≤most∧∀n∈s,0≤n∧n≤2147483647)∧l=a7K s:=by
 unfold b2F
 refine(Gd.count hb most).bind (fun n l ⟨h,_⟩=>Gd.rep (Gd.num hb) n.toNat) ?_
 rintro n s l1 l2 ⟨h1,rfl⟩ ⟨h2,h3,rfl⟩
 refine⟨⟨by omega,h3⟩, ?_⟩
 unfold a7K
 rw[show((s.length:Nat):Int)=n by omega]
theorem Gd.fld:Gd bs (b2I bs) fun f l=>True∧l=b6Y f:=by
 unfold b2I
 refine(Gd.text hb 65536).bind (Rf:=fun s f l=>∃n,f=(s,n)∧l=G3 n) (fun s l _=>(Gd.num hb).map fun n l ⟨_,e⟩=>⟨n,rfl,e⟩) ?_
 rintro s f l1 l2 ⟨_,rfl⟩ ⟨n,rfl,rfl⟩
 exact⟨trivial,rfl⟩
theorem Gd.one:Gd bs (b4O bs) fun t l=>True∧l=tyB t:=fun p hp=>by
 rw[c7W]
 have:=Gd.bind (R':=fun t l=>True∧l=tyB t) (f:=fun k=>a7H bs p (k.headD 0)) (Rf:=fun k t l=>t.kind=k.headD 0∧tyB t=t.kind::l) (Gd.oct hb (n:=1) (by decide)) (fun k l hk=> ?_) ?_
 ·exact this p hp
 ·generalize k.headD 0=y
  by_cases h6:y=6
  ·subst h6
   rw[c2k]
   refine(Gd.text hb 65536).bind (Rf:=fun s t l=>∃fs:List (Tx×Int),t=(⟨6,s,fs,0,0⟩:Ty)∧l=G3 fs.length++fs.flatMap b6Y) (fun s l _=> ?_) ?_
   ·refine(Gd.count hb 32).bind (Rf:=fun n t l=>∃fs:List (Tx×Int),fs.length=n.toNat∧t=(⟨6,s,fs,0,0⟩:Ty)∧l=fs.flatMap b6Y) (fun n l _=>(Gd.rep (Gd.fld hb) n.toNat).map fun fs l ⟨h1,_,h2⟩=>⟨fs,h1,rfl,h2⟩) ?_
    rintro n t l1 l2 ⟨h1,rfl⟩ ⟨fs,h2,rfl,rfl⟩
    exact⟨fs,rfl,by rw[show((fs.length:Nat):Int)=n by omega]⟩
   ·rintro s t l1 l2 ⟨_,rfl⟩ ⟨fs,rfl,rfl⟩
    exact⟨rfl,rfl⟩
  by_cases h7:y=7
  ·subst h7
   rw[c2C]
   refine(Gd.num hb).bind (Rf:=fun a t l=>∃b,t=(⟨7,[],[],a,b⟩:Ty)∧l=G3 b) (fun a l _=>(Gd.num hb).map fun b l ⟨_,e⟩=>⟨b,rfl,e⟩) ?_
   rintro a t l1 l2 ⟨_,rfl⟩ ⟨b,rfl,rfl⟩
   exact⟨rfl,rfl⟩
  by_cases h8:y=8
  ·subst h8
   rw[c2J]
   refine(Gd.num hb).map fun a l ⟨_,e⟩=>⟨rfl, ?_⟩
   subst e
   show[(8:Int)]++(G3 a++[])=_
   rw[List.append_nil];rfl
  rw[d0y bs p h6 h7 h8]
  exact fun q hq=>⟨fun x hx=>by cases hx;exact⟨by simp only;omega,by simp only;omega,by simp⟩,fun a q h=>by cases h⟩
 ·rintro k t l1 l2 ⟨⟨h1,h2⟩,rfl⟩ ⟨h3,h4⟩
  refine⟨trivial, ?_⟩
  obtain⟨y,rfl⟩:∃y,l1=[y]:=by
   match l1,h1 with
   | [y],_=>exact⟨y,rfl⟩
   | [],h=>simp at h
   |a::b::c,h=>simp only[List.length_cons]at h;omega
  rw[h4,h3];rfl
theorem Gd.ro:Gd bs (b5L bs) fun r l=>True∧l=roB r:=by
 unfold b5L
 refine(Gd.text hb 65536).bind (Rf:=fun s r l=>r.name=s∧roB r=a0T s++l) (fun s l _=> ?_) fun s r l1 l2 ⟨_,e⟩ ⟨_,e2⟩=>⟨trivial,by rw[e2,e]⟩
 refine(Gd.nums hb 32).bind (Rf:=fun a r l=>r.name=s∧roB r=a0T s++(a7K a++l)) (fun a l _=> ?_) fun a r l1 l2 ⟨_,e⟩ ⟨h,e2⟩=>⟨h,by rw[e2,e]⟩
 refine(Gd.nums hb 8).bind (Rf:=fun b r l=>r.name=s∧roB r=a0T s++(a7K a++(a7K b++l))) (fun b l _=> ?_) fun b r l1 l2 ⟨_,e⟩ ⟨h,e2⟩=>⟨h,by rw[e2,e]⟩
 refine(Gd.num hb).bind (Rf:=fun x r l=>r.name=s∧roB r=a0T s++(a7K a++(a7K b++(G3 x++l)))) (fun x l _=> ?_) fun x r l1 l2 ⟨_,e⟩ ⟨h,e2⟩=>⟨h,by rw[e2,e]⟩
 refine(Gd.num hb).bind (Rf:=fun y r l=>r.name=s∧roB r=a0T s++(a7K a++(a7K b++(G3 x++(G3 y++l))))) (fun y l _=> ?_) fun y r l1 l2 ⟨_,e⟩ ⟨h,e2⟩=>⟨h,by rw[e2,e]⟩
 refine(Gd.count hb 65536).bind (Rf:=fun n r l=>∃c:List Int,((c.length:Int)=n∧b4W c)∧r=(⟨s,a,b,x,y,c⟩:Ro)∧l=c) (fun n l ⟨h,_⟩=>(Gd.oct hb h.1).map fun c l ⟨h,e⟩=>⟨c,h,rfl,e⟩) ?_
 rintro n r l1 l2 ⟨_,rfl⟩ ⟨c,⟨h1,h2⟩,rfl,rfl⟩
 refine⟨rfl, ?_⟩
 unfold roB
 simp only
 unfold a0T
 rw[b4g,a9q h2,h1]
theorem Gd.mod:Gd bs (b1F bs) fun m l=>True∧l=L1 m:=by
 unfold b1F
 have gend:∀m:Mo,Gd bs (c1c bs m) fun b l=>b=m∧l=[]:=fun m p hp=>by
  unfold c1c
  refine⟨fun x hx=> ?_,fun a q ha=> ?_⟩
  ·split at hx
   ·cases hx;exact⟨by simp only;omega,by simp only;omega,by simp⟩
   ·cases hx
  ·split at ha
   ·cases ha
   ·cases ha;exact⟨Nat.le_refl _,hp,[],⟨rfl,rfl⟩,rfl⟩
 refine(Gd.count hb 256).bind (Rf:=fun n m l=>m.types.length=n.toNat∧G3 n++l=G3 n++l∧L1 m=G3 m.types.length++l) (fun n l hn=> ?_) fun n m l1 l2 ⟨h0,e⟩ ⟨h,_,e2⟩=>⟨trivial,by rw[e2,e,h];congr 2;omega⟩
 refine(Gd.rep (Gd.one hb) n.toNat).bind (Rf:=fun ts m l=>m.types=ts∧L1 m=G3 m.types.length++(ts.flatMap tyB++l)) (fun ts l _=> ?_) fun ts m l1 l2 ⟨h1,_,e⟩ ⟨h,e2⟩=>⟨by rw[h,h1],rfl,by rw[e2,e]⟩
 refine(Gd.count hb 32768).bind (Rf:=fun n m l=>m.types=ts∧m.texts.length=n.toNat∧L1 m=G3 m.types.length++(ts.flatMap tyB++(G3 m.texts.length++l))) (fun n l _=> ?_) fun n m l1 l2 ⟨h0,e⟩ ⟨h,h2,e2⟩=>⟨h,by rw[e2,e,h2];congr 4;omega⟩
 refine(Gd.rep (Gd.text hb 65536) n.toNat).bind (Rf:=fun xs m l=>m.types=ts∧m.texts=xs∧L1 m=G3 m.types.length++(ts.flatMap tyB++(G3 m.texts.length++(xs.flatMap a0T++l)))) (fun xs l _=> ?_) fun xs m l1 l2 ⟨h1,_,e⟩ ⟨h,h2,e2⟩=>⟨h,by rw[h2,h1],by rw[e2,e]⟩
 refine(Gd.count hb 256).bind (Rf:=fun n m l=>m.types=ts∧m.texts=xs∧m.funcs.length=n.toNat∧L1 m=G3 m.types.length++(ts.flatMap tyB++(G3 m.texts.length++(xs.flatMap a0T++(G3 m.funcs.length++l))))) (fun n l _=> ?_) fun n m l1 l2 ⟨h0,e⟩ ⟨h,h2,h3,e2⟩=>⟨h,h2,by rw[e2,e,h3];congr 6;omega⟩
 refine(Gd.rep (Gd.ro hb) n.toNat).bind (Rf:=fun fs m l=>m=(⟨ts,xs,fs⟩:Mo)∧l=[]) (fun fs l _=>gend _) fun fs m l1 l2 ⟨h1,_,e⟩ ⟨h,e2⟩=> ?_
 subst h
 subst e2
 subst e
 refine⟨rfl,rfl,h1, ?_⟩
 rw[List.append_nil]
 rfl
end
theorem c9G{p q:Nat}{m:Mo}(h:b1F bs p= .ok (m,q)):bs.length≤q:=by
 unfold b1F at h
 obtain⟨n1,q1,h1,h⟩:=Ps.of_bind h
 obtain⟨ts,q2,h2,h⟩:=Ps.of_bind h
 obtain⟨n3,q3,h3,h⟩:=Ps.of_bind h
 obtain⟨xs,q4,h4,h⟩:=Ps.of_bind h
 obtain⟨n5,q5,h5,h⟩:=Ps.of_bind h
 obtain⟨fs,q6,h6,h⟩:=Ps.of_bind h
 unfold c1c at h
 split at h
 ·cases h
 ·cases h;omega
end
end
section
theorem c5j:∀ {cs bs:List Int} {i:Nat},a6Y bs cs i=none→bs=cs++bs.drop cs.length
 | [],bs,i,h=>rfl
 |c::cs,[],i,h=>by simp[a6Y]at h
 |c::cs,b::bs,i,h=>by
  rw[a6Y]at h
  split at h
  ·cases h
  ·rename_i hbc
   obtain rfl:b=c:=Classical.not_not.1 hbc
   have:=c5j h
   rw[List.length_cons,List.drop_succ_cons,List.cons_append, ←this]
theorem c2n:∀ {cs bs:List Int} {i:Nat} {a e:Int},a6Y bs cs i=some (a,e)→(i:Int)≤a∧a≤(i:Int)+bs.length∧e≠0∧(e=10→a=(i:Int)+bs.length∧bs.length<cs.length)
 | [],bs,i,a,e,h=>by cases bs<;>simp[a6Y]at h
 |c::cs,[],i,a,e,h=>by
  simp only[a6Y,Option.some.injEq,Prod.mk.injEq]at h
  obtain⟨rfl,rfl⟩:=h
  exact⟨by omega,by simp,by omega,fun _=>⟨by simp,by simp⟩⟩
 |c::cs,b::bs,i,a,e,h=>by
  rw[a6Y]at h
  simp only[List.length_cons]
  split at h
  ·simp only[Option.some.injEq,Prod.mk.injEq]at h
   obtain⟨rfl,rfl⟩:=h
   exact⟨by omega,by omega,by omega,fun h=>by omega⟩
  ·have:=c2n h
   omega
theorem d0N{bs:List Int}(he:(a0C bs).2.2≠0):0≤(a0C bs).2.1∧(a0C bs).2.1≤(bs.length:Int):=by
 unfold a0C at he ⊢
 split
 ·rename_i a e h
  have:=c2n h
  simp only
  omega
 ·rename_i h
  rw[h]at he
  have hl:=c0d h
  unfold c8t at he ⊢
  simp only at he ⊢
  split
  ·simp
  ·rename_i h1
   rw[if_neg h1]at he
   split
   ·simp only;omega
   ·rename_i h2
    rw[if_neg h2]at he
    split
    ·simp only;omega
    ·rename_i h3;rw[if_neg h3]at he;simp at he
theorem c6g{bs:List Int}(hb:b4W bs)(he:(a0C bs).2.2=0):∃body:List Int,b4W body∧bs=b9q body.length body (a7J body)∧(a0C bs).1=((8+body.length:Nat):Int):=by
 unfold a0C at he ⊢
 split at he
 ·rename_i a e h
  have:=c2n h
  simp only at he
  omega
 ·rename_i hm
  have hpre:=c5j hm
  have hl:=c0d hm
  unfold c8t at he ⊢
  split at he
  ·simp at he
  rename_i h1
  rw[if_neg h1]
  split at he
  ·simp at he
  rename_i h2
  rw[if_neg h2]
  split at he
  ·simp at he
  rename_i h3
  rw[if_neg h3]
  have hN:∃N,N=leN ((bs.drop 4).take 4):=⟨_,rfl⟩
  obtain⟨N,hN⟩:=hN
  rw[←hN]at h1 h2 h3 ⊢
  have hlen:bs.length=N+12:=by omega
  have b4:b4W ((bs.drop 4).take 4):=fun b h=>hb b (List.mem_of_mem_drop (List.mem_of_mem_take h))
  have l4:((bs.drop 4).take 4).length=4:=by rw[List.length_take,List.length_drop];omega
  have hN32:=b1y b4
  rw[←hN,l4]at hN32
  have bb:b4W ((bs.drop 8).take N):=fun b h=>hb b (List.mem_of_mem_drop (List.mem_of_mem_take h))
  have lb:((bs.drop 8).take N).length=N:=by rw[List.length_take,List.length_drop];omega
  have be:b4W (bs.drop (8+N)):=fun b h=>hb b (List.mem_of_mem_drop h)
  have le:(bs.drop (8+N)).length=4:=by rw[List.length_drop];omega
  have e1:(bs.drop 4).take 4=E8 (N:Int) 4:=by
   refine b8s b4 (c0H _ _) (by rw[l4,s8]) ?_
   have:=b8r 4 (N:Int)
   omega
  have h3:(leN ((bs.drop (8+N)).take 4):Int)=a7J ((bs.drop 8).take N):=Classical.not_not.1 h3
  rw[List.take_of_length_le (by omega)]at h3
  have e2:bs.drop (8+N)=E8 (a7J ((bs.drop 8).take N)) 4:=by
   refine b8s be (c0H _ _) (by rw[le,s8]) ?_
   have:=b8r 4 (a7J ((bs.drop 8).take N))
   have:=c6q ((bs.drop 8).take N)
   omega
  refine⟨(bs.drop 8).take N,bb, ?_,by rw[lb]⟩
  rw[lb]
  unfold b9q
  rw[←e1, ←e2]
  have a1:bs.drop 4=(bs.drop 4).take 4++bs.drop 8:=by
   have:=(List.take_append_drop 4 (bs.drop 4)).symm
   rwa [List.drop_drop]at this
  have a2:bs.drop 8=(bs.drop 8).take N++bs.drop (8+N):=by
   have:=(List.take_append_drop N (bs.drop 8)).symm
   rwa [List.drop_drop]at this
  rw[←a2, ←a1]
  exact hpre
theorem c4p{bs:List Int}(hb:b4W bs)(hl:bs.length≤2097152):
  ((a5L bs).2.2≠0→(a5L bs).1=mo0∧0≤(a5L bs).2.1∧(a5L bs).2.1≤(bs.length:Int))∧
  ((a5L bs).2.2=0→(a5L bs).2.1=0∧b0t (a5L bs).1=(bs,0)∧(a5L bs).1.Fits):=by
 have e0:a5L bs=if(a0C bs).2.2≠0 then(mo0,(a0C bs).2.1,(a0C bs).2.2)
   else match b1F (bs.take (a0C bs).1.toNat) 8 with
    | .error x=>(mo0,x.1,x.2)
    | .ok (m,_)=>if D6 m≠0 then(mo0,0,D6 m) else(m,0,0):=by
  unfold a5L
  rw[if_neg (by omega)]<;>rfl
 rw[e0]
 by_cases he:(a0C bs).2.2=0
 ·rw[if_neg (by simp[he])]
  obtain⟨body,bb,hw,ho⟩:=c6g hb he
  have hlen:bs.length=body.length+12:=by
   have:=congrArg List.length hw
   rwa [c8l]at this
  rw[ho,Int.toNat_natCast]
  have hbt:b4W (bs.take (8+body.length)):=fun b h=>hb b (List.mem_of_mem_take h)
  have hlt:(bs.take (8+body.length)).length=8+body.length:=by rw[List.length_take];omega
  have hdr:(bs.take (8+body.length)).drop 8=body:=by
   rw[List.drop_take,Nat.add_sub_cancel_left,hw,d1d,List.take_left]
  have hg:=Gd.mod hbt 8 (by omega)
  cases hm:b1F (bs.take (8+body.length)) 8 with
  |error x=>
   have:=hg.1 x hm
   simp only
   refine⟨fun _=>⟨by trivial,by omega,by omega⟩,fun h=>(this.2.2 h).elim⟩
  |ok r=>
   obtain⟨m,q⟩:=r
   obtain⟨_,h2,l,⟨_,rfl⟩,h4⟩:=hg.2 m q hm
   have hq:=c9G hm
   rw[List.drop_of_length_le hq,List.append_nil,hdr]at h4
   simp only
   by_cases hs:D6 m=0
   ·rw[if_neg (by simp[hs])]
    refine⟨fun h=>(h rfl).elim,fun _=>⟨by trivial, ?_,c1E hbt hm⟩⟩
    simp only
    unfold b0t
    rw[if_neg (by simp[hs]),if_neg (by rw[←h4];omega), ←h4]
    exact congrArg (·,0) hw.symm
   ·rw[if_pos hs]
    exact⟨fun _=>⟨by trivial,by simp,by simp⟩,fun h=>(hs h).elim⟩
 ·rw[if_pos he]
  exact⟨fun _=>⟨by trivial,d0N he⟩,fun h=>(he h).elim⟩
end
section
theorem Mo.Small.fits{m:Mo}{N:Nat}(hm:m.Ok)(h:m.Small N)(hN:N<2^30):m.Fits:=
 ⟨hm,by have:=h.types;omega,by have:=h.texts;omega,by have:=h.funcs;omega,fun t ht=>by have:=h.fields t ht;omega,fun r hr=>by have:=h.params r hr;omega⟩
end
end Go.Proofs.Ytchnpgddpaonhaa.d
end
section
open Go.Proofs Go Go.Am
namespace Go.Proofs.Ytchnpgddpaonhaa.d
def b8P:List (Nat×List Nat):=[]
def b8F:List (Nat×List Nat):=[]
def c0g:List (Nat×Arr):=[]
def b2v(E:l9)(w0:o0)(Q:D→b7→Prop)(S:b7):Prop:=
 a9 (E0 (u6 [.nilSlc, .nilSlc, .nilSlc] [])) fun v0=>
 n9 Try.prog E w0 X7 [v0] S fun v1 S2=>
 a9 (o6 v1 0) fun v3=>
 a9 (o6 v1 1) fun v4=>
 a9 (d9 .eql v4 (.int .i64 0)) fun v5=>
 a9 (j8 (d6 v5 true) (some v3)) fun v6=>
 a9 (j8 (d6 v5 true) (a8g S2 v6)) fun v7=>
 a9 (j8 (d6 v5 true) (b7Y .eql v7 (.str [84,82,77,1,3,0,0,0,0,0,0,18,217,65,255]))) fun v8=>
 a9 (w8 v5 v8 (.bool false)) fun v9=>
 Q v9 S2
theorem b5H{E:l9}{w0:o0}{Q:D→b7→Prop}{S:b7}(h:b2v E w0 (d8 E Q) S):n9 Try.prog E w0 a0m [] S Q:=
 m6 b8P b8F c0g (fn:=Try.f10) (c:=Try.f10.body.getD .skip) o7 Try.func10 (by kernel_rfl) (by kernel_rfl) h
end Go.Proofs.Ytchnpgddpaonhaa.d
end
section
open Go.Proofs Go Go.Am Go.Op
namespace Go.Proofs.Ytchnpgddpaonhaa.d
section
variable{E:l9}{w0:o0}
theorem d2f:(⟨[],[],[]⟩:Mo).Ok:=by constructor<;>simp
theorem d3Q:b0t ⟨[],[],[]⟩=([84,82,77,1,3,0,0,0,0,0,0,18,217,65,255],0):=by kernel_rfl
theorem b3I:a0B Try.prog E w0 a0m [] (.bool true):=fun S=>by
 refine b5H ?_
 unfold b2v
 have e:E0 (u6 [.nilSlc, .nilSlc, .nilSlc] [])=some (.agg [.nilSlc, .nilSlc, .nilSlc]):=rfl
 rw[e,oD]
 have fm:(⟨[],[],[]⟩:Mo).Fits:=Mo.Small.fits (N:=0) d2f (by constructor<;>simp) (by decide)
 refine DF.weak (es:=[moD ⟨[],[],[]⟩]) ⟨Wk.agg ⟨Wk.nil _,Wk.nil _,Wk.nil _,trivial⟩,trivial⟩ ((a9w fm).use ?_)
 simp only[d3Q,exD,List.getElem?_cons_zero,List.getElem?_cons_succ,oD,a4r,decide_true,wdB,vdT,gdT,c7I,show((true==true)=true) from rfl]
 have eb:b7Y .eql (.str (b2b [84,82,77,1,3,0,0,0,0,0,0,18,217,65,255])) (.str [84,82,77,1,3,0,0,0,0,0,0,18,217,65,255])=some (.bool true):=rfl
 simp only[eb,oD,pdB,if_true]
 exact d8.pure
end
end Go.Proofs.Ytchnpgddpaonhaa.d
end
section
open Go.Proofs Go Go.Am
namespace Go.Proofs.Ytchnpgddpaonhaa.d
def b3o:List (Nat×List Nat):=[]
def b2S:List (Nat×List Nat):=[]
def b3L:List (Nat×Arr):=[]
def a6r(E:l9)(w0:o0)(Q:D→b7→Prop)(a0:D)(S:b7):Prop:=
 a9 (r6 a0) fun v0=>
 a9 (d9 .gtr v0 (.int .i64 131072)) fun v1=>
 j0 v1
 (n9 Try.prog E w0 a0m [] S fun v2 S3=>
 Q v2 S3)
 (n9 Try.prog E w0 b5s [a0] S fun v4 S5=>
 a9 (o6 v4 0) fun v6=>
 a9 (o6 v4 1) fun v7=>
 a9 (o6 v4 2) fun v8=>
 o4 S5 [.nilSlc, .nilSlc, .nilSlc] fun v9 S10=>
 f0 S10 3 v9 v6 fun v11 S12=>
 a9 (d9 .neq v8 (.int .i64 0)) fun v13=>
 j0 v13
 (a9 (m7 0 v9) fun v14=>
 a9 (c9 S12 v14) fun v15=>
 a9 (r6 v15) fun v16=>
 a9 (d9 .eql v16 (.int .i64 0)) fun v17=>
 a9 (j8 (d6 v17 true) (m7 1 v9)) fun v18=>
 a9 (j8 (d6 v17 true) (c9 S12 v18)) fun v19=>
 a9 (j8 (d6 v17 true) (r6 v19)) fun v20=>
 a9 (j8 (d6 v17 true) (d9 .eql v20 (.int .i64 0))) fun v21=>
 a9 (w8 v17 v21 (.bool false)) fun v22=>
 a9 (j8 (d6 v22 true) (m7 2 v9)) fun v23=>
 a9 (j8 (d6 v22 true) (c9 S12 v23)) fun v24=>
 a9 (j8 (d6 v22 true) (r6 v24)) fun v25=>
 a9 (j8 (d6 v22 true) (d9 .eql v25 (.int .i64 0))) fun v26=>
 a9 (w8 v22 v26 (.bool false)) fun v27=>
 a9 (j8 (d6 v27 true) (some v7)) fun v28=>
 a9 (j8 (d6 v27 true) (d9 .geq v28 (.int .i64 0))) fun v29=>
 a9 (w8 v27 v29 (.bool false)) fun v30=>
 a9 (j8 (d6 v30 true) (some v7)) fun v31=>
 a9 (j8 (d6 v30 true) (some a0)) fun v32=>
 a9 (j8 (d6 v30 true) (r6 v32)) fun v33=>
 a9 (j8 (d6 v30 true) (d9 .leq v31 v33)) fun v34=>
 a9 (w8 v30 v34 (.bool false)) fun v35=>
 a4g (d6 v35 true) (fun K=>n9 Try.prog E w0 a0m [] S12 K) S12 fun v36 S37=>
 a9 (w8 v35 v36 (.bool false)) fun v38=>
 Q v38 S37)
 (a9 (i9 S12 3 v9) fun v39=>
 n9 Try.prog E w0 X7 [v39] S12 fun v40 S41=>
 a9 (o6 v40 0) fun v42=>
 a9 (o6 v40 1) fun v43=>
 a9 (d9 .eql v7 (.int .i64 0)) fun v44=>
 a9 (j8 (d6 v44 true) (some v43)) fun v45=>
 a9 (j8 (d6 v44 true) (d9 .eql v45 (.int .i64 0))) fun v46=>
 a9 (w8 v44 v46 (.bool false)) fun v47=>
 a9 (j8 (d6 v47 true) (some v42)) fun v48=>
 a9 (j8 (d6 v47 true) (a8g S41 v48)) fun v49=>
 a9 (j8 (d6 v47 true) (some a0)) fun v50=>
 a9 (j8 (d6 v47 true) (a8g S41 v50)) fun v51=>
 a9 (j8 (d6 v47 true) (b7Y .eql v49 v51)) fun v52=>
 a9 (w8 v47 v52 (.bool false)) fun v53=>
 a4g (d6 v53 true) (fun K=>n9 Try.prog E w0 a0m [] S41 K) S41 fun v54 S55=>
 a9 (w8 v53 v54 (.bool false)) fun v56=>
 Q v56 S55))
theorem b1x{E:l9}{w0:o0}{Q:D→b7→Prop}{a0:D}{S:b7}(h:a6r E w0 (d8 E Q) a0 S):n9 Try.prog E w0 a6H [a0] S Q:=
 m6 b3o b2S b3L (fn:=Try.f5) (c:=Try.f5.body.getD .skip) o7 Try.func5 (by kernel_rfl) (by kernel_rfl) h
end Go.Proofs.Ytchnpgddpaonhaa.d
end
section
open Go.Proofs Go Go.Am Go.Op
namespace Go.Proofs.Ytchnpgddpaonhaa.d
section
variable{E:l9}{w0:o0}
theorem d3j:(true==true)=true:=rfl
theorem d2p{S:b7}{m:Mo}{K:D→b7→Prop}(hK:∀k S',S k=none→w5 S' k 3 (moC m)→S.le S'→(∀j,j≠k→S' j=S j)→K (.ptr k 0) S'):
  o4 S [.nilSlc, .nilSlc, .nilSlc] fun v9 S10=>f0 S10 3 v9 (moD m) fun _ S12=>K v9 S12:=fun k a n=>by
 have c2':w5 (S.set k ⟨3,[[.nilSlc, .nilSlc, .nilSlc]],a⟩) k 3 [.nilSlc, .nilSlc, .nilSlc]:=w5.new
 refine c2'.st (ds:=moC m) rfl ⟨rfl,by decide,by simp⟩ fun a3=> ?_
 rw[b7.set_set]
 exact hK k _ n w5.new (b7.le_new n) fun j hj=>b7.set_ne _ _ _ hj
theorem b9C{bs:List Int}(hb:b4W bs){S:b7}:n9 Try.prog E w0 a6H [bD bs] S fun v _=>v= .bool true:=by
 refine b1x ?_
 unfold a6r
 rw[M5,oD,a3f,oD,O4]
 have wk:∀ {S':b7},n9 Try.prog E w0 a0m [] S' fun v13 S14=>d8 E (fun v _=>v= .bool true) v13 S14:=b3I.use (d8.here rfl)
 refine⟨fun _=>wk,fun hle=> ?_⟩
 obtain⟨r1,r2⟩:=c4p hb (by omega)
 refine(c1o hb (by omega)).use ?_
 obtain⟨⟨m,at',e⟩,hr⟩:∃r,a5L bs=r:=⟨_,rfl⟩
 rw[hr]at r1 r2 ⊢
 simp only at r1 r2
 unfold a6N
 simp only[exD,oD,List.getElem?_cons_zero,List.getElem?_cons_succ]
 refine d2p fun k S1 n hk _ _=> ?_
 rw[b6h,oD]
 by_cases he:e=0
 ·obtain⟨rfl,h2,h3⟩:=r2 he
  rw[show(e != 0)=false by simp[he],cdF,hk.all (n:=3) (by decide) rfl,oD]
  refine(show n9 Try.prog E w0 X7 [moD m] S1 _ from(a9w h3).use ?_)
  rw[h2]
  simp only[exD,oD,List.getElem?_cons_zero,List.getElem?_cons_succ,a1Q,wdB,vdT,d3j,pdB,if_true,show((0:Int)==0)=true from rfl,c7I,d3v,decide_true,gdT]
  refine b3I.use ?_
  exact d8.here rfl
 ·obtain⟨rfl,h2,h3⟩:=r1 he
  rw[show(e != 0)=true by simp[he],cdT]
  have l0:∀i,c9 S1 (.ptr k i)=(moC mo0)[i]? :=fun i=>hk.ld i
  have z:r6 (b2i [])=some (.int .i64 0):=rfl
  have z2:r6 (b1g [])=some (.int .i64 0):=rfl
  have z3:r6 (b2p [])=some (.int .i64 0):=rfl
  simp only[I4,oD,Nat.zero_add,Nat.add_zero,l0,moC,mo0,List.getElem?_cons_zero,List.getElem?_cons_succ,z,z2,z3,a1Q,wdB,vdT,d3j,pdB,if_true,show((0:Int)==0)=true from rfl,a9V,decide_eq_true h2,M5,d0u,decide_eq_true h3,gdT]
  refine b3I.use ?_
  exact d8.here rfl
end
end Go.Proofs.Ytchnpgddpaonhaa.d
end
