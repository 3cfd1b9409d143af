/-
  ImageBackSaid: part Kbg of its proof.
-/
import Derived.Test.YtchnpgddpaonhaaKbf
import Derived.Test.YtchnpgddpaonhaaKbe
import Derived.Test.YtchnpgddpaonhaaKba
import Derived.Test.YtchnpgddpaonhaaKaw
import Derived.Test.YtchnpgddpaonhaaRows
import Derived.Test.YtchnpgddpaonhaaKaq
import Derived.KernelRfl
import Derived.Test.YtchnpgddpaonhaaKal
import Derived.ChangeSlices
import Derived.Carry
import Derived.Test.YtchnpgddpaonhaaKat
import Derived.SizedLaws
set_option linter.unusedVariables false
set_option linter.unusedSimpArgs false
set_option maxRecDepth 100000
section
open Go.Proofs Go Go.Am Go.Op
namespace Go.Am
section
variable{P:Program}{E:m7}{w0:o0}
theorem d0j{fn:Func}{Q:D→b7→Prop}{c:Code}{T:List D}{S:b7}{n:Nat}(L:List Nat)(hn:T.length=n)(h:a1c P E w0 fn Q c (n9 n L (a3d T L)) S):a1c P E w0 fn Q c T S:=fun R H avs F hC hT=>h R H avs F hC (by rw[←hn];exact c5P hT L)
def d5J(P:Program)(E:m7)(w0:o0)(fn:Func)(Q:D→b7→Prop)(n:Nat)(L:List Nat)(y:Code)(ex:r6)(T':List D)(S':b7):Prop:=match ex with
 | .normal=>a1c P E w0 fn Q y (n9 n L (a3d T' L)) S'
 | .ret=>a4q P S' T' fn.results.toList fun vs=>d9 E Q (c1y vs) S'
 | .exit _=>False
theorem b0C{fn:Func}{Q:D→b7→Prop}{x y:Code}{T:List D}{S:b7}{n:Nat}(L:List Nat)(hn:T.length=n)(h:j9 P E w0 x T S (d5J P E w0 fn Q n L y)):a1c P E w0 fn Q (.seq x y) T S:=
 d0W (h.mono fun ex T' S' hl hq=>by
  cases ex with
  |normal=>exact d0j L (by rw[hl,hn]) hq
  |ret=>exact hq
  |exit id=>exact hq)
def wkQ(E:m7)(Q:r6→List D→b7→Prop)(ex:r6)(T:List D)(S:b7):Prop:=∃T' S',(∀R H avs,D6 E R S H→A9 E R T avs→D6 E R S' H∧A9 E R T' avs)∧T'.length=T.length∧Q ex T' S'
theorem j9.post{c:Code}{T:List D}{S:b7}{Q:r6→List D→b7→Prop}(h:j9 P E w0 c T S (wkQ E Q)):j9 P E w0 c T S Q:=fun R H avs F hC hT=>
 (h R H avs F hC hT).mono fun ex T' H' ⟨F',R',S',T1,a,b,c,d,T2,S2,w,l,e⟩=>⟨F',R',S2,T2,a,(w _ _ _ b c).1,(w _ _ _ b c).2,by rw[l,d],e⟩
theorem WkL.length:∀ {ds es:List D},WkL ds es→ds.length=es.length
 | [],[],_=>rfl
 |_::_,_::_,w=>by simp only[List.length_cons,WkL.length w.2]
 | [],_::_,w=>w.elim
 |_::_,[],w=>w.elim
theorem D6.wk{R:Fz}{S:b7}{H:AHeap}{k sz:Nat}{c c':List D}{a:List AV}(w:WkL c c')(h:D6 E R (S.set k ⟨sz,[c],a⟩) H):D6 E R (S.set k ⟨sz,[c'],a⟩) H:=by
 refine⟨h.frozen,fun j o e=> ?_⟩
 by_cases hj:j=k
 ·subst hj
  rw[b7.set_same]at e
  cases e
  obtain⟨h1,h2,h3,h4,h5⟩:=h.own j _ (b7.set_same _ _ _)
  refine⟨h1,h2,h3,fun row hr=> ?_, ?_⟩
  ·simp only[List.mem_singleton]at hr
   subst hr
   rw[←w.length]
   exact h4 c (by simp)
  ·simp only[List.flatten_cons,List.flatten_nil,List.append_nil]at h5 ⊢
   exact w.ok h5
 ·rw[b7.set_ne _ _ _ hj]at e
  exact h.own j o (by rw[b7.set_ne _ _ _ hj];exact e)
end
end Go.Am
namespace Go.Proofs.Ytchnpgddpaonhaa.d
def mo0:Mo:=⟨[],[],[]⟩
def c3F(bs:List Int):Mo×Int×Int:=
 if bs.length>2097152 then(mo0,0,3)
 else if(a4J bs).2.2≠0 then(mo0,(a4J bs).2.1,(a4J bs).2.2)
 else match b7Z (bs.take (a4J bs).1.toNat) 8 with
  | .error x=>(mo0,x.1,x.2)
  | .ok (m,_)=>if E5 m≠0 then(mo0,0,E5 m) else(m,0,0)
def a7L(r:Mo×Int×Int):D:= .tup [moD r.1, .int .i64 r.2.1, .int .i64 r.2.2]
noncomputable abbrev cL:Code:=Try.f15.body.getD .skip
noncomputable abbrev cC:Code:=l9 [1] (Try.f40.body.getD .skip)
section
variable{E:m7}{w0:o0}
def c4p(E:m7)(Q:D→b7→Prop)(p2 p3 p4:D)(S:b7):Prop:=a9 (j0 S 3 p2) fun m=>a9 (b9 S p3) fun a=>a9 (b9 S p4) fun e=>d9 E Q (.tup [m,a,e]) S
variable{Q:D→b7→Prop}{a0 p2 p3 p4 v5:D}{S:b7}
theorem d3q(h:o6 S [.nilSlc, .nilSlc, .nilSlc] fun v0 S1=>o6 S1 [.int .i64 0] fun v2 S3=>o6 S3 [.int .i64 0] fun v4 S5=>a1c Try.prog E w0 Try.f15 Q (l9 [1] cL) (n9 38 [0,2,3,4] [a0,v0,v2,v4]) S5):
  a1c Try.prog E w0 Try.f15 Q cL ([a0]++List.replicate 37 b8) S:=by
 show a1c _ _ _ _ _ (.seq (l9 [0] cL) (l9 [1] cL)) _ _
 exact b0C [0,2,3,4] (n:=38) rfl (l8 [] [] [] o7 (by kernel_rfl) h)
theorem d3w(h:a9 (p7 a0) fun v9=>a9 (d8 .gtr v9 (.int .i64 2097152)) fun v10=>j8 v10 (a9 (j0 S 3 p2) fun v11=>i9 S 3 p2 v11 fun _ S1=>i9 S1 1 p3 (.int .i64 0) fun _ S2=>i9 S2 1 p4 (.int .i64 3) fun _ S3=>c4p E Q p2 p3 p4 S3)
   (a1c Try.prog E w0 Try.f15 Q (l9 [1,1] cL) (n9 38 [0,2,3,4] [a0,p2,p3,p4]) S)):
  a1c Try.prog E w0 Try.f15 Q (l9 [1] cL) (n9 38 [0,2,3,4] [a0,p2,p3,p4]) S:=by
 show a1c _ _ _ _ _ (.seq (l9 [1,0] cL) (l9 [1,1] cL)) _ _
 exact b0C [0,2,3,4] (n:=38) rfl (l8 [] [] [] o7 (by kernel_rfl) h)
theorem d3M(h:o5 Try.prog E w0 a4Z [a0] S fun v14 S1=>a9 (o9 v14 0) fun v15=>a9 (o9 v14 1) fun v16=>a9 (o9 v14 2) fun v17=>i9 S1 1 p3 v16 fun _ S2=>i9 S2 1 p4 v17 fun _ S3=>
   a1c Try.prog E w0 Try.f15 Q (l9 [1,1,1] cL) (n9 38 [0,2,3,4,5] [a0,p2,p3,p4,v15]) S3):
  a1c Try.prog E w0 Try.f15 Q (l9 [1,1] cL) (n9 38 [0,2,3,4] [a0,p2,p3,p4]) S:=by
 show a1c _ _ _ _ _ (.seq (l9 [1,1,0] cL) (l9 [1,1,1] cL)) _ _
 exact b0C [0,2,3,4,5] (n:=38) rfl (l8 [] [] [] o7 (by kernel_rfl) h)
theorem d3u(h:a9 (b9 S p4) fun v18=>a9 (d8 .neq v18 (.int .i64 0)) fun v19=>j8 v19
   (a9 (j0 S 3 p2) fun v20=>a9 (b9 S p3) fun v21=>a9 (b9 S p4) fun v22=>i9 S 3 p2 v20 fun _ S1=>t6 p3 S S1∧t6 p4 S S1∧i9 S1 1 p3 v21 fun _ S2=>t6 p4 S S2∧i9 S2 1 p4 v22 fun _ S3=>c4p E Q p2 p3 p4 S3)
   (a1c Try.prog E w0 Try.f15 Q (l9 [1,1,1,1] cL) (n9 38 [0,2,3,4,5] [a0,p2,p3,p4,v5]) S)):
  a1c Try.prog E w0 Try.f15 Q (l9 [1,1,1] cL) (n9 38 [0,2,3,4,5] [a0,p2,p3,p4,v5]) S:=by
 show a1c _ _ _ _ _ (.seq (l9 [1,1,1,0] cL) (l9 [1,1,1,1] cL)) _ _
 exact b0C [0,2,3,4,5] (n:=38) rfl (l8 [] [] [] o7 (by kernel_rfl) h)
theorem d2W{K:List D→b7→Prop}(h:a9 (X7 1 a0 none (some v5) none) fun v26=>a9 (E6 (w6 [.nilSlc, .int .i64 0] [(0,1,v26),(1,1, .int .i64 8)])) fun v27=>a9 (r4 v27) fun cs=>o6 S cs fun v28 S1=>K (n9 38 [2,3,4,6] [p2,p3,p4,v28]) S1):
  j9 Try.prog E w0 (l9 [1,1,1,1,1,0] cL) (n9 38 [0,2,3,4,5] [a0,p2,p3,p4,v5]) S fun ex T' S'=>match ex with| .normal=>K (n9 38 [2,3,4,6] (a3d T' [2,3,4,6])) S'|_=>False:=
 l8 [] [] [] o7 (by kernel_rfl) h
theorem d3o{p6:D}{K:List D→b7→Prop}(h:a9 (j0 S 3 p2) fun v31=>o5 Try.prog E (b2t w0.w) R8 [v31] S fun v32 S1=>a9 (d8 .neq v32 (.int .i64 0)) fun v34=>j8 v34
   (i9 S1 3 p2 (.agg [.nilSlc, .nilSlc, .nilSlc]) fun _ S2=>i9 S2 1 p3 (.int .i64 0) fun _ S3=>i9 S3 1 p4 v32 fun _ S4=>K (n9 38 [2,3,4] [p2,p3,p4]) S4)
   (a9 (j0 S1 3 p2) fun v37=>i9 S1 3 p2 v37 fun _ S2=>i9 S2 1 p3 (.int .i64 0) fun _ S3=>i9 S3 1 p4 (.int .i64 0) fun _ S4=>K (n9 38 [2,3,4] [p2,p3,p4]) S4)):
  j9 Try.prog E (b2t w0.w) (l9 [1,1,1,1,1,1,1] cL) (n9 38 [2,3,4,6] [p2,p3,p4,p6]) S fun ex T' S'=>b7N (K (n9 38 [2,3,4] (a3d T' [2,3,4]))) ex S':=
 l8 [] [] [] o7 (by kernel_rfl) h
theorem c9l{d:D}{w1:o0}{K:b7→Prop}(h:a9 (b1g .neq (d2J true d .nilIfc)) fun v8=>j8 v8
   (a9 (asD a7V (.agg [.int .i64 0, .int .i64 0]) true d) fun v11=>a9 (o9 v11 0) fun v12=>a9 (o9 v11 1) fun v13=>o6 S [.int .i64 0, .int .i64 0] fun v4 S1=>i9 S1 2 v4 v12 fun _ S2=>
    a9 (unD .not v13) fun v15=>j8 v15 (a1h E w1 d S2)
     (a9 (m6 0 v4) fun v18=>a9 (b9 S2 v18) fun v19=>a9 (m6 1 v4) fun v20=>a9 (b9 S2 v20) fun v21=>i9 S2 3 p2 (.agg [.nilSlc, .nilSlc, .nilSlc]) fun _ S3=>t6 v18 S2 S3∧t6 v20 S2 S3∧
      i9 S3 1 p3 v19 fun _ S4=>t6 v20 S2 S4∧i9 S4 1 p4 v21 fun _ S5=>K S5))
   (K S)):
  j9 Try.prog E w1 cC ((([p2,p3,p4]++List.replicate (Try.f40.ntmps - [p2,p3,p4].length) b8).set 6 d).set 3 d) S fun ex _ S'=>b7N K ex S':=
 l8 [] [] [] o7 (by kernel_rfl) h
noncomputable def d2u:Array Oper:=match l9 [1,1,1,1,1,1,0] cL with
 | .region _ ops _=>ops
 |_=> #[]
theorem d2Y{w1:o0}{p6:D}{K:List D→b7→Prop}(h:o5 Try.prog E w1 a0R [p6] S fun v30 S1=>i9 S1 3 p2 v30 fun _ S2=>K (((n9 38 [2,3,4,6] [p2,p3,p4,p6]).set 29 p6).set 30 v30) S2):
  b9K Try.prog (o5 Try.prog E w1) (a1h E w1) d2u d2u.toList (n9 38 [2,3,4,6] [p2,p3,p4,p6]) S K:=Eq.mp (by kernel_rfl) h
theorem d0i{XD:D→b7→Prop}(h:j9 Try.prog E (b2t w0.w) (l9 [1,1,1,1,1,0] cL) (n9 38 [0,2,3,4,5] [a0,p2,p3,p4,v5]) S (d4v Try.prog E w0 Try.f15 Try.f40 cC 6 3 Q [p2,p3,p4] XD d2u (l9 [1,1,1,1,1,1,1] cL))):
  a1c Try.prog E w0 Try.f15 Q (l9 [1,1,1,1] cL) (n9 38 [0,2,3,4,5] [a0,p2,p3,p4,v5]) S:=
 c7i (fng:=Try.f40) (c2:=cC) (x:=6) (y:=3) (d:=23) (ks:=[2,3,4]) (caps:= #[.tmp 2, .tmp 3, .tmp 4]) (ops8:=d2u) Try.func40 rfl rfl (by decide)
  (by intro r hr;simp[Try.f15]at hr;rcases hr with rfl|rfl|rfl<;>simp) (by decide) (by decide)
  (by decide) (by rw[o3];decide) XD h
theorem d6w{rows:List (List D)}{sz h:Nat}(hh:h≤rows.length):X7 sz (.lst rows sz) none (some (.int .i64 (h:Int))) none=some (c0e (rows.take h) (rows.drop h) sz):=by
 have h1:E3 (.int .i64 (h:Int)) rows.length=some h:=by
  simp only[E3]
  rw[if_pos ⟨by omega,by omega⟩,Int.toNat_natCast]
 simp only[X7,N4,c4G,b2e,b9j,if_true,Option.bind_some,h1,Option.map_some]
 rw[List.take_of_length_le (l:=rows.drop h) (by simp)]
 simp
structure a7j (S0:b7) (k2 k3 k4:Nat) (c:List D) (a e:Int) (S:b7):Prop where
 n2:S0 k2=none
 n3:S0 k3=none
 n4:S0 k4=none
 h23:k2≠k3
 h24:k2≠k4
 h34:k3≠k4
 c2:w7 S k2 3 c
 c3:w7 S k3 1 [.int .i64 a]
 c4:w7 S k4 1 [.int .i64 e]
 le:S0.le S
section
variable{S0 S':b7}{k2 k3 k4:Nat}{c c':List D}{a a' e e':Int}
theorem a7j.up(h:a7j S0 k2 k3 k4 c a e S)(hl:S.le S'):a7j S0 k2 k3 k4 c a e S':=⟨h.n2,h.n3,h.n4,h.h23,h.h24,h.h34,h.c2.le hl,h.c3.le hl,h.c4.le hl,b7.le_trans h.le hl⟩
theorem a7j.keep(h:a7j S0 k2 k3 k4 c a e S){k:Nat}(hk:S k=none)(hl:P9 [k] S S'):a7j S0 k2 k3 k4 c a e S':=by
 have n2:k2≠k:=h.c2.none hk
 have n3:k3≠k:=h.c3.none hk
 have n4:k4≠k:=h.c4.none hk
 exact⟨h.n2,h.n3,h.n4,h.h23,h.h24,h.h34,hl.cel (by simpa using n2) h.c2,hl.cel (by simpa using n3) h.c3,hl.cel (by simpa using n4) h.c4,hl.le h.le fun j hj=>by simp at hj;subst hj;exact b7.none_of h.le hk⟩
theorem a7j.l0(h:a7j S0 k2 k3 k4 c a e S){k:Nat}(hk:S0 k=none)(o:M4):S0.le (S.set k o):=fun j x hx=>by
 rw[b7.set_ne _ _ _ fun e=>by rw[e,hk]at hx;cases hx];exact h.le _ _ hx
theorem a7j.st2(h:a7j S0 k2 k3 k4 c a e S)(hc:c.length=3){v:D}(hv:r4 v=some c')(hc':c'.length=3){K:D→b7→Prop}(hK:∀S',a7j S0 k2 k3 k4 c' a e S'→(∀j,j≠k2→S' j=S j)→K b8 S'):i9 S 3 (.ptr k2 0) v K:=
 h.c2.st hv ⟨hc',by decide,by omega⟩ fun x=>hK _ (by
  have e1:o8 c 0 c'=c':=by
   match c,c',hc,hc' with
   | [a,b,c],[d,e,f],_,_=>rfl
  rw[e1]
  exact⟨h.n2,h.n3,h.n4,h.h23,h.h24,h.h34,w7.new,w7.set_ne h.c3 h.h23.symm,w7.set_ne h.c4 h.h24.symm,h.l0 h.n2 _⟩) fun j hj=>b7.set_ne _ _ _ hj
theorem a7j.st3(h:a7j S0 k2 k3 k4 c a e S){K:D→b7→Prop}(hK:∀S',a7j S0 k2 k3 k4 c a' e S'→(∀j,j≠k3→S' j=S j)→K b8 S'):i9 S 1 (.ptr k3 0) (.int .i64 a') K:=
 h.c3.st (clI _ _) ⟨rfl,by decide,by simp⟩ fun x=>hK _ ⟨h.n2,h.n3,h.n4,h.h23,h.h24,h.h34,w7.set_ne h.c2 h.h23,w7.new,w7.set_ne h.c4 h.h34.symm,h.l0 h.n3 _⟩ fun j hj=>b7.set_ne _ _ _ hj
theorem a7j.st4(h:a7j S0 k2 k3 k4 c a e S){K:D→b7→Prop}(hK:∀S',a7j S0 k2 k3 k4 c a e' S'→K b8 S'):i9 S 1 (.ptr k4 0) (.int .i64 e') K:=
 h.c4.st (clI _ _) ⟨rfl,by decide,by simp⟩ fun x=>hK _ ⟨h.n2,h.n3,h.n4,h.h23,h.h24,h.h34,w7.set_ne h.c2 h.h24,w7.set_ne h.c3 h.h34,w7.new,h.l0 h.n4 _⟩
theorem a7j.fin(h:a7j S0 k2 k3 k4 c a e S)(hc:c.length=3){m:Mo}(w:Wk (.agg c) (moD m)){r:D}(hr:a7L (m,a,e)=r):c4p E (fun d S'=>d=r∧S'=S0) (.ptr k2 0) (.ptr k3 0) (.ptr k4 0) S:=by
 unfold c4p
 rw[h.c2.all (n:=3) (by decide) hc.symm,oD,h.c3.ld,List.getElem?_cons_zero,oD,h.c4.ld,List.getElem?_cons_zero,oD]
 subst hr
 exact d9.weak (Wk.tup (es:=[moD m, .int .i64 a, .int .i64 e]) ⟨w,Wk.refl _,Wk.refl _,trivial⟩) (d9.less h.le (d9.here ⟨rfl,rfl⟩))
end
theorem c5k:Wk (.agg [.nilSlc, .nilSlc, .nilSlc]) (moD mo0):=Wk.agg ⟨Wk.nil _,Wk.nil _,Wk.nil _,trivial⟩
theorem c3s{p2 p3 p4:D}{T:List D}(hT:T.getD 2 b8=p2∧T.getD 3 b8=p3∧T.getD 4 b8=p4){S:b7}(h:c4p E Q p2 p3 p4 S):c0J Try.prog E w0 Try.f15 Try.f40 cC 6 3 Q [p2,p3,p4] .nilIfc T S:=by
 obtain⟨rfl,rfl,rfl⟩:=hT
 refine(c9l (w1:=b2t w0.w) (d:= .nilIfc) (K:=fun S'=>c4p E Q (T.getD 2 b8) (T.getD 3 b8) (T.getD 4 b8) S') (by
  have e0:b1g .neq (d2J true .nilIfc .nilIfc)=some (.bool false):=rfl
  rw[e0,oD,cdF]
  exact h)).mono fun ex _ S' _ hq=> ?_
 cases ex with
 |normal=>exact hq
 |ret=>exact hq
 |exit id=>exact hq
theorem c6Y{T:List D}{S0:b7}{k2 k3 k4:Nat}(hT:T.getD 2 b8= .ptr k2 0∧T.getD 3 b8= .ptr k3 0∧T.getD 4 b8= .ptr k4 0){c:List D}(hc:c.length=3){a e:Int}(h:a7j S0 k2 k3 k4 c a e S)(x:Flt):
  c0J Try.prog E w0 Try.f15 Try.f40 cC 6 3 (fun d S'=>d=a7L (mo0,x.1,x.2)∧S'=S0) [.ptr k2 0, .ptr k3 0, .ptr k4 0] (b4L x) T S:=by
 refine(c9l (w1:=b2t w0.w) (K:=fun S'=>c4p E (fun d S'=>d=a7L (mo0,x.1,x.2)∧S'=S0) (.ptr k2 0) (.ptr k3 0) (.ptr k4 0) S') ?_).mono fun ex _ S' _ hq=> ?_
 ·have e0:b1g .neq (d2J true (b4L x) .nilIfc)=some (.bool true):=rfl
  have e1:asD a7V (.agg [.int .i64 0, .int .i64 0]) true (b4L x)=some (.tup [.agg [.int .i64 x.1, .int .i64 x.2], .bool true]):=by
   simp[b4L,asD]
  rw[e0,oD,cdT,e1,oD,exD,List.getElem?_cons_zero,oD,exD,List.getElem?_cons_succ,List.getElem?_cons_zero,oD]
  intro k5 a5 n5
  have h5:=h.up (b7.le_set (o:=⟨2,[[.int .i64 0, .int .i64 0]],a5⟩) (b7.le_refl S) n5)
  have d2:k2≠k5:=h.c2.none n5
  have d3:k3≠k5:=h.c3.none n5
  have d4:k4≠k5:=h.c4.none n5
  have c5:w7 (S.set k5 ⟨2,[[.int .i64 0, .int .i64 0]],a5⟩) k5 2 [.int .i64 0, .int .i64 0]:=w7.new
  have n0:S0 k5=none:=b7.none_of h.le n5
  refine c5.st (ds:=[.int .i64 x.1, .int .i64 x.2]) rfl ⟨rfl,by decide,by simp⟩ fun a6=> ?_
  rw[b7.set_set]
  have h6:=h.up (b7.le_set (o:=⟨2,[[.int .i64 x.1, .int .i64 x.2]],a6⟩) (b7.le_refl S) n5)
  have c6:w7 (S.set k5 ⟨2,[[.int .i64 x.1, .int .i64 x.2]],a6⟩) k5 2 [.int .i64 x.1, .int .i64 x.2]:=w7.new
  have e2:unD .not (.bool true)=some (.bool false):=rfl
  have e3:o8 [.int .i64 0, .int .i64 0] 0 [.int .i64 x.1, .int .i64 x.2]=[.int .i64 x.1, .int .i64 x.2]:=rfl
  rw[e2,oD,cdF,e3]
  generalize S.set k5 ⟨2,[[.int .i64 x.1, .int .i64 x.2]],a6⟩=S6 at h6 c6 ⊢
  simp only[H5,oD,Nat.zero_add,Nat.add_zero,c6.ld,List.getElem?_cons_zero,List.getElem?_cons_succ]
  refine h6.st2 hc (v:= .agg [.nilSlc, .nilSlc, .nilSlc]) (c':=[.nilSlc, .nilSlc, .nilSlc]) rfl rfl fun S7 h7 e7=> ?_
  refine⟨e7 k5 d2.symm,e7 k5 d2.symm, ?_⟩
  refine h7.st3 (a':=x.1) fun S8 h8 e8=> ?_
  refine⟨(e8 k5 d3.symm).trans (e7 k5 d2.symm), ?_⟩
  refine h8.st4 (e':=x.2) fun S9 h9=> ?_
  exact h9.fin rfl c5k rfl
 ·obtain⟨e1,e2,e3⟩:=hT
  have:∀S',c4p E (fun d S'=>d=a7L (mo0,x.1,x.2)∧S'=S0) (.ptr k2 0) (.ptr k3 0) (.ptr k4 0) S'→d2m Try.prog E Try.f15 (fun d S'=>d=a7L (mo0,x.1,x.2)∧S'=S0) T .normal S':=fun S' h'=>by
   rw[←e1, ←e2, ←e3]at h'
   exact h'
  cases ex with
  |normal=>exact this _ hq
  |ret=>exact this _ hq
  |exit id=>exact hq
theorem d1K{bs:List Int}(he:(a4J bs).2.2=0):∃n:Nat,(a4J bs).1=(n:Int)∧8≤n∧n≤bs.length:=by
 unfold a4J at he ⊢
 split at he
 ·rename_i a e h
  exfalso
  have:∀ {cs bs:List Int} {i:Nat},b9m bs cs i=some (a,e)→e≠0:=by
   intro cs
   induction cs with
   |nil=>intro bs i h;cases bs<;>simp[b9m]at h
   |cons c cs ih=>
    intro bs i h
    cases bs with
    |nil=>simp only[b9m,Option.some.injEq,Prod.mk.injEq]at h;omega
    |cons b bs=>
     rw[b9m]at h
     split at h
     ·simp only[Option.some.injEq,Prod.mk.injEq]at h;omega
     ·exact ih h
  exact this h he
 ·unfold d2g at he ⊢
  split
  ·rename_i h1;rw[if_pos h1]at he;simp at he
  ·rename_i h1
   rw[if_neg h1]at he
   split
   ·rename_i h2;rw[if_pos h2]at he;simp at he
   ·rename_i h2
    rw[if_neg h2]at he
    split
    ·rename_i h3;rw[if_pos h3]at he;simp at he
    ·exact⟨_,rfl,by omega,by omega⟩
theorem d0K{bs:List Int}(hb:∀b∈bs,K4 b){n:Nat}(hn8:8≤n)(hnl:n≤bs.length)(hl:bs.length<2^30){S0 S3:b7}{k2 k3 k4:Nat}{a e:Int}(h3:a7j S0 k2 k3 k4 [.nilSlc, .nilSlc, .nilSlc] a e S3){r:Mo×Int×Int}
  (hr:(match b7Z (bs.take n) 8 with
    | .error x=>(mo0,x.1,x.2)
    | .ok (m,_)=>if E5 m≠0 then(mo0,0,E5 m) else(m,0,0))=r):
  a1c Try.prog E w0 Try.f15 (fun d S'=>d=a7L r∧S'=S0) (l9 [1,1,1,1] cL) (n9 38 [0,2,3,4,5] [bD bs, .ptr k2 0, .ptr k3 0, .ptr k4 0, .int .i64 (n:Int)]) S3:=by
 have hbt:∀b∈bs.take n,K4 b:=fun b h=>hb b (List.mem_of_mem_take h)
 have hlt:(bs.take n).length=n:=by rw[List.length_take];omega
 refine d0i (XD:=fun e S''=>∃x,b7Z (bs.take n) 8= .error x∧e=b4L x∧S3.le S'') (j9.post ((d2W (K:=fun T' S'=>∃S'',(∀R H,D6 E R S' H→D6 E R S'' H)∧d4v Try.prog E w0 Try.f15 Try.f40 cC 6 3 (fun d S'=>d=a7L r∧S'=S0) [.ptr k2 0, .ptr k3 0, .ptr k4 0] (fun e S''=>∃x,b7Z (bs.take n) 8= .error x∧e=b4L x∧S3.le S'') d2u (l9 [1,1,1,1,1,1,1] cL) .normal T' S'') ?_).mono fun ex T' S' hT hq=> ?_))
 rotate_left
 ·cases ex with
  |exit id=>exact hq.elim
  |ret=>exact hq.elim
  |normal=>
   obtain⟨S'',w,hq⟩:=hq
   have h38:T'.length=38:=by rw[hT,o3]
   exact⟨n9 38 [2,3,4,6] (a3d T' [2,3,4,6]),S'',fun R H avs hC hr=>⟨w R H hC,by rw[←h38];exact c5P hr _⟩,by rw[o3,h38],hq⟩
 have hsl:=d6w (rows:=B0 (bs.map (D.int .u8))) (sz:=1) (h:=n) (by simp[B0];omega)
 change X7 1 (bD bs) _ _ _=_ at hsl
 have htk:(B0 (bs.map (D.int .u8))).take n=B0 ((bs.take n).map (D.int .u8)):=by simp[B0,List.map_take]
 rw[hsl,oD,htk]
 have hw:=c4F (B0 ((bs.take n).map (D.int .u8))) ((B0 (bs.map (D.int .u8))).drop n) 1
 have hcl:∀(rows more:List (List D)),r4 (c0e rows more 1)=some [c0e rows more 1]:=fun rows more=>by cases more<;>rfl
 generalize hx:c0e (B0 ((bs.take n).map (D.int .u8))) ((B0 (bs.map (D.int .u8))).drop n) 1=xd at hw ⊢
 have hcx:r4 xd=some [xd]:=by rw[←hx];exact hcl _ _
 have hf:E6 (w6 [.nilSlc, .int .i64 0] [(0,1,xd),(1,1, .int .i64 8)])=some (.agg [xd, .int .i64 8]):=by
  simp only[w6,hcx,clI]
  rfl
 rw[hf,oD,clA,oD]
 intro k6 a6 n6
 refine⟨S3.set k6 ⟨2,[[bD (bs.take n), .int .i64 8]],a6⟩,fun R H hC=>D6.wk (c:=[xd, .int .i64 8]) ⟨hw,Wk.refl _,trivial⟩ hC,d2Y ?_, ?_⟩
 rotate_left
 ·rintro _ S'' ⟨x,ex,rfl,hle⟩
  rw[ex]at hr
  subst hr
  exact c6Y ⟨rfl,rfl,rfl⟩ rfl (h3.up hle) x
 have hrd:=c4A (E:=E) (w0:=(⟨w0.w,fun e S''=>∃x,b7Z (bs.take n) 8= .error x∧e=b4L x∧S3.le S''⟩:o0)) hbt (by omega) S3 k6 8 (S3.set k6 ⟨2,[[bD (bs.take n), .int .i64 8]],a6⟩) (b7.le_new n6) n6 (by omega) w7.new fun x S' e hle=>⟨⟨_,_,rfl⟩,x,e,rfl,hle⟩
 refine hrd.use fun v S5 ⟨m,q,e,h1,h2,hv,hR,hk⟩=> ?_
 subst hv
 rw[e]at hr
 simp only at hr
 have h5:=h3.keep n6 ((P9.new n6 _).trans hk)
 refine h5.st2 rfl (v:=moD m) (c':=moC m) rfl rfl fun S6 h6 _=> ?_
 refine r9 [2,3,4,6] (n:=38) rfl ((d3o (p2:= .ptr k2 0) (p3:= .ptr k3 0) (p4:= .ptr k4 0) (p6:= .ptr k6 0) (K:=fun T S=>(T.getD 2 b8= .ptr k2 0∧T.getD 3 b8= .ptr k3 0∧T.getD 4 b8= .ptr k4 0)∧c4p E (fun d S'=>d=a7L r∧S'=S0) (.ptr k2 0) (.ptr k3 0) (.ptr k4 0) S) ?_).mono fun ex T' S' hT hq=> ?_)
 rotate_left
 ·cases ex with
  |exit id=>exact hq
  |normal=>exact c3s (T:=T') hq.1 hq.2
  |ret=>exact c3s (T:=T') hq.1 hq.2
 rw[h6.c2.all (n:=3) (by decide) rfl,oD]
 refine(show o5 Try.prog E (b2t w0.w) R8 [moD m] S6 _ from(a6b (d0F hbt e)).use ?_)
 rw[b0B,oD]
 by_cases hs:E5 m=0
 ·rw[show(E5 m != 0)=false by simp[hs],cdF]
  rw[if_neg (by simp[hs])]at hr
  rw[h6.c2.all (n:=3) (by decide) rfl,oD]
  refine h6.st2 rfl (v:=moD m) (c':=moC m) rfl rfl fun S7 h7 _=> ?_
  refine h7.st3 (a':=0) fun S8 h8 _=> ?_
  refine h8.st4 (e':=0) fun S9 h9=> ?_
  exact⟨⟨rfl,rfl,rfl⟩,h9.fin rfl (Wk.refl _) (by rw[hr])⟩
 ·rw[show(E5 m != 0)=true by simp[hs],cdT]
  rw[if_pos hs]at hr
  refine h6.st2 rfl (v:= .agg [.nilSlc, .nilSlc, .nilSlc]) (c':=[.nilSlc, .nilSlc, .nilSlc]) rfl rfl fun S7 h7 _=> ?_
  refine h7.st3 (a':=0) fun S8 h8 _=> ?_
  refine h8.st4 (e':=E5 m) fun S9 h9=> ?_
  exact⟨⟨rfl,rfl,rfl⟩,h9.fin rfl c5k (by rw[hr])⟩
theorem c3k{bs:List Int}(hb:∀b∈bs,K4 b)(hl:bs.length<2^40):X6 Try.prog E w0 b6y [bD bs] (a7L (c3F bs)):=fun S0=>by
 refine c7W (c:=cL) Try.func15 rfl (d3q ?_)
 intro k2 a2 n2 k3 a3 n3 k4 a4 n4
 have d23:k3≠k2:=(b7.fresh n3).1
 have n3':=(b7.fresh n3).2
 have d34:k4≠k3:=(b7.fresh n4).1
 have n4':=(b7.fresh n4).2
 have d24:k4≠k2:=(b7.fresh n4').1
 have n4'':=(b7.fresh n4').2
 have h0:a7j S0 k2 k3 k4 [.nilSlc, .nilSlc, .nilSlc] 0 0 (((S0.set k2 ⟨3,[[.nilSlc, .nilSlc, .nilSlc]],a2⟩).set k3 ⟨1,[[.int .i64 0]],a3⟩).set k4 ⟨1,[[.int .i64 0]],a4⟩):=
  ⟨n2,n3',n4'',d23.symm,d24.symm,d34.symm,w7.set_ne (w7.set_ne w7.new d23.symm) d24.symm,w7.set_ne w7.new d34.symm,w7.new,b7.le_set (b7.le_set (b7.le_new n2) n3') n4''⟩
 show a1c _ _ _ _ _ _ _ (((S0.set k2 ⟨3,[[.nilSlc, .nilSlc, .nilSlc]],a2⟩).set k3 ⟨1,[[.int .i64 0]],a3⟩).set k4 ⟨1,[[.int .i64 0]],a4⟩)
 generalize ((S0.set k2 ⟨3,[[.nilSlc, .nilSlc, .nilSlc]],a2⟩).set k3 ⟨1,[[.int .i64 0]],a3⟩).set k4 ⟨1,[[.int .i64 0]],a4⟩=S1 at h0 ⊢
 refine d3w ?_
 rw[M6,oD,a3U,oD,J6]
 refine⟨fun hgt=> ?_,fun hle=> ?_⟩
 ·rw[h0.c2.all (n:=3) (by decide) rfl,oD]
  refine h0.st2 rfl (v:= .agg [.nilSlc, .nilSlc, .nilSlc]) (c':=[.nilSlc, .nilSlc, .nilSlc]) rfl rfl fun S2 h2 _=> ?_
  refine h2.st3 (a':=0) fun S3 h3 _=> ?_
  refine h3.st4 (e':=3) fun S4 h4=> ?_
  refine h4.fin rfl c5k ?_
  unfold c3F
  rw[if_pos (by omega)]
 have eL:c3F bs=if(a4J bs).2.2≠0 then(mo0,(a4J bs).2.1,(a4J bs).2.2)
   else match b7Z (bs.take (a4J bs).1.toNat) 8 with
    | .error x=>(mo0,x.1,x.2)
    | .ok (m,_)=>if E5 m≠0 then(mo0,0,E5 m) else(m,0,0):=by
  unfold c3F;rw[if_neg (by omega)]
 rw[eL]
 refine d3M ((b7F hb hl).use ?_)
 unfold d5s
 rw[exD,List.getElem?_cons_zero,oD,exD,List.getElem?_cons_succ,List.getElem?_cons_zero,oD,exD,List.getElem?_cons_succ,List.getElem?_cons_succ,List.getElem?_cons_zero,oD]
 refine h0.st3 (a':=(a4J bs).2.1) fun S2 h2 _=> ?_
 refine h2.st4 (e':=(a4J bs).2.2) fun S3 h3=> ?_
 refine d3u ?_
 rw[h3.c4.ld,List.getElem?_cons_zero,oD,b0B,oD]
 by_cases he:(a4J bs).2.2=0
 rotate_left
 ·rw[show((a4J bs).2.2 != 0)=true by simp[he],cdT,if_pos he]
  rw[h3.c2.all (n:=3) (by decide) rfl,oD,h3.c3.ld,List.getElem?_cons_zero,oD,oD]
  refine h3.st2 rfl (v:= .agg [.nilSlc, .nilSlc, .nilSlc]) (c':=[.nilSlc, .nilSlc, .nilSlc]) rfl rfl fun S4 h4 e4=> ?_
  refine⟨e4 k3 h3.h23.symm,e4 k4 h3.h24.symm, ?_⟩
  refine h4.st3 (a':=(a4J bs).2.1) fun S5 h5 e5=> ?_
  refine⟨(e5 k4 h3.h34.symm).trans (e4 k4 h3.h24.symm), ?_⟩
  refine h5.st4 (e':=(a4J bs).2.2) fun S6 h6=> ?_
  exact h6.fin rfl c5k rfl
 rw[show((a4J bs).2.2 != 0)=false by simp[he],cdF,if_neg (by simp[he])]
 obtain⟨n,hn,hn8,hnl⟩:∃n:Nat,(a4J bs).1=(n:Int)∧8≤n∧n≤bs.length:=d1K he
 rw[hn,Int.toNat_natCast]
 exact d0K hb hn8 hnl (by omega) h3 rfl
end
end Go.Proofs.Ytchnpgddpaonhaa.d
end
section
open Go.Proofs Go Go.Am Go.Op
namespace Go.Proofs.Ytchnpgddpaonhaa.d
section
theorem c8E(l:List Int):0≤a5A l∧a5A l<4294967296:=by
 unfold a5A
 show 0≤(_:Int) % 4294967296∧(_:Int) % 4294967296<4294967296
 exact⟨Int.emod_nonneg _ (by decide),Int.emod_lt_of_pos _ (by decide)⟩
def b0j(L:Int)(body:List Int)(s:Int):List Int:=[84,82,77,1]++(F6 L 4++(body++F6 s 4))
theorem b7V(L:Int)(body:List Int)(s:Int):(b0j L body s).length=body.length+12:=by
 simp only[b0j,List.length_append,u4,List.length_cons,List.length_nil];omega
theorem d3t(L:Int)(body:List Int)(s:Int):((b0j L body s).drop 4).take 4=F6 L 4:=by
 show(F6 L 4++(body++F6 s 4)).take 4=_
 rw[List.take_left' (u4 _ _)]
theorem c4m(L:Int)(body:List Int)(s:Int):(b0j L body s).drop 8=body++F6 s 4:=by
 rw[show(8:Nat)=4+4 from rfl, ←List.drop_drop]
 show(F6 L 4++(body++F6 s 4)).drop 4=_
 rw[List.drop_left' (u4 _ _)]
theorem d3F(L:Int)(body:List Int)(s:Int):(b0j L body s).drop (8+body.length)=F6 s 4:=by
 rw[←List.drop_drop,c4m,List.drop_left]
theorem d1h{body:List Int}(hl:body.length≤2097140):a4J (b0j body.length body (a5A body))=(((8+body.length:Nat):Int),0,0):=by
 have hm:b9m (b0j body.length body (a5A body)) a1p 0=none:=rfl
 have hL:leN (F6 (body.length:Int) 4)=body.length:=by
  have:=c0l 4 (body.length:Int)
  omega
 obtain⟨s0,s1⟩:=c8E body
 have hS:(leN (F6 (a5A body) 4):Int)=a5A body:=by
  have:=c0l 4 (a5A body)
  omega
 unfold a4J
 rw[hm]
 simp only
 unfold d2g
 rw[d3t,hL,b7V,c4m,List.take_left,d3F,List.take_of_length_le (by rw[u4];exact Nat.le_refl _),hS]
 rw[if_neg (by omega),if_neg (by omega),if_neg (by simp)]
theorem c3J{m:Mo}(h:(a2u m).2=0):E5 m=0∧(F0 m).length≤2097140∧(a2u m).1=b0j (F0 m).length (F0 m) (a5A (F0 m)):=by
 unfold a2u at h ⊢
 split at h
 ·rename_i h0;exact(h0 h).elim
 rename_i h0
 split at h
 ·cases h
 rename_i h1
 rw[if_neg h0,if_neg h1]
 exact⟨Classical.not_not.1 h0,by omega,rfl⟩
theorem d2F{m:Mo}(hm:m.Ok)(h:(a2u m).2=0):c3F (a2u m).1=(m,0,0):=by
 obtain⟨hs,hl,he⟩:=c3J h
 rw[he]
 have hlen:=b7V (F0 m).length (F0 m) (a5A (F0 m))
 unfold c3F
 rw[if_neg (by omega),d1h hl,if_neg (by simp)]
 simp only[Int.toNat_natCast]
 have htl:((b0j (F0 m).length (F0 m) (a5A (F0 m))).take (8+(F0 m).length)).length=8+(F0 m).length:=by rw[List.length_take];omega
 rw[d0h (m:=m) (d1U hm hs) (by omega) (by rw[List.drop_take,c4m,Nat.add_sub_cancel_left,List.take_left])]
 simp only
 rw[if_neg (by simp[hs])]
end
section
theorem Mo.Small.fits{m:Mo}{N:Nat}(hm:m.Ok)(h:m.Small N)(hN:N<2^30):m.Fits:=
 ⟨hm,by have:=h.types;omega,by have:=h.texts;omega,by have:=h.funcs;omega,fun t ht=>by have:=h.fields t ht;omega,fun r hr=>by have:=h.params r hr;omega⟩
end
end Go.Proofs.Ytchnpgddpaonhaa.d
end
section
open Go.Proofs Go Go.Am
namespace Go.Proofs.Ytchnpgddpaonhaa.d
def c1J:List (Nat×List Nat):=[]
def c1W:List (Nat×List Nat):=[]
def c0x:List (Nat×X5):=[]
def b4b(E:m7)(w0:o0)(Q:D→b7→Prop)(S:b7):Prop:=
 a9 (E6 (w6 [.nilSlc, .nilSlc, .nilSlc] [])) fun v0=>
 o5 Try.prog E w0 Y1 [v0] S fun v1 S2=>
 a9 (o9 v1 0) fun v3=>
 a9 (o9 v1 1) fun v4=>
 a9 (d8 .eql v4 (.int .i64 0)) fun v5=>
 a9 (f0 (d6 v5 true) (some v3)) fun v6=>
 a9 (f0 (d6 v5 true) (b0x S2 v6)) fun v7=>
 a9 (f0 (d6 v5 true) (b5U .eql v7 (.str [84,82,77,1,3,0,0,0,0,0,0,18,217,65,255]))) fun v8=>
 a9 (t8 v5 v8 (.bool false)) fun v9=>
 Q v9 S2
theorem b7v{E:m7}{w0:o0}{Q:D→b7→Prop}{S:b7}(h:b4b E w0 (d9 E Q) S):o5 Try.prog E w0 a0G [] S Q:=
 m9 c1J c1W c0x (fn:=Try.f10) (c:=Try.f10.body.getD .skip) o7 Try.func10 (by kernel_rfl) (by kernel_rfl) h
end Go.Proofs.Ytchnpgddpaonhaa.d
end
section
open Go.Proofs Go Go.Am Go.Op
namespace Go.Proofs.Ytchnpgddpaonhaa.d
section
variable{E:m7}{w0:o0}
theorem d4l:(⟨[],[],[]⟩:Mo).Ok:=by constructor<;>simp
theorem d6o:a2u ⟨[],[],[]⟩=([84,82,77,1,3,0,0,0,0,0,0,18,217,65,255],0):=by kernel_rfl
theorem b4B:X6 Try.prog E w0 a0G [] (.bool true):=fun S=>by
 refine b7v ?_
 unfold b4b
 have e:E6 (w6 [.nilSlc, .nilSlc, .nilSlc] [])=some (.agg [.nilSlc, .nilSlc, .nilSlc]):=rfl
 rw[e,oD]
 have fm:(⟨[],[],[]⟩:Mo).Fits:=Mo.Small.fits (N:=0) d4l (by constructor<;>simp) (by decide)
 refine DF.weak (es:=[moD ⟨[],[],[]⟩]) ⟨Wk.agg ⟨Wk.nil _,Wk.nil _,Wk.nil _,trivial⟩,trivial⟩ ((a4X fm).use ?_)
 simp only[d6o,exD,List.getElem?_cons_zero,List.getElem?_cons_succ,oD,a5k,decide_true,R7,vdT,gdT,c9n,show((true==true)=true) from rfl]
 have eb:b5U .eql (.str (a8P [84,82,77,1,3,0,0,0,0,0,0,18,217,65,255])) (.str [84,82,77,1,3,0,0,0,0,0,0,18,217,65,255])=some (.bool true):=rfl
 simp only[eb,oD,U3,if_true]
 exact d9.pure
end
end Go.Proofs.Ytchnpgddpaonhaa.d
end
section
open Go.Proofs Go Go.Am
namespace Go.Proofs.Ytchnpgddpaonhaa.d
def b4O:List (Nat×List Nat):=[]
def b4K:List (Nat×List Nat):=[]
def b5n:List (Nat×X5):=[]
def a7t(E:m7)(w0:o0)(Q:D→b7→Prop)(a0:D)(S:b7):Prop:=
 a9 (r4 a0) fun cs=>o6 S cs fun v0 S1=>
 a9 (j0 S1 3 v0) fun v2=>
 o5 Try.prog E w0 b4W [v2,(.int .i64 100000)] S1 fun v3 S4=>
 a9 (d8 .gtr v3 (.int .i64 100000)) fun v5=>
 j8 v5
 (o5 Try.prog E w0 a0G [] S4 fun v6 S7=>
 Q v6 S7)
 (a9 (j0 S4 3 v0) fun v8=>
 o5 Try.prog E w0 Y1 [v8] S4 fun v9 S10=>
 a9 (o9 v9 0) fun v11=>
 a9 (o9 v9 1) fun v12=>
 a9 (d8 .neq v12 (.int .i64 0)) fun v13=>
 j8 v13
 (a9 (p7 v11) fun v14=>
 a9 (d8 .eql v14 (.int .i64 0)) fun v15=>
 a9 (f0 (d6 v15 true) (some v12)) fun v16=>
 a9 (f0 (d6 v15 true) (j0 S10 3 v0)) fun v17=>
 a0N (d6 v15 true) (fun K=>o5 Try.prog E w0 a4m [v17] S10 K) S10 fun v18 S19=>
 a9 (f0 (d6 v15 true) (d8 .eql v16 v18)) fun v20=>
 a9 (t8 v15 v20 (.bool false)) fun v21=>
 a0N (d6 v21 true) (fun K=>o5 Try.prog E w0 a0G [] S19 K) S19 fun v22 S23=>
 a9 (t8 v21 v22 (.bool false)) fun v24=>
 Q v24 S23)
 (o5 Try.prog E w0 b6y [v11] S10 fun v25 S26=>
 a9 (o9 v25 0) fun v27=>
 a9 (o9 v25 1) fun v28=>
 a9 (o9 v25 2) fun v29=>
 o6 S26 [.nilSlc, .nilSlc, .nilSlc] fun v30 S31=>
 i9 S31 3 v30 v27 fun v32 S33=>
 a9 (d8 .eql v29 (.int .i64 0)) fun v34=>
 a9 (f0 (d6 v34 true) (some v28)) fun v35=>
 a9 (f0 (d6 v34 true) (d8 .eql v35 (.int .i64 0))) fun v36=>
 a9 (t8 v34 v36 (.bool false)) fun v37=>
 a9 (f0 (d6 v37 true) (j0 S33 3 v0)) fun v38=>
 a9 (f0 (d6 v37 true) (j0 S33 3 v30)) fun v39=>
 a0N (d6 v37 true) (fun K=>o5 Try.prog E w0 a4e [v38,v39] S33 K) S33 fun v40 S41=>
 a9 (t8 v37 v40 (.bool false)) fun v42=>
 a9 (f0 (d6 v42 true) (some v11)) fun v43=>
 a9 (f0 (d6 v42 true) (p7 v43)) fun v44=>
 a9 (f0 (d6 v42 true) (d8 .leq v44 (.int .i64 2097152))) fun v45=>
 a9 (t8 v42 v45 (.bool false)) fun v46=>
 a9 (f0 (d6 v46 true) (j0 S41 3 v30)) fun v47=>
 a0N (d6 v46 true) (fun K=>o5 Try.prog E w0 a4m [v47] S41 K) S41 fun v48 S49=>
 a9 (f0 (d6 v46 true) (d8 .eql v48 (.int .i64 0))) fun v50=>
 a9 (t8 v46 v50 (.bool false)) fun v51=>
 a0N (d6 v51 true) (fun K=>o5 Try.prog E w0 a0G [] S49 K) S49 fun v52 S53=>
 a9 (t8 v51 v52 (.bool false)) fun v54=>
 Q v54 S53))
theorem b2O{E:m7}{w0:o0}{Q:D→b7→Prop}{a0:D}{S:b7}(h:a7t E w0 (d9 E Q) a0 S):o5 Try.prog E w0 a7o [a0] S Q:=
 m9 b4O b4K b5n (fn:=Try.f7) (c:=Try.f7.body.getD .skip) o7 Try.func7 (by kernel_rfl) (by kernel_rfl) h
end Go.Proofs.Ytchnpgddpaonhaa.d
end
section
open Go.Proofs Go Go.Am Go.Op
namespace Go.Proofs.Ytchnpgddpaonhaa.d
section
variable{E:m7}{w0:o0}
theorem t11:(true==true)=true:=rfl
theorem d2H{m:Mo}(h:(a2u m).2≠0):(a2u m).1=[]:=by
 unfold a2u at h ⊢
 split
 ·rfl
 ·split
  ·rfl
  ·rename_i h1 h2;rw[if_neg h1,if_neg h2]at h;exact(h rfl).elim
theorem c2e{m:Mo}(hm:m.Ok){S:b7}:o5 Try.prog E w0 a7o [moD m] S fun v _=>v= .bool true:=by
 refine b2O ?_
 unfold a7t
 rw[moD,clA,oD]
 intro k c n
 generalize hS1:S.set k _=S1
 have h0:w7 S1 k 3 (moC m):=by rw[←hS1];exact w7.new
 have l0:j0 S1 3 (.ptr k 0)=some (moD m):=h0.all (by decide) rfl
 rw[l0,oD]
 refine(c7o hm (N:=100000) (by decide)).use ?_
 rintro v S' ⟨rfl,b1,rfl,s1⟩
 rw[a3U,oD,J6]
 have wk:∀ {S':b7},o5 Try.prog E w0 a0G [] S' fun v13 S14=>d9 E (fun v _=>v= .bool true) v13 S14:=b4B.use (d9.here rfl)
 refine⟨fun _=>wk,fun hle=> ?_⟩
 have fm:=Mo.Small.fits hm (s1 (by omega)) (by decide)
 rw[l0,oD]
 refine(a4X fm).use ?_
 simp only[exD,oD,List.getElem?_cons_zero,List.getElem?_cons_succ,b0B]
 by_cases he:(a2u m).2=0
 ·obtain⟨hs,hl,hw⟩:=c3J he
  have hlen:(a2u m).1.length≤2097152:=by rw[hw,b7V];omega
  rw[show((a2u m).2 != 0)=false by simp[he],cdF]
  refine(c3k (d1f hm) (by omega)).use ?_
  rw[d2F hm he]
  unfold a7L
  simp only[exD,oD,List.getElem?_cons_zero,List.getElem?_cons_succ]
  intro k2 c2 n2
  have hne:k≠k2:=h0.none n2
  have c2':w7 (S'.set k2 ⟨3,[[.nilSlc, .nilSlc, .nilSlc]],c2⟩) k2 3 [.nilSlc, .nilSlc, .nilSlc]:=w7.new
  refine c2'.st (ds:=moC m) rfl ⟨rfl,by decide,by simp⟩ fun a3=> ?_
  rw[b7.set_set]
  have e3:o8 [.nilSlc, .nilSlc, .nilSlc] 0 (moC m)=moC m:=rfl
  rw[e3]
  generalize hS2:S'.set k2 _=S2
  have h2:w7 S2 k2 3 (moC m):=by rw[←hS2];exact w7.new
  have h02:w7 S2 k 3 (moC m):=by rw[←hS2];exact h0.set n2
  have l2:j0 S2 3 (.ptr k2 0)=some (moD m):=h2.all (by decide) rfl
  have l02:j0 S2 3 (.ptr k 0)=some (moD m):=h02.all (by decide) rfl
  simp only[a0E,oD,R7,vdT,U3,if_true,t11,l2,l02,gdT,show((0:Int)==0)=true from rfl]
  refine(b6z hm hm).use ?_
  simp only[decide_true,oD,R7,vdT,U3,if_true,t11,M6,d1E,decide_eq_true (show((a2u m).1.length:Int)≤2097152 by omega),l2,gdT]
  refine(b2z fm).use ?_
  simp only[he,a0E,oD,R7,vdT,U3,if_true,t11,gdT,show((0:Int)==0)=true from rfl]
  refine b4B.use ?_
  exact d9.here rfl
 ·rw[show((a2u m).2 != 0)=true by simp[he],cdT,d2H he]
  simp only[M6,oD,a0E,List.length_nil,R7,vdT,l0,gdT,t11,show(((0:Nat):Int)==0)=true from rfl]
  refine(b2z fm).use ?_
  simp only[a0E,oD,R7,vdT,U3,if_true,t11,gdT,show ∀x:Int,(x==x)=true from fun x=>by simp]
  refine b4B.use ?_
  exact d9.here rfl
end
end Go.Proofs.Ytchnpgddpaonhaa.d
end
section
namespace Go.Am
open Go.ChangeShapes Go.WideShapes Go.ChangeAt Go.RowKit
def a5b:Value→AV
 | .slice (some a) len cap=>if len≤cap∧(cap=0∨a.spot=none) then .slc (.old a.block) a.off len cap true 1 else .opq (.slice (some a) len cap)
 | .pointer (some a)=>if a.spot=none then .ptr (.old a.block) a.off else .opq (.pointer (some a))
 |v=>b7J v
def c8g:Value→AV
 | .agg cs=> .agg (cs.toList.map a5b)
 |v=>a5b v
theorem c7g(ρ:B6)(v:Value):rel ρ (a5b v) v:=by
 unfold a5b
 split
 ·rename_i a len cap
  split
  ·rename_i h
   simp only[rel,N9,b7s]
   refine⟨a,cap,rfl,h.1,Nat.le_refl _,fun _=>rfl, ?_,trivial⟩
   rcases h.2 with e|e
   ·exact .inl e
   ·right
    refine⟨a.block,0,rfl, ?_⟩
    obtain⟨b,o,s⟩:=a
    simp only at e
    subst e
    simp
  ·simp only[rel]
 ·rename_i a
  split
  ·rename_i e
   simp only[rel,N9]
   refine⟨a.block,0,rfl, ?_⟩
   obtain⟨b,o,s⟩:=a
   simp only at e
   subst e
   simp
  ·simp only[rel]
 ·exact b4G _
theorem b7C(ρ:B6):∀l:List Value,t9 ρ (l.map a5b) l
 | []=>t7.2 rfl
 |v::l=>r8.2 ⟨c7g ρ v,b7C ρ l⟩
theorem d2n(ρ:B6)(v:Value):rel ρ (c8g v) v:=by
 unfold c8g
 split
 ·simp only[rel]
  exact⟨_,rfl,b7C ρ _⟩
 ·exact c7g ρ _
theorem c3N(ρ:B6):∀l:List Value,t9 ρ (l.map c8g) l
 | []=>t7.2 rfl
 |v::l=>r8.2 ⟨d2n ρ v,c3N ρ l⟩
def a3J(W:World):m7:=fun b=>match W.heap[b]? with
 |some (.cells arr _ _)=>some (arr.toList.map a5b)
 |_=>none
theorem d1Q(W:World)(b:Nat)(cs:List AV)(h:a3J W b=some cs):b<W.heap.size∧∃arr el fr,W.heap[b]? =some (.cells arr el fr)∧t9 (fun _=>none) cs arr.toList:=by
 unfold a3J at h
 split at h
 ·rename_i arr el fr e
  cases h
  exact⟨(Array.getElem?_eq_some_iff.1 e).1,arr,el,fr,e,b7C _ _⟩
 ·cases h
theorem d0H{P:Program}{f:FuncId}{W:World}{vargs:Array Value}(h:FnW P (a3J W) (b8U W) f (vargs.toList.map c8g) AHeap.empty fun v _=>v= .bool true):
  Calls P f vargs W fun e w=>e= .returned (.bool true)∧c0d W w:=
 c4Y h (d1Q W) (c3N _ _)
theorem c0d.same{W W':World}(h:c0d W W'){p:MemPlace}(hp:p.block<W.heap.size):W.sameAt W' p:=by
 cases p with
 |cell b off=>
  show W'.cell? ⟨b,off,none⟩=W.cell? ⟨b,off,none⟩
  unfold World.cell?
  rw[h.2.2 b hp]
 |map b=>
  show W'.heap[b]? =W.heap[b]?
  exact h.2.2 b hp
theorem b4m{H:Type}{enc:TypeId×Value→H}{P:Program}(hl:laidOutB P=true){W W':World}{sp:Nat→Bool}:∀ {ts:List TypeId} {vs:List Value} {ds:List (DataW H)} {ps:List MemPlace},(∀t∈ts,P.readableRec t=true∧t<P.types.size)→
  DataW.TrodAll enc P W 0 (fun _=>true) true ts vs ds ps→(∀p∈ps,W.sameAt W' p)→(∀p∈ps,sp p.block=true)→DataW.TrodAll enc P W' 0 sp true ts vs ds ps
 | [],[],[],ps,_,h,_,_=>h
 |t::ts,v::vs,d::ds,ps,ht,h,hs,hp=>by
  obtain⟨p,q,h1,h2,rfl⟩:=h
  refine⟨p,q,WideElems.Trod_stays hl (ht t List.mem_cons_self).1 (ht t List.mem_cons_self).2 h1 (fun x hx=>hs x (List.mem_append_left _ hx)) (fun x hx=>hp x (List.mem_append_left _ hx)), ?_,rfl⟩
  exact b4m hl (fun t ht'=>ht t (List.mem_cons_of_mem _ ht')) h2 (fun x hx=>hs x (List.mem_append_right _ hx)) (fun x hx=>hp x (List.mem_append_right _ hx))
theorem c7b{H:Type}{enc:TypeId×Value→H}{P:Program}{f:Func}{s:ChangeSpec}{apart fresh handsOn again:Bool}{W W':World}{args:Array Value}{ds gs:List (DataW H)}{before:List MemPlace}{b:TypeId}
  (hW:DataW.Whole enc P f.params.toList s.vars apart W args.toList ds gs before) (hvars:s.vars=[]) (hl:laidOutB P=true) (hts:∀t∈f.params.toList,P.readableRec t=true∧t<P.types.size)
  (hb:P.underlying b=some .bool) (hrt:f.resultTypes= #[b])
  (hres:(s.fn H ds).results=[.lit (.bool true)]) (hargs:(s.fn H ds).args=ds) (hvs:(s.fn H ds).vars=[]) (hk:c0d W W'):
  s.post enc P f apart fresh handsOn again W args (.bool true) W':=by
 have hW':=hW
 obtain⟨p,q,hA,hV,rfl,_,_⟩:=hW
 rw[hvars]at hV
 obtain⟨rfl,rfl⟩:=trodVars_none hV
 have hlt:∀x∈p,x.block<W.heap.size:=fun x hx=>hW'.lt x (by simpa using hx)
 refine c4Z (pa:=p) (pv:=[]) hW' ?_ ?_ ?_ rfl hk ?_
 ·intro b0 sp hd
  rw[List.append_nil,hres,hrt]
  exact trodAll_cons_mk (shut_bool hb _) trodAll_mk0
 ·intro sp hsp
  rw[List.append_nil,hargs]
  exact b4m hl hts hA (fun x hx=>hk.same (hlt x hx)) (fun x hx=>hsp x (by simpa using hx))
 ·intro sp _
  rw[hvars,List.append_nil,hvs]
  rfl
 ·intro j t r h1 h2
  rw[hrt]at h1 h2
  match j,h1,h2 with
  |0,h1,h2=>
   simp[Value.resultList]at h1 h2
   subst h1 h2
   exact okWide_bool_mk hb _
theorem a5t{w:World}{a:Addr}{v:Value}(h:w.cell? a=some v):a.spot=none∧∃arr el fr,w.heap[a.block]? =some (.cells arr el fr)∧arr[a.off]? =some v:=by
 unfold World.cell? at h
 split at h
 ·rename_i c el fr hb
  split at h
  ·cases h
  ·rename_i hns
   exact⟨by cases hs:a.spot with
    |none=>rfl
    |some x=>rw[hs]at hns;exact(hns rfl).elim,c,el,fr,hb,h⟩
 ·cases h
end Go.Am
end
section
open Go Go.Am
namespace Go.Am.Old
open Go.ChangeShapes Go.WideShapes Go.ChangeAt Go.RowKit
section
variable{H:Type}{enc:TypeId×Value→H}{P:Program}{W:World}{b0:Nat}{sp:Nat→Bool}{hd:Bool}
theorem d1T{n:Nat}{t:TypeId}{k:IntKind}{cs:List Value}{x:DataW H×List MemPlace}(ht:P.underlying t=some (.int k))(h:DataW.trod enc P W b0 sp hd n t cs=some x):∃z,cs=[.int k z]∧(Lit.int k z).wf=true:=by
 cases n with
 |zero=>simp[DataW.trod]at h
 |succ n=>
  simp only[DataW.trod,ht]at h
  split at h
  all_goals (first|(cases h;done)|skip)
  all_goals simp_all
  all_goals (first|(obtain⟨⟨rfl,h2⟩,_⟩:=h;exact⟨_,⟨rfl,rfl⟩,h2⟩)|skip)
end
theorem c7r{α β:Type}{f:α→Option β}:∀ {l:List α} {r:List β},l.mapM f=some r→∀(i:Nat) (x:α),l[i]? =some x→∃y,r[i]? =some y∧f x=some y
 | [],r,h,i,x,hx=>by simp at hx
 |a::l,r,h,i,x,hx=>by
  simp only[List.mapM_cons,Option.bind_eq_bind,Option.bind_eq_some_iff]at h
  obtain⟨b,hb,bs,hbs,h⟩:=h
  cases h
  cases i with
  |zero=>simp at hx;subst hx;exact⟨b,rfl,hb⟩
  |succ i=>
   have hx':l[i]? =some x:=by simpa using hx
   obtain⟨y,h1,h2⟩:=c7r hbs i x hx'
   exact⟨y,by simpa using h1,h2⟩
theorem b8t{α β:Type}{f:α→Option β}:∀ {l:List α} {r:List β},l.mapM f=some r→r.length=l.length
 | [],r,h=>by simp at h;subst h;rfl
 |a::l,r,h=>by
  simp only[List.mapM_cons,Option.bind_eq_bind,Option.bind_eq_some_iff]at h
  obtain⟨b,hb,bs,hbs,h⟩:=h
  cases h
  simp[b8t hbs]
theorem b2a{H:Type}{P:Program}{e:TypeId}:∀ {l:List (DataW H)} {d:DataW H},d∈l→∀n∈DataW.weights P e d,n∈DataW.weightsAll P e l
 |a::l,d,h,n,hn=>by
  simp only[DataW.weightsAll]
  rcases List.mem_cons.1 h with rfl|h
  ·exact List.mem_append_left _ hn
  ·exact List.mem_append_right _ (b2a h n hn)
theorem c6n{H:Type}{enc:TypeId×Value→H}{P:Program}{W:World}{hd:Bool}{n:Nat}{t e:TypeId}{sz:Nat}{cs:List Value}{x:DataW H×List MemPlace}(ht:P.underlying t=some (.slice e))(hc:P.cellsOf e=sz)(hsz:0<sz)
  (h:DataW.trod enc P W 0 (fun _=>true) hd n t cs=some x):∃c,cs=[c]∧((a5b c= .nilSlc)∨∃(b i len cap m:Nat) (els:List (DataW H×List MemPlace)),a5b c= .slc (.old b) i len cap true 1∧len≤cap∧els.length=len∧(∀d∈els,∀k∈DataW.weights P e d.1,k∈DataW.weights P t x.1)∧
   (∀k:Nat,len*P.bytesOf e≤k∨k∈DataW.weights P t x.1∨True)∧(∃k∈DataW.weights P t x.1,len*P.bytesOf e≤k)∧
   ∀j d,els[j]? =some d→∃(all:List AV) (vs:List Value),a3J W b=some all∧(all.drop (i+j*sz)).take sz=vs.map a5b∧DataW.trod enc P W 0 (fun _=>true) hd m e vs=some d):=by
 rcases DataW.trod_slice ht h with ⟨e1,_⟩|⟨a,len,cap,elems,rest,m,_,e1,hx,_,hl,hm,hlen,hel,hsp,_⟩
 ·exact⟨_,e1, .inl rfl⟩
 ·refine⟨_,e1, .inr ?_⟩
  have hd':x.1= .slice (elems.map (·.1)) (rest.map (·.1)):=by rw[hx]
  have hcell:∀ {c:Addr} {cs:List Value},W.cells? 0 c sz=some cs→cs.length=sz∧∀j,j<sz→∃x,cs[j]? =some x∧W.cell? (c.add j)=some x:=by
   intro c cs hc
   unfold World.cells? at hc
   rw[if_pos (Nat.zero_le _)]at hc
   refine⟨by have:=b8t hc;simpa using this,fun j hj=> ?_⟩
   obtain⟨y,h1,h2⟩:=c7r hc j j (by rw[List.getElem?_range hj])
   exact⟨y,h1,h2⟩
  have hs:cap=0∨a.spot=none:=by
   by_cases h0:cap=0
   ·exact .inl h0
   ·right
    by_cases hl0:len=0
    ·obtain⟨r1,r2⟩:=hsp rfl
     have:=r2 0 (by omega)
     rw[hc,hl0,List.getElem?_eq_getElem (by omega)]at this
     obtain⟨cs,h1,_⟩:=Option.bind_eq_some_iff.1 this
     obtain⟨x,_,h2⟩:=(hcell h1).2 0 hsz
     simp only[Nat.add_zero,Nat.zero_mul]at h2
     exact(a5t h2).1
    ·have:=hel 0 (by omega)
     rw[hc,List.getElem?_eq_getElem (by omega)]at this
     obtain⟨cs,h1,_⟩:=Option.bind_eq_some_iff.1 this
     obtain⟨x,_,h2⟩:=(hcell h1).2 0 hsz
     simp only[Nat.add_zero,Nat.zero_mul]at h2
     exact(a5t h2).1
  refine⟨a.block,a.off,len,cap,m,elems, ?_,by omega,hlen, ?_,fun _=> .inr (.inr trivial),⟨(elems.length+rest.length)*P.bytesOf e, ?_, ?_⟩, ?_⟩
  ·simp only[a5b]
   rw[if_pos ⟨hl,hs⟩]
  ·intro d hdm k hk
   rw[hd']
   simp only[DataW.weights,ht]
   exact List.mem_cons_of_mem _ (List.mem_append_left _ (b2a (d:=d.1) (List.mem_map.2 ⟨d,hdm,rfl⟩) k hk))
  ·rw[hd'];simp[DataW.weights,ht]
  ·rw[hlen];exact Nat.mul_le_mul_right _ (by omega)
  ·intro i d hid
   have hi:i<len:=by have:=(List.getElem?_eq_some_iff.1 hid).1;omega
   have hi':=hel i hi
   rw[hc,hid]at hi'
   obtain⟨cs,h1,h2⟩:=Option.bind_eq_some_iff.1 hi'
   obtain⟨c1,c2⟩:=hcell h1
   have hs':a.spot=none:=hs.resolve_left (by omega)
   have hadd:∀j,(a.add (i*sz)).add j=⟨a.block,a.off+i*sz+j,none⟩:=by
    intro j
    obtain⟨b,of,s⟩:=a
    simp only at hs'
    subst hs'
    unfold Addr.add
    split<;>split<;>simp_all
   obtain⟨x0,_,hx0⟩:=c2 0 hsz
   rw[hadd]at hx0
   obtain⟨_,arr,el,fr,hb,_⟩:=a5t hx0
   simp only at hb
   refine⟨arr.toList.map a5b,cs,by unfold a3J;rw[hb], ?_,h2⟩
   refine List.ext_getElem? fun j=> ?_
   rw[List.getElem?_take]
   split
   ·rename_i hj
    obtain⟨xj,hj1,hj2⟩:=c2 j hj
    rw[hadd]at hj2
    obtain⟨_,arr',el',fr',hb',hj3⟩:=a5t hj2
    simp only at hb' hj3
    rw[hb]at hb'
    cases hb'
    rw[List.getElem?_drop,List.getElem?_map,Array.getElem?_toList,hj3,List.getElem?_map,hj1]
   ·rename_i hj
    rw[List.getElem?_map,List.getElem?_eq_none (by omega)]
    rfl
theorem d5b{z:Int}(h:(Lit.int .i64 z).wf=true): -9223372036854775808≤z∧z≤9223372036854775807:=by
 simp only[Lit.wf,Bool.and_eq_true,decide_eq_true_eq]at h
 have h1:IntKind.i64.min= -9223372036854775808:=rfl
 have h2:IntKind.i64.max=9223372036854775807:=rfl
 omega
theorem d5U{z:Int}(h:(Lit.int .u8 z).wf=true):0≤z∧z≤255:=by
 simp only[Lit.wf,Bool.and_eq_true,decide_eq_true_eq]at h
 have h1:IntKind.u8.min=0:=rfl
 have h2:IntKind.u8.max=255:=rfl
 omega
section
variable{H:Type}{enc:TypeId×Value→H}{P:Program}{W:World}{hd:Bool}
theorem d1I{α:Type}[Inhabited α]{row:α→List D}{a5I:α→Prop}{n:Nat}{t e:TypeId}{sz:Nat}{cs:List Value}{x:DataW H×List MemPlace}(ht:P.underlying t=some (.slice e))(hc:P.cellsOf e=sz)(hsz:0<sz)(hrow:∀a,(row a).length=sz)
  (h:DataW.trod enc P W 0 (fun _=>true) hd n t cs=some x)
  (f:∀m vs d,DataW.trod enc P W 0 (fun _=>true) hd m e vs=some d→(∀k∈DataW.weights P e d.1,k∈DataW.weights P t x.1)→∃a,a5I a∧(∀R,A9 (a3J W) R (row a) (vs.map a5b))∧(vs.map a5b).all w9=true):
  ∃c l,cs=[c]∧(∀a∈l,a5I a)∧(∀R,Rp (a3J W) R (.lst (l.map row) sz) (a5b c))∧w9 (a5b c)=true∧(l=[]∨∃k∈DataW.weights P t x.1,l.length*P.bytesOf e≤k):=by
 obtain⟨c,e0,h1|⟨b,i,len,cap,m,els,h1,hlc,h2,h3,_,hk,h6⟩⟩:=c6n ht hc hsz h
 ·exact⟨c,[],e0,by simp,fun R=>by rw[h1];simp only[Rp];exact .inl ⟨by trivial,by trivial⟩,by rw[h1];rfl, .inl rfl⟩
 ·have each:∀j,∃a:α,j<len→a5I a∧∃all,a3J W b=some all∧(∀R,A9 (a3J W) R (row a) ((all.drop (i+j*sz)).take sz))∧((all.drop (i+j*sz)).take sz).all w9=true:=by
   intro j
   by_cases hj:j<len
   ·obtain⟨all,vs,g1,g2,g3⟩:=h6 j _ (List.getElem?_eq_getElem (by omega:j<els.length))
    obtain⟨a,q1,q2,q3⟩:=f m vs _ g3 (h3 _ (List.getElem_mem _))
    exact⟨a,fun _=>⟨q1,all,g1,by rw[g2];exact q2,by rw[g2];exact q3⟩⟩
   ·exact⟨default,fun h=>(hj h).elim⟩
  obtain⟨g,hg⟩:=Classical.axiomOfChoice each
  have main:∀(all:List AV),a3J W b=some all→∀N,N≤len→(∀R,a2K (a3J W) R (((List.range N).map g).map row) ((all.drop i).take (N*sz)))∧((all.drop i).take (N*sz)).all w9=true:=by
   intro all hall N
   induction N with
   |zero=>intro _;exact⟨fun R=>by simp[a2K],by simp⟩
   |succ N ih=>
    intro hN
    obtain⟨i1,i2⟩:=ih (by omega)
    obtain⟨_,all',g1,g2,g3⟩:=hg N (by omega)
    rw[hall]at g1
    cases g1
    have e1:(all.drop i).take ((N+1)*sz)=(all.drop i).take (N*sz)++(all.drop (i+N*sz)).take sz:=by
     rw[Nat.succ_mul,List.take_add,List.drop_drop]
    rw[e1]
    refine⟨fun R=> ?_,by rw[List.all_append,i2,g3];rfl⟩
    rw[List.range_succ,List.map_append,List.map_append,P2,List.flatten_append]
    refine(P2.1 (i1 R)).append ?_
    simpa using g2 R
  refine⟨c,(List.range len).map g,e0,fun a ha=> ?_,fun R=> ?_,by rw[h1];rfl, .inr ?_⟩
  ·obtain⟨j,hj,rfl⟩:=List.mem_map.1 ha
   exact(hg j (List.mem_range.1 hj)).1
  ·rw[h1]
   simp only[Rp]
   refine .inr ⟨.old b,i,cap,true,1,by simp,trivial,by simpa using hlc, ?_, ?_⟩
   ·intro r hr
    obtain⟨a,_,rfl⟩:=List.mem_map.1 hr
    exact hrow a
   ·by_cases h0:len=0
    ·left;subst h0;rfl
    ·right
     obtain⟨_,all,g1,_⟩:=hg 0 (by omega)
     obtain⟨m1,m2⟩:=main all g1 len (Nat.le_refl _)
     exact⟨all,g1,by simpa using m1 R,by simpa using m2⟩
  ·obtain⟨k,hk1,hk2⟩:=hk
   exact⟨k,hk1,by simpa using hk2⟩
end
section
variable{H:Type}{enc:TypeId×Value→H}{P:Program}{W:World}{hd:Bool}
theorem d4u{n:Nat}{t:TypeId}{k:IntKind}{cs:List Value}{x:DataW H×List MemPlace}(ht:P.underlying t=some (.int k))(h:DataW.trod enc P W 0 (fun _=>true) hd n t cs=some x):
  ∃z:Int,(Lit.int k z).wf=true∧(∀R,A9 (a3J W) R [.int k z] (cs.map a5b))∧(cs.map a5b).all w9=true:=by
 obtain⟨z,rfl,w⟩:=d1T ht h
 refine⟨z,w,fun R=> ?_,rfl⟩
 simp only[List.map_cons,List.map_nil,A9,Rp]
 exact⟨_,_,rfl,rfl,rfl⟩
end
section
variable{H:Type}{enc:TypeId×Value→H}{P:Program}{W:World}{hd:Bool}
end
end Go.Am.Old
end
