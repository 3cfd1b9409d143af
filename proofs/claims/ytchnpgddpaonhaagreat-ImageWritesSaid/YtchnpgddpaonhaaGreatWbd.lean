/- A part of the proof of ImageWrites. -/
import Derived.Test.YtchnpgddpaonhaaGreatWbc
import Derived.Test.YtchnpgddpaonhaaGreatRows
import Derived.Test.YtchnpgddpaonhaaGreatWap
import Derived.KernelRfl
import Derived.Test.YtchnpgddpaonhaaGreatWba
import Derived.Test.YtchnpgddpaonhaaGreatWaw
import Derived.Test.YtchnpgddpaonhaaGreatWas
import Derived.Test.YtchnpgddpaonhaaGreatWai
import Derived.SizedLaws
set_option linter.unusedVariables false
set_option linter.unusedSimpArgs false
set_option maxRecDepth 100000
section
open Go.Proofs Go Go.Am Go.Op
namespace Go.Proofs.YtchnpgddpaonhaaGreat.d
section
variable{E:j6}{w0:World}
theorem d8y{m:Mo}(h:F4 m≠0):(J0 m).2=F4 m:=by unfold J0;rw[if_pos h]
theorem d8d{m:Mo}(h:F4 m=0):(J0 m).2=if 2097140<(D2 m).length then 3 else 0:=by
 unfold J0;rw[if_neg (by rw[h];simp)];split<;>rfl
theorem a8T{m:Mo}(hm:m.Fits):a6Z Tryz.prog E w0 a2s [Z0 m] (.int .i64 (J0 m).2):=fun S=>by
 refine c3W ?_
 unfold b8k
 rw[Z0,J5,oD]
 intro k a n
 have h0:w9 (S.set k ⟨3,[F8 m],a⟩) k 3 (F8 m):=w9.new
 have hle:S.le (S.set k ⟨3,[F8 m],a⟩):=b9.le_new n
 rw[show(F8 m).length=3 from rfl]
 generalize S.set k ⟨3,[F8 m],a⟩=S1 at*
 have hmo:=hm.ok
 have q0:(F8 m)[0]? =some (b1E m.types):=rfl
 have q1:(F8 m)[1]? =some (a6A m.texts):=rfl
 have q2:(F8 m)[2]? =some (b1r m.funcs):=rfl
 have t0:=hm.types
 have t1:=hm.texts
 have t2:=hm.funcs
 have fin:∀ {T:b9} {e:Int},S.le T→(J0 m).2=e→i9 E (fun d' S'=>d'= .int .i64 (J0 m).2∧S'=S) (.int .i64 e) T:=fun{T e} hl h=>by rw[h];exact i9.less hl i9.pure
 have finS:∀ {T:b9} {e:Int},S.le T→F4 m=e→e≠0→i9 E (fun d' S'=>d'= .int .i64 (J0 m).2∧S'=S) (.int .i64 e) T:=fun{T e} hl h he=>fin hl (by rw[d8y (by rw[h];exact he),h])
 have g256:∀a:Nat,i6 .gtr (.int .i64 (a:Int)) (.int .i64 256)=some (.bool (decide (a>256))):=fun a=>gtN a 256
 have g32768:∀a:Nat,i6 .gtr (.int .i64 (a:Int)) (.int .i64 32768)=some (.bool (decide (a>32768))):=fun a=>gtN a 32768
 have g65536:∀a:Nat,i6 .gtr (.int .i64 (a:Int)) (.int .i64 65536)=some (.bool (decide (a>65536))):=fun a=>gtN a 65536
 have g32:∀a:Nat,i6 .gtr (.int .i64 (a:Int)) (.int .i64 32)=some (.bool (decide (a>32))):=fun a=>gtN a 32
 have g8:∀a:Nat,i6 .gtr (.int .i64 (a:Int)) (.int .i64 8)=some (.bool (decide (a>8))):=fun a=>gtN a 8
 simp only[u5,oD,Nat.zero_add,h0.ld,q0,G6,g256]
 by_cases c0:m.types.length>256
 ·simp only[decide_eq_true c0,C5,t1',vdF,oD,C3,if_true,cdT]
  exact finS hle (by unfold F4;rw[if_pos (.inl c0)]) (by decide)
 simp only[decide_eq_false c0,C5,t2',P7,oD,h0.ld,q1,u5,Nat.zero_add,J9,g32768,C3,Bool.false_eq_true,if_false]
 by_cases c1:m.texts.length>32768
 ·simp only[decide_eq_true c1,C5,t1',vdF,oD,C3,if_true,cdT]
  exact finS hle (by unfold F4;rw[if_pos (.inr (.inl c1))]) (by decide)
 simp only[decide_eq_false c1,C5,t2',P7,oD,h0.ld,q2,u5,Nat.zero_add,I9,g256,C3,Bool.false_eq_true,if_false]
 by_cases c2:m.funcs.length>256
 ·simp only[decide_eq_true c2,cdT]
  exact finS hle (by unfold F4;rw[if_pos (.inr (.inr c2))]) (by decide)
 simp only[decide_eq_false c2,cdF]
 have e0:F4 m=if H4 (W1 m) m.types≠0 then H4 (W1 m) m.types else if m.texts.any (fun t=>decide (t.length>65536))=true then 3 else H4 (a1l m) m.funcs:=by
  unfold F4;rw[if_neg (by omega)]
 refine b9A (I:=fun n x1 x3 T=>S1=T∧x1= .ptr k 0∧∃i:Nat,x3= .int .i64 (i:Int)∧i+n=m.types.length∧H4 (W1 m) m.types=H4 (W1 m) (m.types.drop i)) ?_ (n:=m.types.length)
  ⟨rfl,rfl,0,rfl,by omega,rfl⟩
 rintro n _ _ _ ⟨rfl,rfl,i,rfl,hi,hfi⟩
 unfold a6N
 simp only[u5,oD,Nat.zero_add,h0.ld,q0,G6,A5]
 rw[B3]
 have lm:j2 S1 3 (.ptr k 0)=some (Z0 m):=h0.all (by decide) rfl
 refine⟨fun hlt=> ?_,fun hge=> ?_⟩
 ·have hlt:i<m.types.length:=by omega
  obtain⟨t,ht⟩:∃t,t=m.types[i]:=⟨_,rfl⟩
  have et:m.types[i]? =some t:=by rw[List.getElem?_eq_getElem hlt,ht]
  have htm:t∈m.types:=by rw[ht];exact List.getElem_mem _
  have htok:=hmo.ty t htm
  have p2:(B9 t)[2]? =some (O9 t.fields):=rfl
  rw[b0L hlt, ←ht]at hfi
  simp only[a0l et,oD,ofE,lsE,Nat.zero_add,p2,B0,g32]
  by_cases d1:t.fields.length>32
  ·simp only[decide_eq_true d1,C5,t1',vdF,gdF,oD,C3,if_true,cdT]
   have:W1 m t=3:=by unfold W1 a2K;rw[decide_eq_true d1,Bool.true_or,Bool.true_or,if_pos rfl]
   rw[this,if_neg (by decide)]at hfi
   exact finS hle (by rw[e0,hfi,if_pos (by decide)]) (by decide)
  simp only[decide_eq_false d1,C5,t2',P7,gdT,oD,h0.ld,q0,u5,Nat.zero_add,a0l et,d0l]
  refine(c9K htok).use ?_
  simp only[oD,C3,Bool.false_eq_true,if_false]
  have el:a2K t=(decide (t.name.length>65536)||t.fields.any fun f=>decide (f.1.length>65536)):=by unfold a2K;rw[decide_eq_false d1,Bool.false_or]
  rw[←el]
  cases d2:a2K t with
  |true=>
   rw[cdT]
   have:W1 m t=3:=by unfold W1;rw[if_pos d2]
   rw[this,if_neg (by decide)]at hfi
   exact finS hle (by rw[e0,hfi,if_pos (by decide)]) (by decide)
  |false=>
  rw[cdF,lm,oD]
  simp only[oD,h0.ld,q0,u5,Nat.zero_add,a0l et,d0l]
  refine(show o9 Tryz.prog E w0 false a2H [Z0 m, .agg (B9 t)] S1 _ from(c3M hmo htok).use ?_)
  rw[unN,oD]
  cases d3:K7 m t with
  |false=>
   rw[Bool.not_false,cdT]
   have:W1 m t=130:=by unfold W1;rw[if_neg (by rw[d2];simp),if_neg (by rw[d3];simp)]
   rw[this,if_neg (by decide)]at hfi
   exact finS hle (by rw[e0,hfi,if_pos (by decide)]) (by decide)
  |true=>
   have:W1 m t=0:=by unfold W1;rw[if_neg (by rw[d2];simp),if_pos d3]
   rw[this,if_pos rfl]at hfi
   rw[Bool.not_true,cdF,s8,oD,j8 (by omega) (by omega)]
   exact⟨n - 1,by omega,by trivial,by trivial,i+1,rfl,by omega,hfi⟩
 rw[List.drop_eq_nil_of_le (by omega)]at hfi
 have hty:H4 (W1 m) m.types=0:=hfi
 have e1:F4 m=if m.texts.any (fun t=>decide (t.length>65536))=true then 3 else H4 (a1l m) m.funcs:=by
  rw[e0,hty,if_neg (by simp)]
 refine b9s (I:=fun n x1 x4 T=>S1=T∧x1= .ptr k 0∧∃i:Nat,x4= .int .i64 (i:Int)∧i+n=m.texts.length∧(m.texts.any fun t=>decide (t.length>65536))=(m.texts.drop i).any fun t=>decide (t.length>65536)) ?_ (n:=m.texts.length)
  ⟨rfl,rfl,0,rfl,by omega,rfl⟩
 rintro n _ _ _ ⟨rfl,rfl,i,rfl,hi,hfi⟩
 unfold a6y
 simp only[u5,oD,Nat.zero_add,h0.ld,q1,J9,A5]
 rw[B3]
 refine⟨fun hlt=> ?_,fun hge=> ?_⟩
 ·have hlt:i<m.texts.length:=by omega
  have ei:m.texts[i]? =some m.texts[i]:=List.getElem?_eq_getElem hlt
  rw[d4F hlt]at hfi
  rw[a7t ei,oD,lsE,List.getElem?_cons_zero,oD,lnS,oD,g65536,oD]
  by_cases d1:m.texts[i].length>65536
  ·rw[decide_eq_true d1,cdT]
   rw[decide_eq_true d1,Bool.true_or]at hfi
   exact finS hle (by rw[e1,if_pos hfi]) (by decide)
  ·rw[decide_eq_false d1,Bool.false_or]at hfi
   rw[decide_eq_false d1,cdF,s8,oD,j8 (by omega) (by omega)]
   exact⟨n - 1,by omega,by trivial,by trivial,i+1,rfl,by omega,hfi⟩
 rw[List.drop_eq_nil_of_le (by omega)]at hfi
 have htx:(m.texts.any fun t=>decide (t.length>65536))=false:=hfi
 have e2:F4 m=H4 (a1l m) m.funcs:=by rw[e1,htx,if_neg (by simp)]
 refine b9h (I:=fun n x1 x5 T=>S.le T∧w9 T k 3 (F8 m)∧x1= .ptr k 0∧∃i:Nat,x5= .int .i64 (i:Int)∧i+n=m.funcs.length∧H4 (a1l m) m.funcs=H4 (a1l m) (m.funcs.drop i)) ?_ (n:=m.funcs.length)
  ⟨hle,h0,rfl,0,rfl,by omega,rfl⟩
 rintro n _ _ T ⟨hT,cT,rfl,i,rfl,hi,hfi⟩
 unfold a6s
 simp only[u5,oD,Nat.zero_add,cT.ld,q2,I9,A5]
 rw[B3]
 refine⟨fun hlt=> ?_,fun hge=> ?_⟩
 ·have hlt:i<m.funcs.length:=by omega
  obtain⟨r,hr⟩:∃r,r=m.funcs[i]:=⟨_,rfl⟩
  have er:m.funcs[i]? =some r:=by rw[List.getElem?_eq_getElem hlt,hr]
  have hrm:r∈m.funcs:=by rw[hr];exact List.getElem_mem _
  have hrok:=hmo.ro r hrm
  rw[b0L hlt, ←hr]at hfi
  rw[a1k er,oD,d0n,oD]
  intro k2 a2 n2
  refine(w9.new (sz:=6) (c:=[(.str []), .nilSlc, .nilSlc,(.int .i64 0),(.int .i64 0), .nilSlc])).st (ds:=F9 r) (J5 _) ⟨rfl,by decide,by decide⟩ fun a2=> ?_
  rw[b9.set_set,show o0 [(.str []), .nilSlc, .nilSlc,(.int .i64 0),(.int .i64 0), .nilSlc] 0 (F9 r)=F9 r from rfl]
  have c6:w9 (T.set k2 ⟨6,[F9 r],a2⟩) k2 6 (F9 r):=w9.new
  have hT2:S.le (T.set k2 ⟨6,[F9 r],a2⟩):=b9.le_set hT (b9.none_of hT n2)
  have cT2:=cT.set (o:=⟨6,[F9 r],a2⟩) n2
  generalize T.set k2 ⟨6,[F9 r],a2⟩=T2 at*
  have p0:(F9 r)[0]? =some (.str r.name):=rfl
  have p1:(F9 r)[1]? =some (iD r.params):=rfl
  have p2:(F9 r)[2]? =some (iD r.results):=rfl
  have p3:(F9 r)[3]? =some (.int .i64 r.locals):=rfl
  have p4:(F9 r)[4]? =some (.int .i64 r.stack):=rfl
  have p5:(F9 r)[5]? =some (bD r.code):=rfl
  have too:O8 r=true→i9 E (fun d' S'=>d'= .int .i64 (J0 m).2∧S'=S) (.int .i64 3) T2:=fun h=>by
   have:a1l m r=3:=by unfold a1l;rw[if_pos h]
   rw[this,if_neg (by decide)]at hfi
   exact finS hT2 (by rw[e2,hfi]) (by decide)
  simp only[u5,oD,Nat.zero_add,c6.ld,p1,M5,g32]
  by_cases d1:r.params.length>32
  ·simp only[decide_eq_true d1,C5,t1',vdF,oD,C3,if_true,cdT]
   exact too (by unfold O8;rw[decide_eq_true d1];rfl)
  simp only[decide_eq_false d1,C5,t2',P7,oD,c6.ld,p2,u5,Nat.zero_add,M5,g8,C3,Bool.false_eq_true,if_false]
  by_cases d2:r.results.length>8
  ·simp only[decide_eq_true d2,C5,t1',vdF,oD,C3,if_true,cdT]
   exact too (by unfold O8;rw[decide_eq_true d2];simp)
  simp only[decide_eq_false d2,C5,t2',P7,oD,c6.ld,p3,u5,Nat.zero_add,a4I,C3,Bool.false_eq_true,if_false]
  by_cases d3:r.locals>256
  ·simp only[decide_eq_true d3,C5,t1',vdF,oD,C3,if_true,cdT]
   exact too (by unfold O8;rw[decide_eq_true d3];simp)
  simp only[decide_eq_false d3,C5,t2',P7,oD,c6.ld,p5,u5,Nat.zero_add,I8,g65536,C3,Bool.false_eq_true,if_false]
  by_cases d4:r.code.length>65536
  ·simp only[decide_eq_true d4,C5,t1',vdF,oD,C3,if_true,cdT]
   exact too (by unfold O8;rw[decide_eq_true d4];simp)
  simp only[decide_eq_false d4,C5,t2',P7,oD,c6.ld,p4,u5,Nat.zero_add,a4I,C3,Bool.false_eq_true,if_false]
  by_cases d5:r.stack>4096
  ·simp only[decide_eq_true d5,C5,t1',vdF,oD,C3,if_true,cdT]
   exact too (by unfold O8;rw[decide_eq_true d5];simp)
  simp only[decide_eq_false d5,C5,t2',P7,oD,c6.ld,p0,u5,Nat.zero_add,lnS,g65536,C3,Bool.false_eq_true,if_false]
  by_cases d6:r.name.length>65536
  ·simp only[decide_eq_true d6,cdT]
   exact too (by unfold O8;rw[decide_eq_true d6];simp)
  simp only[decide_eq_false d6,cdF]
  have hlr:O8 r=false:=by unfold O8;rw[decide_eq_false d1,decide_eq_false d2,decide_eq_false d3,decide_eq_false d4,decide_eq_false d5,decide_eq_false d6];rfl
  rw[cT2.all (n:=3) (by decide) rfl,oD,c6.all (n:=6) (by decide) rfl,oD]
  refine(show o9 Tryz.prog E w0 false a2D [Z0 m, .agg (F9 r)] T2 _ from(c4n hm hrok (by omega)).use ?_)
  rw[unN,oD]
  cases d7:Q6 m r with
  |false=>
   rw[Bool.not_false,cdT]
   have:a1l m r=130:=by unfold a1l;rw[if_neg (by rw[hlr];simp),if_neg (by rw[d7];simp)]
   rw[this,if_neg (by decide)]at hfi
   exact finS hT2 (by rw[e2,hfi]) (by decide)
  |true=>
   have:a1l m r=0:=by unfold a1l;rw[if_neg (by rw[hlr];simp),if_pos d7]
   rw[this,if_pos rfl]at hfi
   rw[Bool.not_true,cdF,s8,oD,j8 (by omega) (by omega)]
   exact⟨n - 1,by omega,hT2,cT2,by trivial,i+1,rfl,by omega,hfi⟩
 rw[List.drop_eq_nil_of_le (by omega)]at hfi
 have e3:F4 m=0:=by rw[e2];exact hfi
 rw[cT.all (n:=3) (by decide) rfl,oD]
 refine(show o9 Tryz.prog E w0 false a7z [Z0 m] T _ from(c9L hm (c8L e3)).use ?_)
 rintro d S' ⟨rfl,z,rfl,hz⟩
 rw[a4I,oD,B3]
 have ez:=d8d e3
 refine⟨fun hgt=>fin hT ?_,fun hng=>fin hT ?_⟩
 ·rw[ez,if_pos]
  rcases hz with h|⟨h1,h2⟩<;>omega
 ·rw[ez,if_neg]
  rcases hz with h|⟨h1,h2⟩<;>omega
end
end Go.Proofs.YtchnpgddpaonhaaGreat.d
end
section
open Go.Proofs Go Go.Am
namespace Go.Proofs.YtchnpgddpaonhaaGreat.d
def c6h:List (Nat×List Nat):=[]
def c5l:List (Nat×List Nat):=[]
def b6R(E:j6)(w0:World)(x:Bool)(Q:D→b9→Prop)(a0 a1:D)(S:b9):Prop:=
 b7 (E7 .u64 a1) fun v0=>
 o9 Tryz.prog E w0 x a6i [v0] S fun v1 S2=>
 r6 S2 1 1 a0 v1 fun v3 S4=>
 Q v3 S4
theorem c1R{E:j6}{w0:World}{x:Bool}{Q:D→b9→Prop}{a0 a1:D}{S:b9}(h:b6R E w0 x (i9 E Q) a0 a1 S):o9 Tryz.prog E w0 x B4 [a0,a1] S Q:=
 l7 c6h c5l (fn:=Tryz.f40) (c:=Tryz.f40.body.getD .skip) m7 Tryz.func40 (by kernel_rfl) (by kernel_rfl) h
def c9N:List (Nat×List Nat):=[]
def c9T:List (Nat×List Nat):=[]
def c1A(E:j6)(w0:World)(x:Bool)(Q:D→b9→Prop)(a0 a1:D)(S:b9):Prop:=
 b7 (J3 a1) fun v0=>
 o9 Tryz.prog E w0 x B4 [a0,v0] S fun v1 S2=>
 r6 S2 1 1 v1 a1 fun v3 S4=>
 Q v3 S4
theorem c5e{E:j6}{w0:World}{x:Bool}{Q:D→b9→Prop}{a0 a1:D}{S:b9}(h:c1A E w0 x (i9 E Q) a0 a1 S):o9 Tryz.prog E w0 x a0r [a0,a1] S Q:=
 l7 c9N c9T (fn:=Tryz.f41) (c:=Tryz.f41.body.getD .skip) m7 Tryz.func41 (by kernel_rfl) (by kernel_rfl) h
def a5q:List (Nat×List Nat):=[(6,[0,1,5])]
def a5j:List (Nat×List Nat):=[]
noncomputable def a3Y:Code:=(j4 [1,1,0,1,0,0] (Tryz.f42.body.getD .skip))
def a4x(E:j6)(w0:World)(x:Bool)(Q:D→b9→Prop):o6→List D→b9→Prop:=
 (o8 0 (w6 Tryz.prog E w0 x a5q a5j (j4 [1,1,1] (Tryz.f42.body.getD .skip)) (z7 Tryz.prog Tryz.f42 Q)))
def a4A(E:j6)(w0:World)(x:Bool)(N0:D→D→D→b9→Prop)(Q:D→b9→Prop)(x0 x1 x5:D)(S:b9):Prop:=
 b7 (l9 x1) fun v3=>
 b7 (i6 .lss x5 v3) fun v4=>
 j1 v4
 (b7 (p6 1 x1 x5) fun v5=>
 b7 (b8 S v5) fun v6=>
 o9 Tryz.prog E w0 x B4 [x0,v6] S fun v7 S8=>
 b7 (i6 .add x5 (.int .i64 1)) fun v9=>
 N0 v7 x1 v9 S8)
 (Q x0 S)
theorem b5u{E:j6}{w0:World}{x:Bool}{N0:D→D→D→b9→Prop}{Q:D→b9→Prop}{x0 x1 x5:D}{S:b9}(h:a4A E w0 x N0 Q x0 x1 x5 S):
  j0 Tryz.prog E w0 x a3Y (j9 23 [0,1,5] [x0,x1,x5]) S (q8 (fun T S=>N0 (T.getD 0 d9) (T.getD 1 d9) (T.getD 5 d9) S) (a4x E w0 x Q)):=j3 a5q a5j m7 (by kernel_rfl) h
theorem b5G{E:j6}{w0:World}{x:Bool}{Q:D→b9→Prop}(I:Nat→D→D→D→b9→Prop)
  (step:∀n x0 x1 x5 S,I n x0 x1 x5 S→a4A E w0 x (fun x0 x1 x5 S=>∃m,m<n∧I m x0 x1 x5 S) Q x0 x1 x5 S)
  {n:Nat} {x0 x1 x5:D} {S:b9} (h:I n x0 x1 x5 S):j0 Tryz.prog E w0 x (.loop a3Y) (j9 23 [0,1,5] [x0,x1,x5]) S (a4x E w0 x Q):=
 o3 (k:=23) (n:=n) (I:=fun n T S=>I n (T.getD 0 d9) (T.getD 1 d9) (T.getD 5 d9) S) (fun n T S hl hI=>o5 [0,1,5] hl (j0.mono (b5u (step n _ _ _ S hI)) fun ex T' S' _ hq=>by cases ex<;>exact hq)) (l8 ..) (Eq.mp (by kernel_rfl) h)
def b4E(E:j6)(w0:World)(x:Bool)(Q:D→b9→Prop)(a0 a1:D)(S:b9):Prop:=
 b7 (l9 a1) fun v0=>
 o9 Tryz.prog E w0 x B4 [a0,v0] S fun v1 S2=>
 j0 Tryz.prog E w0 x (.loop a3Y) (j9 23 [0,1,5] [v1,a1,(.int .i64 0)]) S2 (a4x E w0 x Q)
theorem c0b{E:j6}{w0:World}{x:Bool}{Q:D→b9→Prop}{a0 a1:D}{S:b9}(h:b4E E w0 x (i9 E Q) a0 a1 S):o9 Tryz.prog E w0 x a2F [a0,a1] S Q:=
 l7 a5q a5j (fn:=Tryz.f42) (c:=Tryz.f42.body.getD .skip) m7 Tryz.func42 (by kernel_rfl) (by kernel_rfl) h
def E5:List (Nat×List Nat):=[(6,[1,3,4]),(22,[1,3,4,5,6]),(40,[1,3,7]),(50,[1,3,8])]
def E6:List (Nat×List Nat):=[(8,[1,3,4])]
noncomputable def b5D:Code:=(j4 [1,1,0,1,0,0,1,1] (Tryz.f20.body.getD .skip))
def c6m(E:j6)(w0:World)(x:Bool)(N0:D→D→D→b9→Prop)(Q:D→b9→Prop):o6→List D→b9→Prop:=
 (q8 (fun T S=>N0 (T.getD 1 d9) (T.getD 3 d9) (T.getD 4 d9) S) (o8 0 (w6 Tryz.prog E w0 x E5 E6 (j4 [1,1,1] (Tryz.f20.body.getD .skip)) (z7 Tryz.prog Tryz.f20 Q))))
def b5Y(E:j6)(w0:World)(x:Bool)(N0:D→D→D→b9→Prop)(Q:D→b9→Prop)(x1 x3 x4:D)(S:b9):Prop:=
 b7 (i6 .add x4 (.int .i64 1)) fun v11=>
 N0 x1 x3 v11 S
def a1Q(E:j6)(w0:World)(x:Bool)(N0:D→D→D→b9→Prop)(Q:D→b9→Prop)(x1 x3 x4:D)(S:b9):Prop:=j0 Tryz.prog E w0 x b5D (j9 139 [1,3,4] [x1,x3,x4]) S (c6m E w0 x N0 Q)
theorem c2f{E:j6}{w0:World}{x:Bool}{N0:D→D→D→b9→Prop}{Q:D→b9→Prop}{x1 x3 x4:D}{S:b9}(h:b5Y E w0 x N0 Q x1 x3 x4 S):a1Q E w0 x N0 Q x1 x3 x4 S:=j3 E5 E6 m7 (by kernel_rfl) h
noncomputable def a8t:Code:=(j4 [1,1,0,1,0,0,1,0,0,1,1,0,1,0,1,1,0,1,0,0] (Tryz.f20.body.getD .skip))
def a8o(E:j6)(w0:World)(x:Bool)(N0:D→D→D→b9→Prop)(Q:D→b9→Prop):o6→List D→b9→Prop:=
 (o8 2 (w6 Tryz.prog E w0 x E5 E6 (j4 [1,1,0,1,0,0,1,0,0,1,1,0,1,0,1,1,1] (Tryz.f20.body.getD .skip)) (w6 Tryz.prog E w0 x E5 E6 (j4 [1,1,0,1,0,0,1,0,0,1,1,1] (Tryz.f20.body.getD .skip)) (o8 1 (d9U Tryz.prog E w0 x 139 [1,3,4] b5D (q8 (fun T S=>N0 (T.getD 1 d9) (T.getD 3 d9) (T.getD 4 d9) S) (o8 0 (w6 Tryz.prog E w0 x E5 E6 (j4 [1,1,1] (Tryz.f20.body.getD .skip)) (z7 Tryz.prog Tryz.f20 Q)))))))))
def a9Q(E:j6)(w0:World)(x:Bool)(N0:D→D→D→b9→Prop)(N1:D→D→D→D→D→b9→Prop)(Q:D→b9→Prop)(x1 x3 x4 x5 x6:D)(S:b9):Prop:=
 b7 (i5 2 x5) fun v38=>
 b7 (b8 S v38) fun v39=>
 b7 (l9 v39) fun v40=>
 b7 (i6 .lss x6 v40) fun v41=>
 j1 v41
 (b7 (i5 2 x5) fun v42=>
 b7 (b8 S v42) fun v43=>
 b7 (p6 2 v43 x6) fun v44=>
 b7 (i5 0 v44) fun v45=>
 b7 (b8 S v45) fun v46=>
 o9 Tryz.prog E w0 x a0r [x3,v46] S fun v47 S48=>
 b7 (i5 2 x5) fun v49=>
 b7 (b8 S48 v49) fun v50=>
 b7 (p6 2 v50 x6) fun v51=>
 b7 (i5 1 v51) fun v52=>
 b7 (b8 S48 v52) fun v53=>
 o9 Tryz.prog E w0 x B4 [v47,v53] S48 fun v54 S55=>
 b7 (i6 .add x6 (.int .i64 1)) fun v56=>
 N1 x1 v54 x4 x5 v56 S55)
 (a1Q E w0 x N0 Q x1 x3 x4 S)
theorem c2d{E:j6}{w0:World}{x:Bool}{N0:D→D→D→b9→Prop}{N1:D→D→D→D→D→b9→Prop}{Q:D→b9→Prop}{x1 x3 x4 x5 x6:D}{S:b9}(h:a9Q E w0 x N0 N1 Q x1 x3 x4 x5 x6 S):
  j0 Tryz.prog E w0 x a8t (j9 139 [1,3,4,5,6] [x1,x3,x4,x5,x6]) S (q8 (fun T S=>N1 (T.getD 1 d9) (T.getD 3 d9) (T.getD 4 d9) (T.getD 5 d9) (T.getD 6 d9) S) (a8o E w0 x N0 Q)):=j3 E5 E6 m7 (by kernel_rfl) h
theorem c0D{E:j6}{w0:World}{x:Bool}{N0:D→D→D→b9→Prop}{Q:D→b9→Prop}(I:Nat→D→D→D→D→D→b9→Prop)
  (step:∀n x1 x3 x4 x5 x6 S,I n x1 x3 x4 x5 x6 S→a9Q E w0 x N0 (fun x1 x3 x4 x5 x6 S=>∃m,m<n∧I m x1 x3 x4 x5 x6 S) Q x1 x3 x4 x5 x6 S)
  {n:Nat} {x1 x3 x4 x5 x6:D} {S:b9} (h:I n x1 x3 x4 x5 x6 S):j0 Tryz.prog E w0 x (.loop a8t) (j9 139 [1,3,4,5,6] [x1,x3,x4,x5,x6]) S (a8o E w0 x N0 Q):=
 o3 (k:=139) (n:=n) (I:=fun n T S=>I n (T.getD 1 d9) (T.getD 3 d9) (T.getD 4 d9) (T.getD 5 d9) (T.getD 6 d9) S) (fun n T S hl hI=>o5 [1,3,4,5,6] hl (j0.mono (c2d (step n _ _ _ _ _ S hI)) fun ex T' S' _ hq=>by cases ex<;>exact hq)) (l8 ..) (Eq.mp (by kernel_rfl) h)
noncomputable def a7Z:Code:=(j4 [1,1,1,1,1,1,0,1,0,0] (Tryz.f20.body.getD .skip))
def a8J(E:j6)(w0:World)(x:Bool)(Q:D→b9→Prop):o6→List D→b9→Prop:=
 (o8 6 (w6 Tryz.prog E w0 x E5 E6 (j4 [1,1,1,1,1,1,1] (Tryz.f20.body.getD .skip)) (z7 Tryz.prog Tryz.f20 Q)))
def a9q(E:j6)(w0:World)(x:Bool)(N3:D→D→D→b9→Prop)(Q:D→b9→Prop)(x1 x3 x8:D)(S:b9):Prop:=
 b7 (i5 2 x1) fun v89=>
 b7 (b8 S v89) fun v90=>
 b7 (l9 v90) fun v91=>
 b7 (i6 .lss x8 v91) fun v92=>
 j1 v92
 (b7 (i5 2 x1) fun v93=>
 b7 (b8 S v93) fun v94=>
 b7 (p6 6 v94 x8) fun v95=>
 b7 (j2 S 6 v95) fun v96=>
 m8 S [(.str []), .nilSlc, .nilSlc,(.int .i64 0),(.int .i64 0), .nilSlc] fun v97 S98=>
 j7 S98 6 v97 v96 fun v99 S100=>
 b7 (i5 0 v97) fun v101=>
 b7 (b8 S100 v101) fun v102=>
 o9 Tryz.prog E w0 x a0r [x3,v102] S100 fun v103 S104=>
 b7 (i5 1 v97) fun v105=>
 b7 (b8 S104 v105) fun v106=>
 o9 Tryz.prog E w0 x a2F [v103,v106] S104 fun v107 S108=>
 b7 (i5 2 v97) fun v109=>
 b7 (b8 S108 v109) fun v110=>
 o9 Tryz.prog E w0 x a2F [v107,v110] S108 fun v111 S112=>
 b7 (i5 3 v97) fun v113=>
 b7 (b8 S112 v113) fun v114=>
 o9 Tryz.prog E w0 x B4 [v111,v114] S112 fun v115 S116=>
 b7 (i5 4 v97) fun v117=>
 b7 (b8 S116 v117) fun v118=>
 o9 Tryz.prog E w0 x B4 [v115,v118] S116 fun v119 S120=>
 b7 (i5 5 v97) fun v121=>
 b7 (b8 S120 v121) fun v122=>
 b7 (P6 S120 v122) fun v123=>
 o9 Tryz.prog E w0 x a0r [v119,v123] S120 fun v124 S125=>
 b7 (i6 .add x8 (.int .i64 1)) fun v126=>
 N3 x1 v124 v126 S125)
 (Q x3 S)
theorem c1j{E:j6}{w0:World}{x:Bool}{N3:D→D→D→b9→Prop}{Q:D→b9→Prop}{x1 x3 x8:D}{S:b9}(h:a9q E w0 x N3 Q x1 x3 x8 S):
  j0 Tryz.prog E w0 x a7Z (j9 139 [1,3,8] [x1,x3,x8]) S (q8 (fun T S=>N3 (T.getD 1 d9) (T.getD 3 d9) (T.getD 8 d9) S) (a8J E w0 x Q)):=j3 E5 E6 m7 (by kernel_rfl) h
theorem c2c{E:j6}{w0:World}{x:Bool}{Q:D→b9→Prop}(I:Nat→D→D→D→b9→Prop)
  (step:∀n x1 x3 x8 S,I n x1 x3 x8 S→a9q E w0 x (fun x1 x3 x8 S=>∃m,m<n∧I m x1 x3 x8 S) Q x1 x3 x8 S)
  {n:Nat} {x1 x3 x8:D} {S:b9} (h:I n x1 x3 x8 S):j0 Tryz.prog E w0 x (.loop a7Z) (j9 139 [1,3,8] [x1,x3,x8]) S (a8J E w0 x Q):=
 o3 (k:=139) (n:=n) (I:=fun n T S=>I n (T.getD 1 d9) (T.getD 3 d9) (T.getD 8 d9) S) (fun n T S hl hI=>o5 [1,3,8] hl (j0.mono (c1j (step n _ _ _ S hI)) fun ex T' S' _ hq=>by cases ex<;>exact hq)) (l8 ..) (Eq.mp (by kernel_rfl) h)
noncomputable def a9F:Code:=(j4 [1,1,1,1,0,1,0,0] (Tryz.f20.body.getD .skip))
def a9x(E:j6)(w0:World)(x:Bool)(Q:D→b9→Prop):o6→List D→b9→Prop:=
 (o8 4 (w6 Tryz.prog E w0 x E5 E6 (j4 [1,1,1,1,1] (Tryz.f20.body.getD .skip)) (z7 Tryz.prog Tryz.f20 Q)))
def a8e(E:j6)(w0:World)(x:Bool)(N2:D→D→D→b9→Prop)(Q:D→b9→Prop)(x1 x3 x7:D)(S:b9):Prop:=
 b7 (i5 1 x1) fun v73=>
 b7 (b8 S v73) fun v74=>
 b7 (l9 v74) fun v75=>
 b7 (i6 .lss x7 v75) fun v76=>
 j1 v76
 (b7 (i5 1 x1) fun v77=>
 b7 (b8 S v77) fun v78=>
 b7 (p6 1 v78 x7) fun v79=>
 b7 (b8 S v79) fun v80=>
 o9 Tryz.prog E w0 x a0r [x3,v80] S fun v81 S82=>
 b7 (i6 .add x7 (.int .i64 1)) fun v83=>
 N2 x1 v81 v83 S82)
 (b7 (i5 2 x1) fun v84=>
 b7 (b8 S v84) fun v85=>
 b7 (l9 v85) fun v86=>
 o9 Tryz.prog E w0 x B4 [x3,v86] S fun v87 S88=>
 j0 Tryz.prog E w0 x (.loop a7Z) (j9 139 [1,3,8] [x1,v87,(.int .i64 0)]) S88 (a8J E w0 x Q))
theorem c0k{E:j6}{w0:World}{x:Bool}{N2:D→D→D→b9→Prop}{Q:D→b9→Prop}{x1 x3 x7:D}{S:b9}(h:a8e E w0 x N2 Q x1 x3 x7 S):
  j0 Tryz.prog E w0 x a9F (j9 139 [1,3,7] [x1,x3,x7]) S (q8 (fun T S=>N2 (T.getD 1 d9) (T.getD 3 d9) (T.getD 7 d9) S) (a9x E w0 x Q)):=j3 E5 E6 m7 (by kernel_rfl) h
theorem c2i{E:j6}{w0:World}{x:Bool}{Q:D→b9→Prop}(I:Nat→D→D→D→b9→Prop)
  (step:∀n x1 x3 x7 S,I n x1 x3 x7 S→a8e E w0 x (fun x1 x3 x7 S=>∃m,m<n∧I m x1 x3 x7 S) Q x1 x3 x7 S)
  {n:Nat} {x1 x3 x7:D} {S:b9} (h:I n x1 x3 x7 S):j0 Tryz.prog E w0 x (.loop a9F) (j9 139 [1,3,7] [x1,x3,x7]) S (a9x E w0 x Q):=
 o3 (k:=139) (n:=n) (I:=fun n T S=>I n (T.getD 1 d9) (T.getD 3 d9) (T.getD 7 d9) S) (fun n T S hl hI=>o5 [1,3,7] hl (j0.mono (c0k (step n _ _ _ S hI)) fun ex T' S' _ hq=>by cases ex<;>exact hq)) (l8 ..) (Eq.mp (by kernel_rfl) h)
noncomputable def a8O:Code:=(j4 [1,1,0,1,0,0] (Tryz.f20.body.getD .skip))
def a9t(E:j6)(w0:World)(x:Bool)(Q:D→b9→Prop):o6→List D→b9→Prop:=
 (o8 0 (w6 Tryz.prog E w0 x E5 E6 (j4 [1,1,1] (Tryz.f20.body.getD .skip)) (z7 Tryz.prog Tryz.f20 Q)))
def a8X(E:j6)(w0:World)(x:Bool)(N0:D→D→D→b9→Prop)(Q:D→b9→Prop)(x1 x3 x4:D)(S:b9):Prop:=
 b7 (i5 0 x1) fun v7=>
 b7 (b8 S v7) fun v8=>
 b7 (l9 v8) fun v9=>
 b7 (i6 .lss x4 v9) fun v10=>
 j1 v10
 (b7 (i5 0 x1) fun v12=>
 b7 (b8 S v12) fun v13=>
 b7 (p6 5 v13 x4) fun v14=>
 b7 (j2 S 5 v14) fun v15=>
 m8 S [(.int .u8 0),(.str []), .nilSlc,(.int .i64 0),(.int .i64 0)] fun v16 S17=>
 j7 S17 5 v16 v15 fun v18 S19=>
 b7 (i5 0 v16) fun v20=>
 b7 (b8 S19 v20) fun v21=>
 q7 S19 1 (m9 1 (List.replicate 1 [(.int .u8 0)]) [(0,v21)]) 1 fun v22 S23=>
 r6 S23 1 1 x3 v22 fun v24 S25=>
 b7 (i5 0 v16) fun v26=>
 b7 (b8 S25 v26) fun v27=>
 b7 (i6 .eql v27 (.int .u8 6)) fun v28=>
 j1 v28
 (b7 (i5 1 v16) fun v29=>
 b7 (b8 S25 v29) fun v30=>
 o9 Tryz.prog E w0 x a0r [v24,v30] S25 fun v31 S32=>
 b7 (i5 2 v16) fun v33=>
 b7 (b8 S32 v33) fun v34=>
 b7 (l9 v34) fun v35=>
 o9 Tryz.prog E w0 x B4 [v31,v35] S32 fun v36 S37=>
 j0 Tryz.prog E w0 x (.loop a8t) (j9 139 [1,3,4,5,6] [x1,v36,x4,v16,(.int .i64 0)]) S37 (a8o E w0 x N0 Q))
 (b7 (i5 3 v16) fun v57=>
 b7 (b8 S25 v57) fun v58=>
 o9 Tryz.prog E w0 x B4 [v24,v58] S25 fun v59 S60=>
 b7 (i5 0 v16) fun v61=>
 b7 (b8 S60 v61) fun v62=>
 b7 (i6 .eql v62 (.int .u8 7)) fun v63=>
 j1 v63
 (b7 (i5 4 v16) fun v64=>
 b7 (b8 S60 v64) fun v65=>
 o9 Tryz.prog E w0 x B4 [v59,v65] S60 fun v66 S67=>
 a1Q E w0 x N0 Q x1 v66 x4 S67)
 (a1Q E w0 x N0 Q x1 v59 x4 S60)))
 (b7 (i5 1 x1) fun v68=>
 b7 (b8 S v68) fun v69=>
 b7 (l9 v69) fun v70=>
 o9 Tryz.prog E w0 x B4 [x3,v70] S fun v71 S72=>
 j0 Tryz.prog E w0 x (.loop a9F) (j9 139 [1,3,7] [x1,v71,(.int .i64 0)]) S72 (a9x E w0 x Q))
theorem c2G{E:j6}{w0:World}{x:Bool}{N0:D→D→D→b9→Prop}{Q:D→b9→Prop}{x1 x3 x4:D}{S:b9}(h:a8X E w0 x N0 Q x1 x3 x4 S):
  j0 Tryz.prog E w0 x a8O (j9 139 [1,3,4] [x1,x3,x4]) S (q8 (fun T S=>N0 (T.getD 1 d9) (T.getD 3 d9) (T.getD 4 d9) S) (a9t E w0 x Q)):=j3 E5 E6 m7 (by kernel_rfl) h
theorem c1p{E:j6}{w0:World}{x:Bool}{Q:D→b9→Prop}(I:Nat→D→D→D→b9→Prop)
  (step:∀n x1 x3 x4 S,I n x1 x3 x4 S→a8X E w0 x (fun x1 x3 x4 S=>∃m,m<n∧I m x1 x3 x4 S) Q x1 x3 x4 S)
  {n:Nat} {x1 x3 x4:D} {S:b9} (h:I n x1 x3 x4 S):j0 Tryz.prog E w0 x (.loop a8O) (j9 139 [1,3,4] [x1,x3,x4]) S (a9t E w0 x Q):=
 o3 (k:=139) (n:=n) (I:=fun n T S=>I n (T.getD 1 d9) (T.getD 3 d9) (T.getD 4 d9) S) (fun n T S hl hI=>o5 [1,3,4] hl (j0.mono (c2G (step n _ _ _ S hI)) fun ex T' S' _ hq=>by cases ex<;>exact hq)) (l8 ..) (Eq.mp (by kernel_rfl) h)
def c0H(E:j6)(w0:World)(x:Bool)(Q:D→b9→Prop)(a0:D)(S:b9):Prop:=
 b7 (q6 a0) fun cs=>m8 S cs fun v0 S1=>
 b7 (i5 0 v0) fun v2=>
 b7 (b8 S1 v2) fun v3=>
 b7 (l9 v3) fun v4=>
 o9 Tryz.prog E w0 x B4 [.nilSlc,v4] S1 fun v5 S6=>
 j0 Tryz.prog E w0 x (.loop a8O) (j9 139 [1,3,4] [v0,v5,(.int .i64 0)]) S6 (a9t E w0 x Q)
theorem c6I{E:j6}{w0:World}{x:Bool}{Q:D→b9→Prop}{a0:D}{S:b9}(h:c0H E w0 x (i9 E Q) a0 S):o9 Tryz.prog E w0 x b3G [a0] S Q:=
 l7 E5 E6 (fn:=Tryz.f20) (c:=Tryz.f20.body.getD .skip) m7 Tryz.func20 (by kernel_rfl) (by kernel_rfl) h
def c6r:List (Nat×List Nat):=[]
def c5F:List (Nat×List Nat):=[]
def b5y(E:j6)(w0:World)(x:Bool)(Q:D→b9→Prop)(a0:D)(S:b9):Prop:=
 b7 (q6 a0) fun cs=>m8 S cs fun v0 S1=>
 b7 (j2 S1 3 v0) fun v2=>
 o9 Tryz.prog E w0 x a2s [v2] S1 fun v3 S4=>
 b7 (i6 .neq v3 (.int .i64 0)) fun v5=>
 j1 v5
 (Q (.tup [.nilSlc,v3]) S4)
 (b7 (j2 S4 3 v0) fun v6=>
 o9 Tryz.prog E w0 x b3G [v6] S4 fun v7 S8=>
 q7 S8 1 (m9 1 (List.replicate 4 [(.int .u8 0)]) [(0,(.int .u8 84)),(1,(.int .u8 82)),(2,(.int .u8 77)),(3,(.int .u8 1))]) 4 fun v9 S10=>
 b7 (l9 v7) fun v11=>
 b7 (E7 .u64 v11) fun v12=>
 o9 Tryz.prog E w0 x a2A [v12,(.int .i64 4)] S10 fun v13 S14=>
 r6 S14 1 1 v9 v13 fun v15 S16=>
 r6 S16 1 1 v15 v7 fun v17 S18=>
 o9 Tryz.prog E w0 x b6G [v7] S18 fun v19 S20=>
 b7 (E7 .u64 v19) fun v21=>
 o9 Tryz.prog E w0 x a2A [v21,(.int .i64 4)] S20 fun v22 S23=>
 r6 S23 1 1 v17 v22 fun v24 S25=>
 Q (.tup [v24,(.int .i64 0)]) S25)
theorem c1m{E:j6}{w0:World}{x:Bool}{Q:D→b9→Prop}{a0:D}{S:b9}(h:b5y E w0 x (i9 E Q) a0 S):o9 Tryz.prog E w0 x a8w [a0] S Q:=
 l7 c6r c5F (fn:=Tryz.f8) (c:=Tryz.f8.body.getD .skip) m7 Tryz.func8 (by kernel_rfl) (by kernel_rfl) h
end Go.Proofs.YtchnpgddpaonhaaGreat.d
end
section
open Go.Proofs Go Go.Am Go.Op
namespace Go.Proofs.YtchnpgddpaonhaaGreat.d
section
def BAt(S:b9)(av:List Nat)(t:D)(bs:List Int)(T:b9):Prop:=S.le T∧(∀j∈av,T j≠none)∧GrA S av t (y9 (bs.map (D.int .u8))) 1 T
section
variable{E:j6}{w0:World}{S T:b9}{av:List Nat}{t:D}{bs ms:List Int}
theorem BAt.app(h:BAt S av t bs T){v:D}(hv:rowsS T 1 v=some (y9 (ms.map (D.int .u8))))(hb:bs.length+ms.length<2^44){K:D→b9→Prop}(hK:∀t' T',BAt S av t' (bs++ms) T'→(∀j∈av,T' j=T j)→K t' T'):r6 T 1 1 t v K:=by
 obtain⟨h1,h2,h3⟩:=h
 by_cases hn:ms=[]
 ·subst hn
  have hskip:K t T→r6 T 1 1 t v K:=fun hK=>by
   simp only[r6,hv,List.map_nil]
   rcases h3 with ⟨rfl,_⟩|⟨k,acs,_,_,rfl,_⟩<;>exact hK
  exact hskip (hK t T ⟨h1,h2,by rw[List.append_nil];exact h3⟩ fun _ _=>rfl)
 ·refine h3.push h1 h2 hv (by simpa [y9]using hn) (by simp only[W0,List.length_map];omega) fun t' T' g1 g2 g3=>hK t' T' ⟨g1,fun j hj=>by rw[g2 j hj];exact h2 j hj, ?_⟩ g2
  rw[List.map_append,a0h];exact g3
theorem BAt.more(h:BAt S av t bs T){l:Nat}{o:K8}(hl:T l=none):BAt S (l::av) t bs (T.set l o):=by
 obtain⟨h1,h2,h3⟩:=h
 have nt:∀j∈ob t,j≠l:=fun j hj e=>h3.ob_some j hj (by rw[e];exact hl)
 refine⟨b9.le_set h1 (b9.none_of h1 hl),fun j hj=> ?_,h3.apart (fun j hj=>b9.set_ne _ _ _ (nt j hj)) fun j hj hm=> ?_⟩
 ·rcases List.mem_cons.1 hj with rfl|hj
  ·rw[b9.set_same];simp
  ·rw[b9.set_ne _ _ _ fun e=>h2 j hj (by rw[e];exact hl)];exact h2 j hj
 ·rcases List.mem_cons.1 hm with e|hm
  ·exact nt j hj e
  ·exact h3.ob_av j hj hm
theorem BAt.less(h:BAt S av t bs T){av':List Nat}(ha:∀j∈av',j∈av):BAt S av' t bs T:=by
 obtain⟨h1,h2,h3⟩:=h
 exact⟨h1,fun j hj=>h2 j (ha j hj),h3.apart (fun _ _=>rfl) fun j hj hm=>h3.ob_av j hj (ha j hm)⟩
theorem d8S{n0:Nat}(hn:n0<2^64):L1 Tryz.prog E w0 a6i [.int .u64 (n0:Int)] (bD (d7I n0)):=fun x S=>(c2q hn).fin fun d S' h=>h.fin i9.pure
theorem c7n{u:Int}{s:Nat}(h8:s≤8):L1 Tryz.prog E w0 a2A [.int .u64 u, .int .i64 (s:Int)] (bD (F6 u s)):=fun x S=>(c8i h8).fin fun d S' h=>h.fin i9.pure
theorem C9{x:Bool}(h:BAt S av t bs T)(hl:bs.length<2^43){n:Int}:o9 Tryz.prog E w0 x B4 [t, .int .i64 n] T fun d T'=>BAt S av d (bs++A7 n) T'∧∀j∈av,T' j=T j:=by
 refine c1R ?_
 unfold b6R
 rw[cvI,oD,c1c]
 refine(d8S (by omega)).use ?_
 have:=u6 n
 exact h.app (ms:=A7 n) (a7h _ _) (by omega) fun t' T' g1 g2=>i9.here ⟨g1,g2⟩
theorem a2y{x:Bool}(h:BAt S av t bs T)(hl:bs.length<2^42){s:Tx}(hs:s.length≤65536):o9 Tryz.prog E w0 x a0r [t, .str s] T fun d T'=>BAt S av d (bs++K3 s) T'∧∀j∈av,T' j=T j:=by
 refine c5e ?_
 unfold c1A
 rw[lnS,oD]
 refine(C9 h (by omega)).use ?_
 rintro v T1 ⟨h1,e1⟩
 have:=u6 s.length
 refine h1.app (ms:=bytesOf s) (by simp[rowsS,bytesOf,y9,Function.comp_def]) (by simp[bytesOf];omega) fun t' T' g1 g2=>i9.here ⟨?_,fun j hj=>by rw[g2 j hj,e1 j hj]⟩
 unfold K3
 rw[←List.append_assoc];exact g1
theorem c9I(l:List Int):(l.flatMap A7).length≤10*l.length:=by
 induction l with
 |nil=>simp
 |cons a l ih=>have:=u6 a;simp only[List.flatMap_cons,List.length_append,List.length_cons];omega
theorem b1L{x:Bool}(h:BAt S av t bs T)(hb:bs.length<2^41){l:List Int}(hl:l.length<2^30):o9 Tryz.prog E w0 x a2F [t,iD l] T fun d T'=>BAt S av d (bs++b8N l) T'∧∀j∈av,T' j=T j:=by
 refine c0b ?_
 unfold b4E
 rw[M5,oD]
 refine(C9 h (by omega)).use ?_
 rintro v T1 ⟨h1,e1⟩
 refine b5G (I:=fun n x0 x1 x5 T2=>x1=iD l∧∃i:Nat,x5= .int .i64 (i:Int)∧i+n=l.length∧BAt S av x0 (bs++A7 l.length++(l.take i).flatMap A7) T2∧∀j∈av,T2 j=T j) ?_ (n:=l.length)
  ⟨rfl,0,rfl,by omega,by simpa using h1,e1⟩
 rintro n x0 _ _ T2 ⟨rfl,i,rfl,hi,h2,e2⟩
 unfold a4A
 rw[M5,oD,A5,oD,B3]
 refine⟨fun hlt=> ?_,fun hge=> ?_⟩
 ·have hlt:i<l.length:=by omega
  have ei:l[i]? =some l[i]:=List.getElem?_eq_getElem hlt
  rw[c0L ei,oD,lsE,List.getElem?_cons_zero,oD]
  have u1:=c9I (l.take i)
  have u2:=u6 l.length
  refine(C9 h2 (by simp only[List.length_append,List.length_take]at u1 ⊢;omega)).use ?_
  rintro v T3 ⟨h3,e3⟩
  rw[s8,oD,j8 (by omega) (by omega)]
  exact⟨n - 1,by omega,rfl,i+1,rfl,by omega,by rw[K6 ei, ←List.append_assoc];exact h3,fun j hj=>by rw[e3 j hj,e2 j hj]⟩
 ·rw[List.take_of_length_le (by omega),List.append_assoc]at h2
  exact i9.here ⟨h2,e2⟩
theorem c9S{m:Mo}(hm:m.Fits)(hb:m.Brief)(hB:(D2 m).length<2^36):L1 Tryz.prog E w0 b3G [Z0 m] (bD (D2 m)):=fun x S=>by
 refine c6I ?_
 unfold c0H
 rw[Z0,J5,oD]
 intro k a n
 have c0:w9 (S.set k ⟨3,[F8 m],a⟩) k 3 (F8 m):=w9.new
 have hle:S.le (S.set k ⟨3,[F8 m],a⟩):=b9.le_new n
 rw[show(F8 m).length=3 from rfl]
 have hA:BAt S [k] .nilSlc [] (S.set k ⟨3,[F8 m],a⟩):=⟨hle,fun j hj=>by simp only[List.mem_singleton]at hj;subst hj;exact c0.there,GrA.nil⟩
 generalize S.set k ⟨3,[F8 m],a⟩=S1 at*
 have q0:(F8 m)[0]? =some (b1E m.types):=rfl
 have q1:(F8 m)[1]? =some (a6A m.texts):=rfl
 have q2:(F8 m)[2]? =some (b1r m.funcs):=rfl
 have t0:=hm.types
 have t1:=hm.texts
 have t2:=hm.funcs
 have eB:(D2 m).length=(A7 m.types.length).length+(m.types.flatMap tyB).length+(A7 m.texts.length).length+(m.texts.flatMap K3).length+(A7 m.funcs.length).length+(m.funcs.flatMap roB).length:=by
  unfold D2;simp only[List.length_append];omega
 have n0:=u6 m.types.length
 have n1:=u6 m.texts.length
 have n2:=u6 m.funcs.length
 have kk:∀ {T T':b9},w9 T k 3 (F8 m)→(∀j∈[k],T' j=T j)→w9 T' k 3 (F8 m):=fun c e=>c.of (e k (by simp))
 simp only[u5,oD,Nat.zero_add,c0.ld,q0,G6]
 refine(C9 hA (by simp)).use ?_
 rintro v T0 ⟨h0,e0⟩
 rw[List.nil_append]at h0
 have c0:=kk c0 e0
 refine c1p (I:=fun n x1 x3 x4 T=>x1= .ptr k 0∧w9 T k 3 (F8 m)∧∃i:Nat,x4= .int .i64 (i:Int)∧i+n=m.types.length∧BAt S [k] x3 (A7 m.types.length++(m.types.take i).flatMap tyB) T) ?_ (n:=m.types.length)
  ⟨rfl,c0,0,rfl,by omega,by simpa using h0⟩
 rintro n _ x3 _ T ⟨rfl,cT,i,rfl,hi,hT⟩
 unfold a8X
 simp only[u5,oD,Nat.zero_add,cT.ld,q0,q1,G6,J9,A5]
 rw[B3]
 refine⟨fun hlt=> ?_,fun hge=> ?_⟩
 ·have hlt:i<m.types.length:=by omega
  obtain⟨t,ht⟩:∃t,t=m.types[i]:=⟨_,rfl⟩
  have et:m.types[i]? =some t:=by rw[List.getElem?_eq_getElem hlt,ht]
  have htm:t∈m.types:=by rw[ht];exact List.getElem_mem _
  obtain⟨b1,b2,b3⟩:=hb.ty t htm
  have hfl:=a1z (f:=tyB) m.types i
  have hone:=K6 (f:=tyB) et
  generalize hI:A7 m.types.length++(m.types.take i).flatMap tyB=I at hT
  have hIl:I.length<2^37:=by rw[←hI,List.length_append];omega
  rw[a0l et,oD,d0l,oD]
  intro k2 a2 nk2
  refine(w9.new (sz:=5) (c:=[(.int .u8 0),(.str []), .nilSlc,(.int .i64 0),(.int .i64 0)])).st (ds:=B9 t) (J5 _) ⟨rfl,by decide,by decide⟩ fun a2=> ?_
  rw[b9.set_set,show o0 [(D.int .u8 0),(.str []), .nilSlc,(.int .i64 0),(.int .i64 0)] 0 (B9 t)=B9 t from rfl]
  have c5:w9 (T.set k2 ⟨5,[B9 t],a2⟩) k2 5 (B9 t):=w9.new
  have cT2:=cT.set (o:=⟨5,[B9 t],a2⟩) nk2
  have hT2:=hT.more (o:=⟨5,[B9 t],a2⟩) nk2
  generalize T.set k2 ⟨5,[B9 t],a2⟩=T2 at*
  have two:∀ {T T':b9},w9 T k 3 (F8 m)∧w9 T k2 5 (B9 t)→(∀j∈[k2,k],T' j=T j)→w9 T' k 3 (F8 m)∧w9 T' k2 5 (B9 t):=fun c e=>⟨c.1.of (e k (by simp)),c.2.of (e k2 (by simp))⟩
  have p0:(B9 t)[0]? =some (.int .u8 t.kind):=rfl
  have p1:(B9 t)[1]? =some (.str t.name):=rfl
  have p2:(B9 t)[2]? =some (O9 t.fields):=rfl
  have p3:(B9 t)[3]? =some (.int .i64 t.elem):=rfl
  have p4:(B9 t)[4]? =some (.int .i64 t.len):=rfl
  have l0:=u6 t.name.length
  have l1:=u6 t.fields.length
  have l2:=u6 t.elem
  have l3:=u6 t.len
  have done:∀ {v:D} {T3:b9},w9 T3 k 3 (F8 m)→BAt S [k2,k] v (I++tyB t) T3→a1Q E w0 x (fun x1 x3 x4 S_1=>∃m_1,m_1<n∧x1= .ptr k 0∧w9 S_1 k 3 (F8 m)∧∃i:Nat,x4= .int .i64 (i:Int)∧i+m_1=m.types.length∧BAt S [k] x3 (A7 m.types.length++(m.types.take i).flatMap tyB) S_1) (i9 E fun d' S'=>d'=bD (D2 m)∧S'=S) (.ptr k 0) v (.int .i64 (i:Int)) T3:=fun{v T3} c3 h3=>by
   refine c2f ?_
   unfold b5Y
   rw[s8,oD,j8 (by omega) (by omega)]
   refine⟨n - 1,by omega,rfl,c3,i+1,rfl,by omega, ?_⟩
   rw[hone, ←List.append_assoc,hI]
   exact h3.less fun j hj=>by simp at hj;simp[hj]
  rw[u5,oD,c5.ld,Nat.zero_add,p0,oD,show m9 1 (List.replicate 1 [D.int .u8 0]) [(0, .int .u8 t.kind)]=some (y9 (([t.kind]:List Int).map (D.int .u8))) from rfl]
  refine F5 rfl ?_
  refine hT2.app (ms:=[t.kind]) (by simp[rowsS,L2]) (by simp;omega) fun v3 T3 h3 e3=> ?_
  obtain⟨cT3,c53⟩:=two ⟨cT2,c5⟩ e3
  simp only[u5,oD,Nat.zero_add,c53.ld,p0,a0i]
  rw[B3]
  refine⟨fun k6=> ?_,fun k6=> ?_⟩
  ·simp only[u5,oD,Nat.zero_add,c53.ld,p1]
   refine(a2y h3 (by simp;omega) b1).use ?_
   rintro v4 T4 ⟨h4,e4⟩
   obtain⟨cT4,c54⟩:=two ⟨cT3,c53⟩ e4
   have lt:(K3 t.name).length≤65546:=by unfold K3;simp only[List.length_append,bytesOf,List.length_map];omega
   simp only[u5,oD,Nat.zero_add,c54.ld,p2,B0]
   refine(C9 h4 (by simp;omega)).use ?_
   rintro v5 T5 ⟨h5,e5⟩
   have c5':=two ⟨cT4,c54⟩ e5
   generalize hJ:I++[t.kind]++K3 t.name++A7 t.fields.length=J at h5
   have hJl:J.length<2^38:=by rw[←hJ];simp;omega
   have htb:tyB t=t.kind::(K3 t.name++(A7 t.fields.length++t.fields.flatMap a6W)):=by unfold tyB;rw[if_pos k6]
   have fl:∀j:Nat,((t.fields.take j).flatMap a6W).length≤65556*j:=fun j=>by
    induction j with
    |zero=>simp
    |succ j ih=>
     cases h:t.fields[j]? with
     |none=>
      have:t.fields.length≤j:=List.getElem?_eq_none_iff.1 h
      rw[List.take_of_length_le (by omega)]
      rw[List.take_of_length_le this]at ih;omega
     |some f=>
      rw[a5Q h]
      have:=b3 f (List.mem_of_getElem? h)
      have u0:=u6 f.1.length
      have u1:=u6 f.2
      have hfb:(a6W f).length=(A7 f.1.length).length+f.1.length+(A7 f.2).length:=by
       unfold a6W K3;simp only[List.length_append,bytesOf,List.length_map]
      omega
   refine c0D (I:=fun n' x1 x3 x4 x5 x6 T=>x1= .ptr k 0∧x4= .int .i64 (i:Int)∧x5= .ptr k2 0∧(w9 T k 3 (F8 m)∧w9 T k2 5 (B9 t))∧∃j:Nat,x6= .int .i64 (j:Int)∧j+n'=t.fields.length∧BAt S [k2,k] x3 (J++(t.fields.take j).flatMap a6W) T) ?_ (n:=t.fields.length)
    ⟨rfl,rfl,rfl,c5',0,rfl,by omega,by simpa using h5⟩
   rintro n' _ x3' _ _ _ T6 ⟨rfl,rfl,rfl,c6,j,rfl,hj,h6⟩
   unfold a9Q
   simp only[u5,oD,Nat.zero_add,c6.2.ld,p2,B0,A5]
   rw[B3]
   refine⟨fun hjl=> ?_,fun hjg=> ?_⟩
   ·have hjl:j<t.fields.length:=by omega
    obtain⟨f,hf⟩:∃f,f=t.fields[j]:=⟨_,rfl⟩
    have ef:t.fields[j]? =some f:=by rw[List.getElem?_eq_getElem hjl,hf]
    have b4:=b3 f (by rw[hf];exact List.getElem_mem _)
    have s0:(O1 f)[0]? =some (.str f.1):=rfl
    have s1:(O1 f)[1]? =some (.int .i64 f.2):=rfl
    have u:=fl j
    have u0:=u6 f.1.length
    have u1:=u6 f.2
    simp only[V2 ef,ofE,oD,lsE,Nat.zero_add,s0]
    refine(a2y h6 (by simp only[List.length_append];omega) b4).use ?_
    rintro v7 T7 ⟨h7,e7⟩
    have c7:=two c6 e7
    have lt2:(K3 f.1).length≤65546:=by unfold K3;simp only[List.length_append,bytesOf,List.length_map];omega
    simp only[u5,oD,Nat.zero_add,c7.2.ld,p2,V2 ef,ofE,lsE,s1]
    refine(C9 h7 (by simp only[List.length_append];omega)).use ?_
    rintro v8 T8 ⟨h8,e8⟩
    have c8:=two c7 e8
    rw[s8,oD,j8 (by omega) (by omega)]
    refine⟨n' - 1,by omega,by trivial,by trivial,by trivial,c8,j+1,rfl,by omega, ?_⟩
    rw[K6 ef]
    unfold a6W
    simp only[List.append_assoc]at h8 ⊢
    exact h8
   ·rw[List.take_of_length_le (by omega)]at h6
    refine done c6.1 ?_
    rw[htb]
    rw[←hJ]at h6
    simp only[List.append_assoc,List.cons_append,List.nil_append]at h6 ⊢
    exact h6
  ·simp only[u5,oD,Nat.zero_add,c53.ld,p3]
   refine(C9 h3 (by simp;omega)).use ?_
   rintro v4 T4 ⟨h4,e4⟩
   obtain⟨cT4,c54⟩:=two ⟨cT3,c53⟩ e4
   simp only[u5,oD,Nat.zero_add,c54.ld,p0,a0i]
   rw[B3]
   refine⟨fun k7=> ?_,fun k7=> ?_⟩
   ·simp only[u5,oD,Nat.zero_add,c54.ld,p4]
    refine(C9 h4 (by simp;omega)).use ?_
    rintro v5 T5 ⟨h5,e5⟩
    obtain⟨cT5,c55⟩:=two ⟨cT4,c54⟩ e5
    refine done cT5 ?_
    have htb:tyB t=t.kind::(A7 t.elem++A7 t.len):=by unfold tyB;rw[if_neg k6,if_pos k7]
    rw[htb]
    simp only[List.append_assoc,List.cons_append,List.nil_append]at h5 ⊢
    exact h5
   ·refine done cT4 ?_
    have htb:tyB t=t.kind::A7 t.elem:=by unfold tyB;rw[if_neg k6,if_neg k7,List.append_nil]
    rw[htb]
    simp only[List.append_assoc,List.cons_append,List.nil_append]at h4 ⊢
    exact h4
 rw[List.take_of_length_le (by omega)]at hT
 generalize hI:A7 m.types.length++m.types.flatMap tyB=I at hT
 have hIl:I.length<2^37:=by rw[←hI,List.length_append];omega
 refine(C9 hT (by omega)).use ?_
 rintro v T1 ⟨h1,e1⟩
 have c1:=kk cT e1
 refine c2i (I:=fun n x1 x3 x7 T=>x1= .ptr k 0∧w9 T k 3 (F8 m)∧∃i:Nat,x7= .int .i64 (i:Int)∧i+n=m.texts.length∧BAt S [k] x3 (I++A7 m.texts.length++(m.texts.take i).flatMap K3) T) ?_ (n:=m.texts.length)
  ⟨rfl,c1,0,rfl,by omega,by simpa using h1⟩
 rintro n _ x3 _ T ⟨rfl,cT,i,rfl,hi,hT⟩
 unfold a8e
 simp only[u5,oD,Nat.zero_add,cT.ld,q1,q2,J9,I9,A5]
 rw[B3]
 have hfl:=a1z (f:=K3) m.texts i
 refine⟨fun hlt=> ?_,fun hge=> ?_⟩
 ·have hlt:i<m.texts.length:=by omega
  have ei:m.texts[i]? =some m.texts[i]:=List.getElem?_eq_getElem hlt
  rw[a7t ei,oD,lsE,List.getElem?_cons_zero,oD]
  refine(a2y hT (by simp only[List.length_append];omega) (hb.tx _ (List.getElem_mem _))).use ?_
  rintro v T2 ⟨h2,e2⟩
  rw[s8,oD,j8 (by omega) (by omega)]
  exact⟨n - 1,by omega,by trivial,kk cT e2,i+1,rfl,by omega,by rw[K6 ei, ←List.append_assoc];exact h2⟩
 rw[List.take_of_length_le (by omega)]at hT
 generalize hI2:I++A7 m.texts.length++m.texts.flatMap K3=I2 at hT
 have hI2l:I2.length<2^38:=by rw[←hI2];simp only[List.length_append];omega
 refine(C9 hT (by omega)).use ?_
 rintro v T3 ⟨h3,e3⟩
 have c3:=kk cT e3
 refine c2c (I:=fun n x1 x3 x8 T=>x1= .ptr k 0∧w9 T k 3 (F8 m)∧∃i:Nat,x8= .int .i64 (i:Int)∧i+n=m.funcs.length∧BAt S [k] x3 (I2++A7 m.funcs.length++(m.funcs.take i).flatMap roB) T) ?_ (n:=m.funcs.length)
  ⟨rfl,c3,0,rfl,by omega,by simpa using h3⟩
 rintro n _ x3 _ T ⟨rfl,cT,i,rfl,hi,hT⟩
 unfold a9q
 simp only[u5,oD,Nat.zero_add,cT.ld,q2,I9,A5]
 rw[B3]
 have hfl:=a1z (f:=roB) m.funcs i
 refine⟨fun hlt=> ?_,fun hge=> ?_⟩
 ·have hlt:i<m.funcs.length:=by omega
  obtain⟨f,hf⟩:∃f,f=m.funcs[i]:=⟨_,rfl⟩
  have ef:m.funcs[i]? =some f:=by rw[List.getElem?_eq_getElem hlt,hf]
  have hfm:f∈m.funcs:=by rw[hf];exact List.getElem_mem _
  obtain⟨b1,b2,b3,b4⟩:=hb.ro f hfm
  have hone:=K6 (f:=roB) ef
  generalize hI3:I2++A7 m.funcs.length++(m.funcs.take i).flatMap roB=I3 at hT
  have hI3l:I3.length<2^39:=by rw[←hI3];simp only[List.length_append];omega
  rw[a1k ef,oD,d0n,oD]
  intro k2 a2 nk2
  refine(w9.new (sz:=6) (c:=[(.str []), .nilSlc, .nilSlc,(.int .i64 0),(.int .i64 0), .nilSlc])).st (ds:=F9 f) (J5 _) ⟨rfl,by decide,by decide⟩ fun a2=> ?_
  rw[b9.set_set,show o0 [(.str []), .nilSlc, .nilSlc,(.int .i64 0),(.int .i64 0), .nilSlc] 0 (F9 f)=F9 f from rfl]
  have c6:w9 (T.set k2 ⟨6,[F9 f],a2⟩) k2 6 (F9 f):=w9.new
  have cT2:=cT.set (o:=⟨6,[F9 f],a2⟩) nk2
  have hT2:=hT.more (o:=⟨6,[F9 f],a2⟩) nk2
  generalize T.set k2 ⟨6,[F9 f],a2⟩=T2 at*
  have two:∀ {T T':b9},w9 T k 3 (F8 m)∧w9 T k2 6 (F9 f)→(∀j∈[k2,k],T' j=T j)→w9 T' k 3 (F8 m)∧w9 T' k2 6 (F9 f):=fun c e=>⟨c.1.of (e k (by simp)),c.2.of (e k2 (by simp))⟩
  have p0:(F9 f)[0]? =some (.str f.name):=rfl
  have p1:(F9 f)[1]? =some (iD f.params):=rfl
  have p2:(F9 f)[2]? =some (iD f.results):=rfl
  have p3:(F9 f)[3]? =some (.int .i64 f.locals):=rfl
  have p4:(F9 f)[4]? =some (.int .i64 f.stack):=rfl
  have p5:(F9 f)[5]? =some (bD f.code):=rfl
  have l0:=u6 f.name.length
  have l1:=u6 f.params.length
  have l2:=u6 f.results.length
  have l3:=u6 f.locals
  have l4:=u6 f.stack
  have u1:=c9I f.params
  have u2:=c9I f.results
  have lt:(K3 f.name).length≤65546:=by unfold K3;simp only[List.length_append,bytesOf,List.length_map];omega
  have lp:(b8N f.params).length≤400:=by unfold b8N;simp only[List.length_append];omega
  have lr:(b8N f.results).length≤400:=by unfold b8N;simp only[List.length_append];omega
  simp only[u5,oD,Nat.zero_add,c6.ld,p0]
  refine(a2y hT2 (by omega) b1).use ?_
  rintro v4 T4 ⟨h4,e4⟩
  have c4:=two ⟨cT2,c6⟩ e4
  simp only[u5,oD,Nat.zero_add,c4.2.ld,p1]
  refine(b1L h4 (by simp only[List.length_append];omega) (by omega)).use ?_
  rintro v5 T5 ⟨h5,e5⟩
  have c5:=two c4 e5
  simp only[u5,oD,Nat.zero_add,c5.2.ld,p2]
  refine(b1L h5 (by simp only[List.length_append];omega) (by omega)).use ?_
  rintro v6 T6 ⟨h6,e6⟩
  have c6:=two c5 e6
  simp only[u5,oD,Nat.zero_add,c6.2.ld,p3]
  refine(C9 h6 (by simp only[List.length_append];omega)).use ?_
  rintro v7 T7 ⟨h7,e7⟩
  have c7:=two c6 e7
  simp only[u5,oD,Nat.zero_add,c7.2.ld,p4]
  refine(C9 h7 (by simp only[List.length_append];omega)).use ?_
  rintro v8 T8 ⟨h8,e8⟩
  have c8:=two c7 e8
  simp only[u5,oD,Nat.zero_add,c8.2.ld,p5,c4N]
  refine(a2y h8 (by simp only[List.length_append];omega) (s:=b8e f.code) (by rw[d9y];omega)).use ?_
  rintro v9 T9 ⟨h9,e9⟩
  have c9:=two c8 e9
  rw[s8,oD,j8 (by omega) (by omega)]
  refine⟨n - 1,by omega,by trivial,c9.1,i+1,rfl,by omega, ?_⟩
  rw[hone, ←List.append_assoc,hI3]
  have:BAt S [k2,k] v9 (I3++roB f) T9:=by
   unfold roB
   simp only[List.append_assoc]at h9 ⊢
   exact h9
  exact this.less fun j hj=>by simp at hj;simp[hj]
 rw[List.take_of_length_le (by omega)]at hT
 have hfin:I2++A7 m.funcs.length++m.funcs.flatMap roB=D2 m:=by
  rw[←hI2, ←hI];unfold D2;simp only[List.append_assoc]
 rw[hfin]at hT
 obtain⟨hT1,_,hT3⟩:=hT
 obtain⟨S',s1,s2⟩:=hT3.grw hT1
 exact i9.less s1 (s2.fin i9.pure)
end
end
section
theorem d7m{m:Mo}(h:(J0 m).2=0):(D2 m).length≤2097140:=by
 unfold J0 at h
 split at h
 ·rename_i h0;exact(h0 h).elim
 split at h
 ·cases h
 ·omega
theorem d9B{m:Mo}(h:(J0 m).2≠0):(J0 m).1=[]:=by
 unfold J0 at h ⊢
 split
 ·rfl
 rename_i h0
 rw[if_neg h0]at h
 split
 ·rfl
 rename_i h1
 rw[if_neg h1]at h
 exact(h rfl).elim
section
variable{E:j6}{w0:World}
theorem c5f{m:Mo}(hm:m.Fits):a6Z Tryz.prog E w0 a8w [Z0 m] (.tup [bD (J0 m).1, .int .i64 (J0 m).2]):=fun S=>by
 refine c1m ?_
 unfold b5y
 rw[Z0,J5,oD]
 intro k a n
 have c0:w9 (S.set k ⟨3,[F8 m],a⟩) k 3 (F8 m):=w9.new
 have hle:S.le (S.set k ⟨3,[F8 m],a⟩):=b9.le_new n
 rw[show(F8 m).length=3 from rfl]
 generalize S.set k ⟨3,[F8 m],a⟩=S1 at*
 have lm:j2 S1 3 (.ptr k 0)=some (Z0 m):=c0.all (by decide) rfl
 rw[lm,oD]
 refine(a8T hm).use ?_
 rw[c7c,oD,B3]
 refine⟨fun h=> ?_,fun h=> ?_⟩
 ·rw[d9B h]
  exact i9.less hle (i9.weak (d':= .tup [bD [], .int .i64 (J0 m).2]) (Wk.tup ⟨Wk.nil 1,Wk.refl _,trivial⟩) i9.pure)
 have h:(J0 m).2=0:=Classical.not_not.1 h
 obtain⟨s0,he⟩:=d8Y h
 have hl:=d7m h
 rw[lm,oD]
 refine(c9S hm (c8L s0) (by omega)).use ?_
 rw[show m9 1 (List.replicate 4 [D.int .u8 0]) [(0, .int .u8 84),(1, .int .u8 82),(2, .int .u8 77),(3, .int .u8 1)]=some (y9 (([84,82,77,1]:List Int).map (D.int .u8))) from rfl]
 refine d2v fun k2 a2 n2=> ?_
 simp only[I8,oD,cvI]
 refine(c7n (s:=4) (by decide)).use ?_
 rw[a2z,b2c _ (by decide)]
 have first:∀K:D→b9→Prop,(∀t' S',a3L S1 t' ([84,82,77,1]++F6 (D2 m).length 4) S'→K t' S')→r6 (S1.set k2 ⟨1,y9 (([84,82,77,1]:List Int).map (D.int .u8)),a2⟩) 1 1 (.raw k2 0 4 4 true 1) (bD (F6 (D2 m).length 4)) K:=fun K hK=>by
  have hn:y9 ((F6 (D2 m).length 4).map (D.int .u8))≠[]:=fun e=>by
   have:=congrArg List.length e
   simp[s7]at this
  simp only[r6,a7h,a7T]
  rw[if_neg hn,b9.set_same]
  simp only
  rw[if_pos ⟨by trivial,by trivial,by simp[y9]⟩]
  refine⟨by simp[s7], .inr fun k' acs' hk'=> ?_⟩
  rw[b9.erase_set _ _ _ n2]at hk' ⊢
  refine hK _ _ (.inr ⟨k',acs',hk', ?_, ?_⟩)
  ·simp[s7]
  ·simp[y9]
 refine first _ fun t1 S2 g1=> ?_
 have l1:([84,82,77,1]++F6 (D2 m).length 4:List Int).length=8:=by simp[s7]
 refine g1.push (news:=y9 ((D2 m).map (D.int .u8))) (a7h _ _) (by simp only[W0,List.length_map,l1];omega) fun t2 S3 g2=> ?_
 refine(d3e (d7w hm.ok) (by omega)).use ?_
 rw[cvI,oD]
 refine(c7n (s:=4) (by decide)).use ?_
 rw[a2z,b2c _ (by decide)]
 refine g2.push (news:=y9 ((F6 (b8c (D2 m)) 4).map (D.int .u8))) (a7h _ _) (by simp only[W0,List.length_map,List.length_append,l1,s7];omega) fun t3 S4 g3=> ?_
 refine i9.grwT (pre:=[]) (post:=[.int .i64 0]) g3 ?_
 have e:(.lst (y9 (([84,82,77,1]++F6 (D2 m).length 4).map (D.int .u8))++y9 ((D2 m).map (D.int .u8))++y9 ((F6 (b8c (D2 m)) 4).map (D.int .u8))) 1:D)=bD (J0 m).1:=by
  rw[he]
  unfold bD
  simp only[List.map_append,a0h,List.append_assoc]
 rw[e,h]
 exact i9.less hle i9.pure
end
end
section
section
variable{E:j6}{w0:World}
theorem e0y{S0 S:b9}{v:D}{bs:List Int}(h:a3L S0 v bs S):P6 S v=some (.str (b8e bs)):=by
 have e:L2 S 1 v=some (y9 (bs.map (D.int .u8))):=by
  rcases h with ⟨rfl,e,rfl⟩|⟨k,acs,h0,rfl,rfl⟩
  ·rw[e];rfl
  ·simp only[L2,b9.set_same]
   simp
   rw[List.take_of_length_le (by simp)]
 simp only[P6,e,c7j,Option.map_some]
theorem d3G{S0 S:b9}{d:D}{l:List Int}(h:a3L S0 d l S){i:Nat}(hi:i<l.length){n:Int}{K:D→b9→Prop}(hK:∀S',a3L S0 d (l.set i n) S'→K d9 S'):
  ∃p,p6 1 d (.int .i64 (i:Int))=some p∧j7 S 1 p (.int .u8 n) K:=by
 rcases h with ⟨rfl,e,rfl⟩|⟨k,acs,h,rfl,rfl⟩
 ·have:=congrArg List.length e
  simp at this
  rw[this]at hi;simp at hi
 ·refine⟨_,e0Q (by simpa using hi), ?_⟩
  rw[Nat.zero_add]
  refine stR (ds:=[.int .u8 n]) (row:=[.int .u8 l[i]]) (b9.set_same _ _ _) (b5s (d:= .int .u8 l[i]) (by rw[List.getElem?_map,List.getElem?_eq_getElem hi];rfl)) (clI _ _) ⟨rfl,by decide,by simp⟩ fun acs'=> ?_
  rw[b9.set_set]
  refine hK _ (.inr ⟨k,acs',h,by simp, ?_⟩)
  have e:o0 [D.int .u8 l[i]] 0 [.int .u8 n]=[.int .u8 n]:=rfl
  rw[e,d4w, ←List.map_set]
theorem d9A{m:Mo}(hm:m.Fits){S:b9}{K:D→b9→Prop}(hK:∀v S',a3L S v (J0 m).1 S'→K (.tup [v, .int .i64 (J0 m).2]) S'):o9 Tryz.prog E w0 false G5 [moX m] S K:=by
 refine DF.weak (es:=[Z0 m]) ⟨d1C m,trivial⟩ ((b2q hm).use ?_)
 rintro d S' ⟨v,rfl,h⟩
 exact hK v S' h
theorem d7B{m:Mo}(hm:m.Fits){S:b9}{K:D→b9→Prop}(hK:K (.tup [bD (J0 m).1, .int .i64 (J0 m).2]) S):o9 Tryz.prog E w0 false G5 [moX m] S K:=
 DF.weak (es:=[Z0 m]) ⟨d1C m,trivial⟩ ((a6L hm).use hK)
theorem c9G{m:Mo}(hm:m.Fits){S:b9}{K:D→b9→Prop}(hK:K (.int .i64 (J0 m).2) S):o9 Tryz.prog E w0 false a2x [moX m] S K:=
 DF.weak (es:=[Z0 m]) ⟨d1C m,trivial⟩ ((c9m hm).use hK)
theorem c7i{m:Mo}(hm:m.Fits){S:b9}{k k2:Nat}(c0:w9 S k 3 (F8 m))(c2:w9 S k2 3 (c3J m)):
  b7 (j2 S 3 (.ptr k2 0)) fun v46=>
  o9 Tryz.prog E w0 false G5 [v46] S fun v47 S48=>
  b7 (o4 v47 0) fun v49=>
  b7 (o4 v47 1) fun v50=>
  b7 (P6 S48 v49) fun v51=>
  b7 (P6 S48 (bD (J0 m).1)) fun v52=>
  b7 (a3I .eql v51 v52) fun v53=>
  b7 (i4 (i0 v53 true) (j2 S48 3 (.ptr k2 0))) fun v54=>
  b7 (i4 (i0 v53 true) (j2 S48 3 (.ptr k 0))) fun v55=>
  F7 (i0 v53 true) (fun K=>o9 Tryz.prog E w0 false Z7 [v54,v55] S48 K) S48 fun v56 S57=>
  b7 (o7 v53 v56 (.bool false)) fun v58=>
  F7 (i0 v58 true) (fun K=>o9 Tryz.prog E w0 false a0S [] S57 K) S57 fun v59 S60=>
  b7 (o7 v58 v59 (.bool false)) fun v61=>i9 E (fun v _=>v= .bool true) v61 S60:=by
 have l0:j2 S 3 (.ptr k 0)=some (Z0 m):=c0.all (by decide) rfl
 have l2:j2 S 3 (.ptr k2 0)=some (moX m):=c2.all (by decide) rfl
 rw[l2,oD]
 refine d7B hm ?_
 simp only[exD,List.getElem?_cons_zero,List.getElem?_cons_succ,oD,c4N,e2n,decide_true,C5,P7,gdT,l0,l2,show((true==true)=true) from rfl]
 refine(c1X hm.ok).use ?_
 simp only[oD,C3,if_true,C5,gdT,show((true==true)=true) from rfl]
 refine c8Z.use ?_
 try simp only[oD,C3,if_true]
 exact i9.here rfl
theorem d6D(m:Mo):(J0 m).1.length≤2097152:=by
 unfold J0
 split
 ·simp
 split
 ·simp
 ·simp[s7];omega
theorem c2Y{m:Mo}(hm:m.Ok){S:b9}:o9 Tryz.prog E w0 false a6O [Z0 m] S fun v _=>v= .bool true:=by
 refine b3F ?_
 unfold a6T
 rw[Z0,J5,oD]
 intro k a n
 have c0:w9 (S.set k ⟨3,[F8 m],a⟩) k 3 (F8 m):=w9.new
 rw[show(F8 m).length=3 from rfl]
 generalize S.set k ⟨3,[F8 m],a⟩=S1 at*
 have l0:j2 S1 3 (.ptr k 0)=some (Z0 m):=c0.all (by decide) rfl
 rw[l0,oD]
 refine(d3K hm (N:=100000) (by decide)).use ?_
 rintro v S' ⟨rfl,b1,rfl,s1⟩
 rw[a4I,oD,B3]
 refine⟨fun _=>c8Z.use (i9.here rfl),fun c1=> ?_⟩
 have fm:=Mo.Small.fits hm (s1 (by omega)) (by decide)
 rw[l0,oD]
 refine(c1r fm).use ?_
 intro k2 a2 n2
 refine(w9.new (sz:=3) (c:=[.nilSlc, .nilSlc, .nilSlc])).st (ds:=c3J m) (J5 _) ⟨rfl,by decide,by decide⟩ fun a2=> ?_
 rw[b9.set_set,show o0 [.nilSlc, .nilSlc, .nilSlc] 0 (c3J m)=c3J m from rfl]
 have c2:w9 (S'.set k2 ⟨3,[c3J m],a2⟩) k2 3 (c3J m):=w9.new
 have c0:=c0.set (o:=⟨3,[c3J m],a2⟩) n2
 generalize S'.set k2 ⟨3,[c3J m],a2⟩=T at*
 have l0:j2 T 3 (.ptr k 0)=some (Z0 m):=c0.all (by decide) rfl
 have l2:j2 T 3 (.ptr k2 0)=some (moX m):=c2.all (by decide) rfl
 rw[l0,oD]
 refine(c5f fm).use ?_
 simp only[exD,List.getElem?_cons_zero,List.getElem?_cons_succ,oD,l2]
 refine d9A fm fun v T1 hg=> ?_
 simp only[exD,List.getElem?_cons_zero,List.getElem?_cons_succ,oD]
 have c01:=c0.le hg.le
 have c21:=c2.le hg.le
 have l01:j2 T1 3 (.ptr k 0)=some (Z0 m):=c01.all (by decide) rfl
 have l21:j2 T1 3 (.ptr k2 0)=some (moX m):=c21.all (by decide) rfl
 have hne:∀a:Tx,a3I .neq (.str a) (.str a)=some (.bool false):=fun a=>by rw[e2q];simp
 have hni:∀a:Int,i6 .neq (.int .i64 a) (.int .i64 a)=some (.bool false):=fun a=>by rw[c7c];simp
 refine⟨by trivial, ?_, ?_,trivial⟩
 ·simp only[e0y hg,c4N,oD,hne,hni,C5,P7,gdT,C3,Bool.false_eq_true,if_false,l21,show((false==false)=true) from rfl]
  refine c9G fm ?_
  simp only[oD,l01]
  refine(a8T fm).use ?_
  simp only[oD,hni,C3,Bool.false_eq_true,if_false,cdF]
  refine b1D (I:=fun n x1 x3 x4 x6 x8 S=>x1= .ptr k 0∧x3= .ptr k2 0∧x4=bD (J0 m).1∧x6=v∧∃(i:Nat) (bs:List Int),x8= .int .i64 (i:Int)∧i+n=(J0 m).1.length∧bs.length=(J0 m).1.length∧a3L T v bs S) ?_ (n:=(J0 m).1.length)
   ⟨rfl,rfl,rfl,rfl,0,_,rfl,by omega,rfl,hg⟩
  rintro n _ _ _ x6 _ S2 ⟨rfl,rfl,rfl,rfl,i,bs,rfl,hi,hbl,h⟩
  unfold a1b
  rw[h.len,oD,W0,List.length_map,A5,oD,B3]
  have hl60:=d6D m
  refine⟨fun hlt=> ?_,fun hge=>c7i fm (c0.le h.le) (c2.le h.le)⟩
  obtain⟨p,hp1,hp2⟩:=d3G h (i:=i) (by omega) (n:=99) (K:=fun v43 S44=>b7 (i6 .add (.int .i64 (i:Int)) (.int .i64 1)) fun v45=>∃m_1,m_1<n∧D.ptr k 0= .ptr k 0∧D.ptr k2 0= .ptr k2 0∧bD (J0 m).1=bD (J0 m).1∧x6=x6∧∃(i:Nat) (bs:List Int),v45= .int .i64 (i:Int)∧i+m_1=(J0 m).1.length∧bs.length=(J0 m).1.length∧a3L T x6 bs S44) fun S3 h3=>by
   rw[s8,oD,j8 (by omega) (by omega)]
   exact⟨n - 1,by omega,rfl,rfl,rfl,rfl,i+1,_,rfl,by omega,by simpa using hbl,h3⟩
  rw[hp1,oD]
  exact hp2
 ·simp only[e0y hg,c4N,oD,hne,hni,C5,P7,gdT,C3,Bool.false_eq_true,if_false,l21,l01,show((false==false)=true) from rfl]
  refine c9G fm ?_
  try simp only[oD,l01]
  refine(a8T fm).use ?_
  simp only[oD,hni,C3,Bool.false_eq_true,if_false,cdF]
  refine b1q (I:=fun n x1 x3 x4 x6 x8 S=>x1= .ptr k 0∧x3= .ptr k2 0∧x4=bD (J0 m).1∧x6=v∧∃(i:Nat) (bs:List Int),x8= .int .i64 (i:Int)∧i+n=(J0 m).1.length∧bs.length=(J0 m).1.length∧a3L T v bs S) ?_ (n:=(J0 m).1.length)
   ⟨rfl,rfl,rfl,rfl,0,_,rfl,by omega,rfl,hg⟩
  rintro n _ _ _ x6 _ S2 ⟨rfl,rfl,rfl,rfl,i,bs,rfl,hi,hbl,h⟩
  unfold a1a
  rw[h.len,oD,W0,List.length_map,A5,oD,B3]
  have hl60:=d6D m
  refine⟨fun hlt=> ?_,fun hge=>c7i fm (c0.le h.le) (c2.le h.le)⟩
  obtain⟨p,hp1,hp2⟩:=d3G h (i:=i) (by omega) (n:=99) (K:=fun v80 S44=>b7 (i6 .add (.int .i64 (i:Int)) (.int .i64 1)) fun v82=>∃m_1,m_1<n∧D.ptr k 0= .ptr k 0∧D.ptr k2 0= .ptr k2 0∧bD (J0 m).1=bD (J0 m).1∧x6=x6∧∃(i:Nat) (bs:List Int),v82= .int .i64 (i:Int)∧i+m_1=(J0 m).1.length∧bs.length=(J0 m).1.length∧a3L T x6 bs S44) fun S3 h3=>by
   rw[s8,oD,j8 (by omega) (by omega)]
   exact⟨n - 1,by omega,rfl,rfl,rfl,rfl,i+1,_,rfl,by omega,by simpa using hbl,h3⟩
  rw[hp1,oD]
  exact hp2
end
end
end Go.Proofs.YtchnpgddpaonhaaGreat.d
end
section
open Go Go.Am
namespace Go.Am.Old
open Go.ChangeShapes Go.WideShapes Go.ChangeAt Go.RowKit
section
variable{H:Type}{enc:TypeId×Value→H}{P:Program}{W:World}{b0:Nat}{sp:Nat→Bool}{hd:Bool}
theorem d8I{n:Nat}{t:TypeId}{k:IntKind}{cs:List Value}{x:DataW H×List MemPlace}(ht:P.underlying t=some (.int k))(h:DataW.trod enc P W b0 sp hd n t cs=some x):∃z,cs=[.int k z]∧(Lit.int k z).wf=true:=by
 cases n with
 |zero=>simp[DataW.trod]at h
 |succ n=>
  simp only[DataW.trod,ht]at h
  split at h
  all_goals (first|(cases h;done)|skip)
  all_goals simp_all
  all_goals (first|(obtain⟨⟨rfl,h2⟩,_⟩:=h;exact⟨_,⟨rfl,rfl⟩,h2⟩)|skip)
end
theorem d4G{α β:Type}{f:α→Option β}:∀ {l:List α} {r:List β},l.mapM f=some r→∀(i:Nat) (x:α),l[i]? =some x→∃y,r[i]? =some y∧f x=some y
 | [],r,h,i,x,hx=>by simp at hx
 |a::l,r,h,i,x,hx=>by
  simp only[List.mapM_cons,Option.bind_eq_bind,Option.bind_eq_some_iff]at h
  obtain⟨b,hb,bs,hbs,h⟩:=h
  cases h
  cases i with
  |zero=>simp at hx;subst hx;exact⟨b,rfl,hb⟩
  |succ i=>
   have hx':l[i]? =some x:=by simpa using hx
   obtain⟨y,h1,h2⟩:=d4G hbs i x hx'
   exact⟨y,by simpa using h1,h2⟩
theorem c4J{α β:Type}{f:α→Option β}:∀ {l:List α} {r:List β},l.mapM f=some r→r.length=l.length
 | [],r,h=>by simp at h;subst h;rfl
 |a::l,r,h=>by
  simp only[List.mapM_cons,Option.bind_eq_bind,Option.bind_eq_some_iff]at h
  obtain⟨b,hb,bs,hbs,h⟩:=h
  cases h
  simp[c4J hbs]
theorem b6Q{H:Type}{P:Program}{e:TypeId}:∀ {l:List (DataW H)} {d:DataW H},d∈l→∀n∈DataW.weights P e d,n∈DataW.weightsAll P e l
 |a::l,d,h,n,hn=>by
  simp only[DataW.weightsAll]
  rcases List.mem_cons.1 h with rfl|h
  ·exact List.mem_append_left _ hn
  ·exact List.mem_append_right _ (b6Q h n hn)
theorem d3i{H:Type}{enc:TypeId×Value→H}{P:Program}{W:World}{hd:Bool}{n:Nat}{t e:TypeId}{sz:Nat}{cs:List Value}{x:DataW H×List MemPlace}(ht:P.underlying t=some (.slice e))(hc:P.cellsOf e=sz)(hsz:0<sz)
  (h:DataW.trod enc P W 0 (fun _=>true) hd n t cs=some x):∃c,cs=[c]∧((a6t c= .nilSlc)∨∃(b i len cap m:Nat) (els:List (DataW H×List MemPlace)),a6t c= .slc (.old b) i len cap true 1∧len≤cap∧els.length=len∧(∀d∈els,∀k∈DataW.weights P e d.1,k∈DataW.weights P t x.1)∧
   (∀k:Nat,len*P.bytesOf e≤k∨k∈DataW.weights P t x.1∨True)∧(∃k∈DataW.weights P t x.1,len*P.bytesOf e≤k)∧
   ∀j d,els[j]? =some d→∃(all:List AV) (vs:List Value),a4T W b=some all∧(all.drop (i+j*sz)).take sz=vs.map a6t∧DataW.trod enc P W 0 (fun _=>true) hd m e vs=some d):=by
 rcases DataW.trod_slice ht h with ⟨e1,_⟩|⟨a,len,cap,elems,rest,m,_,e1,hx,_,hl,hm,hlen,hel,hsp,_⟩
 ·exact⟨_,e1, .inl rfl⟩
 ·refine⟨_,e1, .inr ?_⟩
  have hd':x.1= .slice (elems.map (·.1)) (rest.map (·.1)):=by rw[hx]
  have hcell:∀ {c:Addr} {cs:List Value},W.cells? 0 c sz=some cs→cs.length=sz∧∀j,j<sz→∃x,cs[j]? =some x∧W.cell? (c.add j)=some x:=by
   intro c cs hc
   unfold World.cells? at hc
   rw[if_pos (Nat.zero_le _)]at hc
   refine⟨by have:=c4J hc;simpa using this,fun j hj=> ?_⟩
   obtain⟨y,h1,h2⟩:=d4G hc j j (by rw[List.getElem?_range hj])
   exact⟨y,h1,h2⟩
  have hs:cap=0∨a.spot=none:=by
   by_cases h0:cap=0
   ·exact .inl h0
   ·right
    by_cases hl0:len=0
    ·obtain⟨r1,r2⟩:=hsp rfl
     have:=r2 0 (by omega)
     rw[hc,hl0,List.getElem?_eq_getElem (by omega)]at this
     obtain⟨cs,h1,_⟩:=Option.bind_eq_some_iff.1 this
     obtain⟨x,_,h2⟩:=(hcell h1).2 0 hsz
     simp only[Nat.add_zero,Nat.zero_mul]at h2
     exact(a7A h2).1
    ·have:=hel 0 (by omega)
     rw[hc,List.getElem?_eq_getElem (by omega)]at this
     obtain⟨cs,h1,_⟩:=Option.bind_eq_some_iff.1 this
     obtain⟨x,_,h2⟩:=(hcell h1).2 0 hsz
     simp only[Nat.add_zero,Nat.zero_mul]at h2
     exact(a7A h2).1
  refine⟨a.block,a.off,len,cap,m,elems, ?_,by omega,hlen, ?_,fun _=> .inr (.inr trivial),⟨(elems.length+rest.length)*P.bytesOf e, ?_, ?_⟩, ?_⟩
  ·simp only[a6t]
   rw[if_pos ⟨hl,hs⟩]
  ·intro d hdm k hk
   rw[hd']
   simp only[DataW.weights,ht]
   exact List.mem_cons_of_mem _ (List.mem_append_left _ (b6Q (d:=d.1) (List.mem_map.2 ⟨d,hdm,rfl⟩) k hk))
  ·rw[hd'];simp[DataW.weights,ht]
  ·rw[hlen];exact Nat.mul_le_mul_right _ (by omega)
  ·intro i d hid
   have hi:i<len:=by have:=(List.getElem?_eq_some_iff.1 hid).1;omega
   have hi':=hel i hi
   rw[hc,hid]at hi'
   obtain⟨cs,h1,h2⟩:=Option.bind_eq_some_iff.1 hi'
   obtain⟨c1,c2⟩:=hcell h1
   have hs':a.spot=none:=hs.resolve_left (by omega)
   have hadd:∀j,(a.add (i*sz)).add j=⟨a.block,a.off+i*sz+j,none⟩:=by
    intro j
    obtain⟨b,of,s⟩:=a
    simp only at hs'
    subst hs'
    unfold Addr.add
    split<;>split<;>simp_all
   obtain⟨x0,_,hx0⟩:=c2 0 hsz
   rw[hadd]at hx0
   obtain⟨_,arr,el,fr,hb,_⟩:=a7A hx0
   simp only at hb
   refine⟨arr.toList.map a6t,cs,by unfold a4T;rw[hb], ?_,h2⟩
   refine List.ext_getElem? fun j=> ?_
   rw[List.getElem?_take]
   split
   ·rename_i hj
    obtain⟨xj,hj1,hj2⟩:=c2 j hj
    rw[hadd]at hj2
    obtain⟨_,arr',el',fr',hb',hj3⟩:=a7A hj2
    simp only at hb' hj3
    rw[hb]at hb'
    cases hb'
    rw[List.getElem?_drop,List.getElem?_map,Array.getElem?_toList,hj3,List.getElem?_map,hj1]
   ·rename_i hj
    rw[List.getElem?_map,List.getElem?_eq_none (by omega)]
    rfl
theorem e1y{z:Int}(h:(Lit.int .i64 z).wf=true): -9223372036854775808≤z∧z≤9223372036854775807:=by
 simp only[Lit.wf,Bool.and_eq_true,decide_eq_true_eq]at h
 have h1:IntKind.i64.min= -9223372036854775808:=rfl
 have h2:IntKind.i64.max=9223372036854775807:=rfl
 omega
theorem e2u{z:Int}(h:(Lit.int .u8 z).wf=true):0≤z∧z≤255:=by
 simp only[Lit.wf,Bool.and_eq_true,decide_eq_true_eq]at h
 have h1:IntKind.u8.min=0:=rfl
 have h2:IntKind.u8.max=255:=rfl
 omega
section
variable{H:Type}{enc:TypeId×Value→H}{P:Program}{W:World}{hd:Bool}
theorem d8M{α:Type}[Inhabited α]{row:α→List D}{a6k:α→Prop}{n:Nat}{t e:TypeId}{sz:Nat}{cs:List Value}{x:DataW H×List MemPlace}(ht:P.underlying t=some (.slice e))(hc:P.cellsOf e=sz)(hsz:0<sz)(hrow:∀a,(row a).length=sz)
  (h:DataW.trod enc P W 0 (fun _=>true) hd n t cs=some x)
  (f:∀m vs d,DataW.trod enc P W 0 (fun _=>true) hd m e vs=some d→(∀k∈DataW.weights P e d.1,k∈DataW.weights P t x.1)→∃a,a6k a∧(∀R,C8 (a4T W) R (row a) (vs.map a6t))∧(vs.map a6t).all w7=true):
  ∃c l,cs=[c]∧(∀a∈l,a6k a)∧(∀R,Rp (a4T W) R (.lst (l.map row) sz) (a6t c))∧w7 (a6t c)=true∧(l=[]∨∃k∈DataW.weights P t x.1,l.length*P.bytesOf e≤k):=by
 obtain⟨c,e0,h1|⟨b,i,len,cap,m,els,h1,hlc,h2,h3,_,hk,h6⟩⟩:=d3i ht hc hsz h
 ·exact⟨c,[],e0,by simp,fun R=>by rw[h1];simp only[Rp];exact .inl ⟨by trivial,by trivial⟩,by rw[h1];rfl, .inl rfl⟩
 ·have each:∀j,∃a:α,j<len→a6k a∧∃all,a4T W b=some all∧(∀R,C8 (a4T W) R (row a) ((all.drop (i+j*sz)).take sz))∧((all.drop (i+j*sz)).take sz).all w7=true:=by
   intro j
   by_cases hj:j<len
   ·obtain⟨all,vs,g1,g2,g3⟩:=h6 j _ (List.getElem?_eq_getElem (by omega:j<els.length))
    obtain⟨a,q1,q2,q3⟩:=f m vs _ g3 (h3 _ (List.getElem_mem _))
    exact⟨a,fun _=>⟨q1,all,g1,by rw[g2];exact q2,by rw[g2];exact q3⟩⟩
   ·exact⟨default,fun h=>(hj h).elim⟩
  obtain⟨g,hg⟩:=Classical.axiomOfChoice each
  have main:∀(all:List AV),a4T W b=some all→∀N,N≤len→(∀R,a3G (a4T W) R (((List.range N).map g).map row) ((all.drop i).take (N*sz)))∧((all.drop i).take (N*sz)).all w7=true:=by
   intro all hall N
   induction N with
   |zero=>intro _;exact⟨fun R=>by simp[a3G],by simp⟩
   |succ N ih=>
    intro hN
    obtain⟨i1,i2⟩:=ih (by omega)
    obtain⟨_,all',g1,g2,g3⟩:=hg N (by omega)
    rw[hall]at g1
    cases g1
    have e1:(all.drop i).take ((N+1)*sz)=(all.drop i).take (N*sz)++(all.drop (i+N*sz)).take sz:=by
     rw[Nat.succ_mul,List.take_add,List.drop_drop]
    rw[e1]
    refine⟨fun R=> ?_,by rw[List.all_append,i2,g3];rfl⟩
    rw[List.range_succ,List.map_append,List.map_append,U9,List.flatten_append]
    refine(U9.1 (i1 R)).append ?_
    simpa using g2 R
  refine⟨c,(List.range len).map g,e0,fun a ha=> ?_,fun R=> ?_,by rw[h1];rfl, .inr ?_⟩
  ·obtain⟨j,hj,rfl⟩:=List.mem_map.1 ha
   exact(hg j (List.mem_range.1 hj)).1
  ·rw[h1]
   simp only[Rp]
   refine .inr ⟨.old b,i,cap,true,1,by simp,trivial,by simpa using hlc, ?_, ?_⟩
   ·intro r hr
    obtain⟨a,_,rfl⟩:=List.mem_map.1 hr
    exact hrow a
   ·by_cases h0:len=0
    ·left;subst h0;rfl
    ·right
     obtain⟨_,all,g1,_⟩:=hg 0 (by omega)
     obtain⟨m1,m2⟩:=main all g1 len (Nat.le_refl _)
     exact⟨all,g1,by simpa using m1 R,by simpa using m2⟩
  ·obtain⟨k,hk1,hk2⟩:=hk
   exact⟨k,hk1,by simpa using hk2⟩
end
section
variable{H:Type}{enc:TypeId×Value→H}{P:Program}{W:World}{hd:Bool}
theorem e1r{n:Nat}{t:TypeId}{k:IntKind}{cs:List Value}{x:DataW H×List MemPlace}(ht:P.underlying t=some (.int k))(h:DataW.trod enc P W 0 (fun _=>true) hd n t cs=some x):
  ∃z:Int,(Lit.int k z).wf=true∧(∀R,C8 (a4T W) R [.int k z] (cs.map a6t))∧(cs.map a6t).all w7=true:=by
 obtain⟨z,rfl,w⟩:=d8I ht h
 refine⟨z,w,fun R=> ?_,rfl⟩
 simp only[List.map_cons,List.map_nil,C8,Rp]
 exact⟨_,_,rfl,rfl,rfl⟩
end
section
variable{H:Type}{enc:TypeId×Value→H}{P:Program}{W:World}{hd:Bool}
end
end Go.Am.Old
end
section
open Go Go.Am
namespace Go.Am.Old
open Go.ChangeShapes Go.WideShapes Go.ChangeAt Go.RowKit
def Rd{H:Type}(enc:TypeId×Value→H)(P:Program)(W:World)(t:TypeId){α:Type}(row:α→List D)(a6k:α→Prop):Prop:=
 ∀(hd:Bool) (n:Nat) (cs:List Value) (x:DataW H×List MemPlace),DataW.trod enc P W 0 (fun _=>true) hd n t cs=some x→(∀k∈DataW.weights P t x.1,k≤reachBytes)→
  ∃a,a6k a∧(∀R,C8 (a4T W) R (row a) (cs.map a6t))∧(cs.map a6t).all w7=true
def d1Y(P:Program):List Field→Nat
 | []=>0
 |f::fs=>P.cellsOf f.type+d1Y P fs
def RdF{H:Type}(enc:TypeId×Value→H)(P:Program)(W:World)(fs:List Field)(o:Nat){α:Type}(row:α→List D)(a6k:α→Prop):Prop:=
 ∀(hd:Bool) (n:Nat) (cs:List Value) (ys:List (DataW H×List MemPlace)),(fs.mapM fun f=>DataW.trod enc P W 0 (fun _=>true) hd n f.type ((cs.drop f.offset).take (P.cellsOf f.type)))=some ys→
  (∀k∈DataW.weightsEach P (fs.map (·.type)) (ys.map (·.1)),k≤reachBytes)→
  ∃a,a6k a∧(∀R,C8 (a4T W) R (row a) (((cs.drop o).take (d1Y P fs)).map a6t))∧(((cs.drop o).take (d1Y P fs)).map a6t).all w7=true
section
variable{H:Type}{enc:TypeId×Value→H}{P:Program}{W:World}
theorem Rd.map{t:TypeId}{α β:Type}{row:α→List D}{a6k:α→Prop}{row':β→List D}{Good':β→Prop}(h:Rd enc P W t row a6k)(g:α→β)(hr:∀a,row' (g a)=row a)(hg:∀a,a6k a→Good' (g a)):Rd enc P W t row' Good':=fun hd n cs x h1 h2=>by
 obtain⟨a,a1,a2,a3⟩:=h hd n cs x h1 h2
 exact⟨g a,hg a a1,fun R=>by rw[hr];exact a2 R,a3⟩
theorem Rd.int{t:TypeId}{k:IntKind}(ht:P.underlying t=some (.int k)):Rd enc P W t (fun z:Int=>[.int k z]) (fun z=>(Lit.int k z).wf=true):=fun hd n cs x h _=>e1r ht h
theorem Rd.i64{t:TypeId}(ht:P.underlying t=some (.int .i64)):Rd enc P W t (fun z:Int=>[.int .i64 z]) (fun z=> -9223372036854775808≤z∧z≤9223372036854775807):=(Rd.int ht).map id (fun _=>rfl) fun _ h=>e1y h
theorem Rd.u8{t:TypeId}(ht:P.underlying t=some (.int .u8)):Rd enc P W t (fun z:Int=>[.int .u8 z]) (fun z=>0≤z∧z≤255):=(Rd.int ht).map id (fun _=>rfl) fun _ h=>e2u h
theorem Rd.bool{t:TypeId}(ht:P.underlying t=some .bool):Rd enc P W t (fun b:Bool=>[.bool b]) (fun _=>True):=fun hd n cs x h _=>by
 cases n with
 |zero=>simp[DataW.trod]at h
 |succ n=>
  simp only[DataW.trod,ht]at h
  split at h
  all_goals (first|(cases h;done)|skip)
  all_goals simp_all
  rename_i b
  have:∃b':Bool,(∀R,C8 (a4T W) R [D.bool b'] [a6t (Value.bool b)]):=⟨b,fun R=>by simp only[C8,Rp];exact⟨_,_,rfl,rfl,rfl⟩⟩
  obtain⟨b',hb⟩:=this
  refine⟨?_,rfl⟩
  cases b'
  ·exact .inl hb
  ·exact .inr hb
theorem Rd.str{t:TypeId}(ht:P.underlying t=some .string):Rd enc P W t (fun s:List UInt8=>[.str s]) (fun s=>s.length<2^47):=fun hd n cs x h hw=>by
 cases n with
 |zero=>simp[DataW.trod]at h
 |succ n=>
  simp only[DataW.trod,ht]at h
  split at h
  all_goals (first|(cases h;done)|skip)
  all_goals simp_all
  rename_i s
  obtain⟨h1,rfl⟩:=h
  have:=reachBytes_lt
  refine⟨s.data.toList, ?_,fun R=> ?_,rfl⟩
  ·have:=hw s.data.toList.length (by simp[DataW.weights])
   omega
  simp only[C8,Rp]
  exact⟨_,_,rfl,rfl,rfl⟩
theorem Rd.slice{t e:TypeId}{sz b:Nat}{α:Type}[Inhabited α]{row:α→List D}{a6k:α→Prop}(ht:P.underlying t=some (.slice e))(hc:P.cellsOf e=sz)(hsz:0<sz)(hb:P.bytesOf e=b)(hrow:∀a,(row a).length=sz)(h:Rd enc P W e row a6k):
  Rd enc P W t (fun l:List α=>[.lst (l.map row) sz]) (fun l=>l.length*b<2^47∧∀a∈l,a6k a):=fun hd n cs x hx hw=>by
 obtain⟨c,l,rfl,h1,h2,h3,h4⟩:=d8M ht hc hsz hrow hx fun m vs d hd' hk=>h hd m vs d hd' fun k hk'=>hw k (hk k hk')
 have:=reachBytes_lt
 refine⟨l,⟨?_,h1⟩,fun R=> ?_,by simp[h3]⟩
 ·rcases h4 with rfl|⟨k,k1,k2⟩
  ·show 0*b<2^47;omega
  ·have:=hw k k1
   rw[hb]at k2
   omega
 ·simp only[List.map_cons,List.map_nil,C8]
  exact⟨_,_,rfl,h2 R,rfl⟩
theorem RdF.nil{o:Nat}:RdF enc P W [] o (fun _:Unit=>[]) (fun _=>True):=fun hd n cs ys h _=>⟨(),trivial,fun R=>by simp[d1Y,C8],by simp[d1Y]⟩
theorem RdF.cons{f:Field}{fs:List Field}{o s:Nat}{α β:Type}{row1:α→List D}{G1:α→Prop}{row2:β→List D}{G2:β→Prop}(ho:f.offset=o)(hs:P.cellsOf f.type=s)(h1:Rd enc P W f.type row1 G1)(h2:RdF enc P W fs (o+s) row2 G2):
  RdF enc P W (f::fs) o (fun p:α×β=>row1 p.1++row2 p.2) (fun p=>G1 p.1∧G2 p.2):=fun hd n cs ys h hw=>by
 simp only[List.mapM_cons,Option.bind_eq_bind,Option.bind_eq_some_iff]at h
 obtain⟨y,hy,ys',hys,h⟩:=h
 cases h
 simp only[List.map_cons,DataW.weightsEach,List.mem_append]at hw
 obtain⟨a,a1,a2,a3⟩:=h1 hd n _ y hy fun k hk=>hw k (.inl hk)
 obtain⟨b,b1,b2,b3⟩:=h2 hd n cs ys' hys fun k hk=>hw k (.inr hk)
 rw[ho,hs]at a2 a3
 have e:((cs.drop o).take (d1Y P (f::fs))).map a6t=((cs.drop o).take s).map a6t++((cs.drop (o+s)).take (d1Y P fs)).map a6t:=by
  rw[d1Y,hs,List.take_add,List.map_append,List.drop_drop]
 exact⟨(a,b),⟨a1,b1⟩,fun R=>by rw[e];exact(a2 R).append (b2 R),by rw[e,List.all_append,a3,b3];rfl⟩
theorem Rd.struct{t:TypeId}{fs:Array Field}{α:Type}{row:α→List D}{G:α→Prop}(ht:P.underlying t=some (.struct fs))(hc:P.cellsOf t=d1Y P fs.toList)(h:RdF enc P W fs.toList 0 row G):Rd enc P W t row G:=fun hd n cs x hx hw=>by
 cases n with
 |zero=>simp[DataW.trod]at hx
 |succ n=>
  simp only[DataW.trod,ht]at hx
  split at hx
  ·rename_i hl
   simp only[Option.map_eq_some_iff]at hx
   obtain⟨ys,hm,rfl⟩:=hx
   obtain⟨a,a1,a2,a3⟩:=h hd n cs ys hm (by simpa [DataW.weights,ht]using hw)
   rw[List.drop_zero, ←hc, ←hl,List.take_length]at a2 a3
   exact⟨a,a1,a2,a3⟩
  ·cases hx
end
theorem Rd.argA{H:Type}{enc:TypeId×Value→H}{P:Program}{W:World}{t:TypeId}{α:Type}{row:α→List D}{G:α→Prop}(h:Rd enc P W t row G){fs:Array Field}{r:Reach}{b0:Nat}{v:Value}(hv:Value.okWide P W r b0 t v)(ht:P.underlying t=some (.struct fs))
  {d:DataW H} {ps:List MemPlace} (h0:DataW.Trod enc P W 0 (fun _=>true) true t v d ps) (hw:∀k∈DataW.weights P t d,k≤reachBytes):∃a,G a∧∀R,Rp (a4T W) R (.agg (row a)) (d6b v):=by
 obtain⟨n,hn⟩:=h0
 obtain⟨cs,rfl,_⟩:=okWide_struct ht hv
 obtain⟨a,a1,a2,a3⟩:=h true n _ _ hn hw
 refine⟨a,a1,fun R=> ?_⟩
 simp only[d6b,Rp]
 exact⟨_,rfl,a2 R,a3⟩
theorem d5B(E:j6):G4 E (fun _=>none) b9.none AHeap.empty:=⟨fun k cs h=>(by cases h),fun k o h=>(by cases h)⟩
theorem d5s:P8 AHeap.empty:=by
 have hg:∀k,AHeap.empty.get k=none:=fun k=>by simp[AHeap.empty,AHeap.get,Trie.get]
 exact⟨fun k _=>hg k,fun k p o op h=>(by rw[hg]at h;cases h),fun k o p h=>(by rw[hg]at h;cases h),fun k o p h=>(by rw[hg]at h;cases h)⟩
theorem d5j{P:Program}{f:FuncId}{W:World}{vs:Array Value}{ds:List D}(h:o9 P (a4T W) W false f ds b9.none fun v _=>v= .bool true)(ha:C8 (a4T W) (fun _=>none) ds (vs.toList.map d6b)):Calls P f vs W fun e w=>e= .returned (.bool true)∧c6f W w:=by
 refine d7H (FnW.mono (h _ AHeap.empty _ d5s (d5B _) ha) fun v H' hq=> ?_)
 obtain⟨_,R',S',d,_,_,h3,rfl⟩:=hq
 simpa only[Rp]using h3
end Go.Am.Old
end
