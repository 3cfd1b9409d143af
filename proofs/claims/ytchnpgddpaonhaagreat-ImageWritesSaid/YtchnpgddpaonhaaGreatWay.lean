/- A part of the proof of ImageWrites. -/
import Derived.Test.YtchnpgddpaonhaaGreatWax
import Derived.Test.YtchnpgddpaonhaaGreatRows
import Derived.Test.YtchnpgddpaonhaaGreatWap
import Derived.KernelRfl
set_option linter.unusedVariables false
set_option linter.unusedSimpArgs false
set_option maxRecDepth 100000
section
open Go.Proofs Go Go.Am Go.Op
namespace Go.Proofs.YtchnpgddpaonhaaGreat.d
section
section
variable{E:j6}{w0:World}{S S3:b9}{k2:Nat}{a2:List AV}
variable(hle:S.le S3)(hn:S k2=none)(h2:S3 k2=some ⟨3,[[.nilSlc, .nilSlc, .bool false]],a2⟩){x:Bool}
include hle hn h2
theorem e0x{r:List Int×List Int×Bool}:q7 S3 1 (some (iC r.1)) r.1.length fun v S4=>o9 Tryz.prog E w0 x r8 [v] S4 fun w S5=>q7 S5 1 (some (iC r.2.1)) r.2.1.length fun v' S6=>o9 Tryz.prog E w0 x m6 [w,v'] S6 fun u S7=>o9 Tryz.prog E w0 x r0 [u, .bool r.2.2] S7 fun u S7=>
  j7 S7 3 (.ptr k2 0) u fun _ S8=>b7 (j2 S8 3 (.ptr k2 0)) fun z=>i9 E (EfQ S r) z S8:=by
 refine D9 fun v S4 g1=>(D7 g1.cells).use (D9 fun v' S6 g2=> ?_)
 refine(A2 (a:=v) (b:= .nilSlc) (c:= .bool true) g2.cells).use ?_
 refine(I5 (a:=v) (b:=v') (c:= .bool true) (clB _)).use ?_
 exact b8g hle hn h2 rfl ⟨S4,g1,g2⟩
theorem e2B{r:List Int×List Int×Bool}(h1:r.1=[]):o9 Tryz.prog E w0 x r8 [.nilSlc] S3 fun w S5=>q7 S5 1 (some (iC r.2.1)) r.2.1.length fun v' S6=>o9 Tryz.prog E w0 x m6 [w,v'] S6 fun u S7=>o9 Tryz.prog E w0 x r0 [u, .bool r.2.2] S7 fun u S7=>
  j7 S7 3 (.ptr k2 0) u fun _ S8=>b7 (j2 S8 3 (.ptr k2 0)) fun z=>i9 E (EfQ S r) z S8:=by
 refine(D7 clN).use (D9 fun v' S6 g2=> ?_)
 refine(A2 (a:= .nilSlc) (b:= .nilSlc) (c:= .bool true) g2.cells).use ?_
 refine(I5 (a:= .nilSlc) (b:=v') (c:= .bool true) (clB _)).use ?_
 exact b8g hle hn h2 rfl ⟨S3,by rw[h1];exact Own.nil _,g2⟩
theorem e0G{r:List Int×List Int×Bool}(h1:r.2.1=[]):q7 S3 1 (some (iC r.1)) r.1.length fun v S4=>o9 Tryz.prog E w0 x r8 [v] S4 fun u S7=>o9 Tryz.prog E w0 x r0 [u, .bool r.2.2] S7 fun u S7=>
  j7 S7 3 (.ptr k2 0) u fun _ S8=>b7 (j2 S8 3 (.ptr k2 0)) fun z=>i9 E (EfQ S r) z S8:=by
 refine D9 fun v S4 g1=>(D7 g1.cells).use ?_
 refine(I5 (a:=v) (b:= .nilSlc) (c:= .bool true) (clB _)).use ?_
 exact b8g hle hn h2 rfl ⟨S4,g1,by rw[h1];exact Own.nil _⟩
theorem e2w{B:b9}{v:D}{r:List Int×List Int×Bool}(g1:Own S3 v r.1 B):o9 Tryz.prog E w0 x r8 [v] B fun w S5=>q7 S5 1 (some (iC r.2.1)) r.2.1.length fun v' S6=>o9 Tryz.prog E w0 x m6 [w,v'] S6 fun u S7=>o9 Tryz.prog E w0 x r0 [u, .bool r.2.2] S7 fun u S7=>
  j7 S7 3 (.ptr k2 0) u fun _ S8=>b7 (j2 S8 3 (.ptr k2 0)) fun z=>i9 E (EfQ S r) z S8:=by
 refine(D7 g1.cells).use (D9 fun v' S6 g2=> ?_)
 refine(A2 (a:=v) (b:= .nilSlc) (c:= .bool true) g2.cells).use ?_
 refine(I5 (a:=v) (b:=v') (c:= .bool true) (clB _)).use ?_
 exact b8g hle hn h2 rfl ⟨B,g1,g2⟩
end
theorem lb1{S:b9}{a:Int}{K:D→b9→Prop}(h:K (bD [a]) S):q7 S 1 (m9 1 (List.replicate 1 [(.int .u8 0)]) [(0, .int .u8 a)]) 1 K:=F5 (rows:=y9 ([a].map (D.int .u8))) rfl h
theorem lb2{S:b9}{a b:Int}{K:D→b9→Prop}(h:K (bD [a,b]) S):q7 S 1 (m9 1 (List.replicate 2 [(.int .u8 0)]) [(0, .int .u8 a),(1, .int .u8 b)]) 2 K:=F5 (rows:=y9 ([a,b].map (D.int .u8))) rfl h
section
variable{E:j6}{w0:World}
set_option maxHeartbeats 400000 in
theorem d5o{y:In}{m:Mo}(hy:y.Ok)(hm:m.Fits)(hb:y.op=37∨y.op=38→0≤y.b){S0 S:b9}(hle:S0.le S){k k2 k4:Nat}{a a2 a4:List AV}(h0:S k=some ⟨4,[J2 y],a⟩)(h2:S k2=some ⟨3,[F8 m],a2⟩)(hn:S0 k4=none)(h4:S k4=some ⟨3,[[.nilSlc, .nilSlc, .bool false]],a4⟩):
  a0Q E w0 false (i9 E (EfQ S0 (H3 y m))) (.ptr k 0) (.ptr k2 0) (.ptr k4 0) (.int .i64 y.a) (.int .u8 y.op) (.bool (decide (y.op=36∨y.op=37∨y.op=38))) S:=by
 refine c3b ?_
 unfold b8t
 obtain⟨xi0,xi1,xi2,xi3⟩:=d5I y
 have hok:=hm.ok
 have ha:=hy.a
 have lm:j2 S 3 (.ptr k2 0)=some (Z0 m):=by rw[laP h2 (by simp[F8])];rfl
 have l1:b8 S (.ptr k 1)=some (.int .i64 y.a):=by rw[D5 h0];rfl
 have box:∀ {k5:Nat} {o:K8},S k5=none→S0.le (S.set k5 o)∧(S.set k5 o) k4=some ⟨3,[[.nilSlc, .nilSlc, .bool false]],a4⟩∧(S.set k5 o) k=some ⟨4,[J2 y],a⟩:=fun h=>by
  refine⟨b9.le_trans hle (b9.le_new h), ?_, ?_⟩
  ·rw[b9.set_ne _ _ _ (fun e=>by rw[←e,h4]at h;cases h)];exact h4
  ·rw[b9.set_ne _ _ _ (fun e=>by rw[←e,h0]at h;cases h)];exact h0
 have e39:∀(p:Int),i6 .eql (.int .u8 y.op) (.int .u8 p)=some (.bool (decide (y.op=p))):=fun p=>by rw[Y4,a7l]
 rw[B3]
 refine⟨fun h36=> ?_,fun h36=> ?_⟩
 ·simp only[lm,oD,u5,Nat.zero_add,l1]
  refine lb1 ((a1U hok ha (by decide)).use ?_)
  obtain⟨t,ok,ht⟩:∃t ok,p9 m y.a [6]=(t,ok):=⟨_,_,rfl⟩
  simp only[P3,ht,exD,List.getElem?_cons_zero,List.getElem?_cons_succ,oD]
  refine b4j fun k5 a5 n5=> ?_
  obtain⟨b1,b2,b3⟩:=box (o:=⟨5,[B9 t],a5⟩) n5
  have h5:(S.set k5 ⟨5,[B9 t],a5⟩) k5=some ⟨5,[B9 t],a5⟩:=b9.set_same _ _ _
  have hfl:t.fields.length<2^30:=by
   unfold p9 at ht
   split at ht
   ·rename_i t' e
    obtain⟨_,e1,e2⟩:=d1g e
    have:t'=t:=(Prod.ext_iff.1 ht).1
    rw[←this]
    exact hm.fields _ (List.mem_of_getElem? e1)
   ·have:d2F=t:=(Prod.ext_iff.1 ht).1
    rw[←this];decide
  generalize S.set k5 ⟨5,[B9 t],a5⟩=S5 at b1 b2 b3 h5 ⊢
  have l0:b8 S5 (.ptr k 0)=some (.int .u8 y.op):=by rw[D5 b3];rfl
  have l2:b8 S5 (.ptr k 2)=some (.int .i64 y.b):=by rw[D5 b3];rfl
  have lf:b8 S5 (.ptr k5 2)=some (O9 t.fields):=by rw[D5 h5];rfl
  simp only[u5,oD,Nat.zero_add,l0,lf,B0,e39]
  rw[B3]
  refine⟨fun e36=> ?_,fun e36=> ?_⟩
  ·have em:H3 y m=(t.fields.map (·.2),[y.a],ok):=by
    unfold H3
    rw[if_pos h36]
    simp only[ht,if_pos e36]
   rw[em]
   refine c5m (I:=fun n x4 x5 x7 x8 x42 x43 x44 S'=>x4= .ptr k4 0∧x5= .int .i64 y.a∧x7= .bool ok∧x42=O9 t.fields∧x43= .int .i64 (t.fields.length:Int)∧∃(i:Nat) (B:b9),x44= .int .i64 (i:Int)∧i+n=t.fields.length∧S0.le B∧B k4=some ⟨3,[[.nilSlc, .nilSlc, .bool false]],a4⟩∧Grw B x8 (iC ((t.fields.take i).map (·.2))) 1 S') ?_ (n:=t.fields.length) ⟨rfl,rfl,rfl,rfl,rfl,0,S5,rfl,by omega,b1,b2,Grw.nil _ _⟩
   rintro n _ _ _ x8 _ _ _ S6 ⟨rfl,rfl,rfl,rfl,rfl,i,B,rfl,hi,c1,c2,g⟩
   unfold b2Z
   rw[A5,oD,B3]
   refine⟨fun hlt=> ?_,fun hge=> ?_⟩
   ·have hlt:i<t.fields.length:=by omega
    obtain⟨f,hf⟩:∃f,f=t.fields[i]:=⟨_,rfl⟩
    have ea:t.fields[i]? =some f:=by rw[List.getElem?_eq_getElem hlt,hf]
    rw[V2 ea,oD,d6V,oD]
    intro k6 a6 n6
    refine stP (ds:=O1 f) (b9.set_same _ _ _) (J5 _) ⟨rfl,by decide,by simp[O1]⟩ fun a7=> ?_
    rw[b9.set_set,u5,oD,D5 (b9.set_same _ _ _),show(o0 [D.str [], .int .i64 0] 0 (O1 f))[0+1]? =some (.int .i64 f.2) from rfl,oD]
    have gu:=g.under (o:=⟨[D.str [], .int .i64 0].length,[o0 [D.str [], .int .i64 0] 0 (O1 f)],a7⟩) n6
    refine li1 (gu.push (news:=iC [f.2]) (c1Q _ _) (by simp;omega) fun t' S' g'=> ?_)
    rw[s8,oD,j8 (by omega) (by omega)]
    have z6:B k6=none:=by
     cases e:B k6 with
     |none=>rfl
     |some o=>rw[g.le _ _ e]at n6;cases n6
    have zS:S0 k6=none:=by
     cases e:S0 k6 with
     |none=>rfl
     |some o=>rw[c1 _ _ e]at z6;cases z6
    refine⟨n - 1,by omega,by trivial,by trivial,by trivial,by trivial,by trivial,i+1,B.set k6 ⟨[D.str [], .int .i64 0].length,[o0 [D.str [], .int .i64 0] 0 (O1 f)],a7⟩,rfl,by omega,b9.le_set c1 zS, ?_, ?_⟩
    ·rw[b9.set_ne _ _ _ (fun e=>by rw[←e,c2]at z6;cases z6)];exact c2
    ·rw[List.take_add_one,ea,Option.toList_some,List.map_append,a3y]
     exact g'
   ·have hi:i=t.fields.length:=by omega
    subst hi
    rw[List.take_length]at g
    have gg:Own B x8 (t.fields.map (·.2)) S6:=Own.of_grw g
    clear g em hge
    generalize t.fields.map (·.2)=lc at gg ⊢
    exact e2w (r:=(lc,[y.a],ok)) c1 hn c2 gg
  have hm36:H3 y m=match (if ok then t.fields[y.b.toNat]? else none) with
   |some f=>if y.op=37 then([y.a],[f.2],true) else([y.a,f.2],[],true)
   |none=>([],[],false):=by
   unfold H3
   rw[if_pos h36]
   simp only[ht,if_neg e36]
   try rfl
  have bad:([],[],false)=H3 y m→b7 (B8 (s5 [.nilSlc, .nilSlc,(.bool false)] [])) fun v62=>j7 S5 3 (.ptr k4 0) v62 fun v63 S64=>b7 (j2 S64 3 (.ptr k4 0)) fun v65=>i9 E (EfQ S0 (H3 y m)) v65 S64:=fun e=>by
   rw[fiN,agS,oD, ←e]
   exact b8g (r:=([],[],false)) b1 hn b2 rfl ⟨S5,Own.nil _,Own.nil _⟩
  rw[unN,oD]
  cases ok with
  |false=>
   simp only[Bool.not_false,C5,t1,vdF,oD,C3,if_true,cdT]
   exact bad (by rw[hm36];rfl)
  |true=>
   simp only[Bool.not_true,C5,t2,P7,oD,l2,lf,B0,a3H,C3,Bool.false_eq_true,if_false]
   have hbn:0≤y.b:=hb (by omega)
   rw[B3]
   refine⟨fun hbig=>bad ?_,fun hsm=> ?_⟩
   ·rw[hm36,if_pos rfl,List.getElem?_eq_none (by omega)]
   obtain⟨j,hj⟩:∃j:Nat,j=y.b.toNat:=⟨_,rfl⟩
   have hj':y.b=(j:Int):=by omega
   have hsm:j<t.fields.length:=by omega
   rw[←hj]at hm36
   obtain⟨f,hf⟩:∃f,f=t.fields[j]:=⟨_,rfl⟩
   have ea:t.fields[j]? =some f:=by rw[List.getElem?_eq_getElem hsm,hf]
   rw[if_pos rfl,ea]at hm36
   simp only at hm36
   simp only[hj',V2 ea,oD,ofE,lsE,Nat.zero_add,show(O1 f)[1]? =some (.int .i64 f.2) from rfl,l0,e39]
   rw[B3]
   refine⟨fun e38=> ?_,fun e38=> ?_⟩
   ·rw[if_neg (by omega)]at hm36
    rw[hm36]
    exact e0h (r:=([y.a,f.2],[],true)) b1 hn b2 rfl rfl rfl
   ·rw[if_pos (by omega)]at hm36
    rw[hm36]
    exact c8y (r:=([y.a],[f.2],true)) b1 hn b2 rfl rfl
 simp only[e39,oD]
 rw[B3]
 refine⟨fun h39=> ?_,fun h39=> ?_⟩
 ·simp only[lm,oD,u5,Nat.zero_add,l1]
  refine lb1 ((a1U hok ha (by decide)).use ?_)
  simp only[P3,exD,List.getElem?_cons_zero,List.getElem?_cons_succ,oD]
  refine b4j fun k5 a5 n5=> ?_
  obtain⟨b1,b2,b3⟩:=box (o:=⟨5,[B9 (p9 m y.a [7]).1],a5⟩) n5
  have lf:b8 (S.set k5 ⟨5,[B9 (p9 m y.a [7]).1],a5⟩) (.ptr k5 3)=some (.int .i64 (p9 m y.a [7]).1.elem):=by rw[D5 (b9.set_same _ _ _)];rfl
  have h5:(S.set k5 ⟨5,[B9 (p9 m y.a [7]).1],a5⟩) k5=some ⟨5,[B9 (p9 m y.a [7]).1],a5⟩:=b9.set_same _ _ _
  generalize S.set k5 ⟨5,[B9 (p9 m y.a [7]).1],a5⟩=S5 at b1 b2 b3 lf h5 ⊢
  simp only[u5,oD,Nat.zero_add,lf]
  have em:H3 y m=([(p9 m y.a [7]).1.elem],[y.a],(p9 m y.a [7]).2):=by
   unfold H3
   rw[if_neg h36,if_pos h39]
  rw[em]
  exact e0x (r:=([(p9 m y.a [7]).1.elem],[y.a],(p9 m y.a [7]).2)) b1 hn b2
 rw[B3]
 refine⟨fun h40=> ?_,fun h40=> ?_⟩
 ·simp only[lm,oD,u5,Nat.zero_add,l1]
  refine lb1 ((a1U hok ha (by decide)).use ?_)
  simp only[P3,exD,List.getElem?_cons_zero,List.getElem?_cons_succ,oD]
  refine b4j fun k5 a5 n5=> ?_
  obtain⟨b1,b2,b3⟩:=box (o:=⟨5,[B9 (p9 m y.a [8]).1],a5⟩) n5
  have lf:b8 (S.set k5 ⟨5,[B9 (p9 m y.a [8]).1],a5⟩) (.ptr k5 3)=some (.int .i64 (p9 m y.a [8]).1.elem):=by rw[D5 (b9.set_same _ _ _)];rfl
  have h5:(S.set k5 ⟨5,[B9 (p9 m y.a [8]).1],a5⟩) k5=some ⟨5,[B9 (p9 m y.a [8]).1],a5⟩:=b9.set_same _ _ _
  generalize S.set k5 ⟨5,[B9 (p9 m y.a [8]).1],a5⟩=S5 at b1 b2 b3 lf h5 ⊢
  have em:H3 y m=([],[y.a],(p9 m y.a [8]).2):=by
   unfold H3
   rw[if_neg h36,if_neg h39,if_pos h40]
  rw[em]
  exact e2B (r:=([],[y.a],(p9 m y.a [8]).2)) b1 hn b2 rfl
 rw[B3]
 refine⟨fun h44=> ?_,fun h44=> ?_⟩
 ·simp only[lm,oD,u5,Nat.zero_add,l1]
  refine lb1 ((a1U hok ha (by decide)).use ?_)
  simp only[P3,exD,List.getElem?_cons_zero,List.getElem?_cons_succ,oD]
  refine b4j fun k5 a5 n5=> ?_
  obtain⟨b1,b2,b3⟩:=box (o:=⟨5,[B9 (p9 m y.a [8]).1],a5⟩) n5
  have lf:b8 (S.set k5 ⟨5,[B9 (p9 m y.a [8]).1],a5⟩) (.ptr k5 3)=some (.int .i64 (p9 m y.a [8]).1.elem):=by rw[D5 (b9.set_same _ _ _)];rfl
  have h5:(S.set k5 ⟨5,[B9 (p9 m y.a [8]).1],a5⟩) k5=some ⟨5,[B9 (p9 m y.a [8]).1],a5⟩:=b9.set_same _ _ _
  generalize S.set k5 ⟨5,[B9 (p9 m y.a [8]).1],a5⟩=S5 at b1 b2 b3 lf h5 ⊢
  simp only[u5,oD,Nat.zero_add,lf]
  have em:H3 y m=([y.a,(p9 m y.a [8]).1.elem],[],(p9 m y.a [8]).2):=by
   unfold H3
   rw[if_neg h36,if_neg h39,if_neg h40,if_pos h44]
  rw[em]
  exact e0G (r:=([y.a,(p9 m y.a [8]).1.elem],[],(p9 m y.a [8]).2)) b1 hn b2 rfl
 rw[B3]
 refine⟨fun h45=> ?_,fun h45=> ?_⟩
 ·simp only[lm,oD,u5,Nat.zero_add,l1]
  refine lb1 ((a1U hok ha (by decide)).use ?_)
  simp only[P3,exD,List.getElem?_cons_zero,List.getElem?_cons_succ,oD]
  refine b4j fun k5 a5 n5=> ?_
  obtain⟨b1,b2,b3⟩:=box (o:=⟨5,[B9 (p9 m y.a [8]).1],a5⟩) n5
  have lf:b8 (S.set k5 ⟨5,[B9 (p9 m y.a [8]).1],a5⟩) (.ptr k5 3)=some (.int .i64 (p9 m y.a [8]).1.elem):=by rw[D5 (b9.set_same _ _ _)];rfl
  have h5:(S.set k5 ⟨5,[B9 (p9 m y.a [8]).1],a5⟩) k5=some ⟨5,[B9 (p9 m y.a [8]).1],a5⟩:=b9.set_same _ _ _
  generalize S.set k5 ⟨5,[B9 (p9 m y.a [8]).1],a5⟩=S5 at b1 b2 b3 lf h5 ⊢
  have em:H3 y m=([y.a],[(p9 m y.a [8]).1.elem],(p9 m y.a [8]).2):=by
   unfold H3
   rw[if_neg h36,if_neg h39,if_neg h40,if_neg h44,if_pos h45]
  rw[em]
  refine⟨by trivial, ?_, ?_, ?_,trivial⟩
  ·refine D9 (l:=[y.a]) fun v S4 g1=>⟨trivial,(D7 g1.cells).useX ⟨trivial, ?_⟩⟩
   have e4:S4 k5=S5 k5:=by rw[g1.le _ _ h5,h5]
   have l4:b8 S4 (.ptr k5 3)=some (.int .i64 (p9 m y.a [8]).1.elem):=by rw[D5 (g1.le _ _ h5)];rfl
   simp only[u5,oD,j5,Nat.zero_add,lf,l4]
   refine⟨⟨⟨by simp,rfl⟩,⟨by simp,e4⟩,trivial⟩,D9 (l:=[(p9 m y.a [8]).1.elem]) fun v' S6 g2=>⟨trivial,(A2 (a:=v) (b:= .nilSlc) (c:= .bool true) g2.cells).useX ⟨trivial,(I5 (a:=v) (b:=v') (c:= .bool true) (clB _)).useX ⟨trivial, ?_⟩⟩⟩⟩
   exact a9B b1 hn b2 (r:=([y.a],[(p9 m y.a [8]).1.elem],(p9 m y.a [8]).2)) ⟨S4,g1,g2⟩
  ·refine D9 (l:=[y.a]) fun v S4 g1=>⟨trivial, ?_⟩
   have e4:S4 k5=S5 k5:=by rw[g1.le _ _ h5,h5]
   have l4:b8 S4 (.ptr k5 3)=some (.int .i64 (p9 m y.a [8]).1.elem):=by rw[D5 (g1.le _ _ h5)];rfl
   simp only[u5,oD,j5,Nat.zero_add,lf,l4]
   refine⟨⟨⟨by simp,e4⟩,trivial⟩,D9 (l:=[(p9 m y.a [8]).1.elem]) fun v' S6 g2=>⟨trivial,(D7 g1.cells).useX ⟨trivial,(A2 (a:=v) (b:= .nilSlc) (c:= .bool true) g2.cells).useX ⟨trivial,(I5 (a:=v) (b:=v') (c:= .bool true) (clB _)).useX ⟨trivial, ?_⟩⟩⟩⟩⟩
   exact a9B b1 hn b2 (r:=([y.a],[(p9 m y.a [8]).1.elem],(p9 m y.a [8]).2)) ⟨S4,g1,g2⟩
  ·simp only[u5,oD,Nat.zero_add,lf]
   refine⟨trivial,D9 (l:=[(p9 m y.a [8]).1.elem]) fun v' S4 g1=>⟨trivial,D9 (l:=[y.a]) fun v S6 g2=>⟨trivial,(D7 g2.cells).useX ⟨trivial,(A2 (a:=v) (b:= .nilSlc) (c:= .bool true) g1.cells).useX ⟨trivial,(I5 (a:=v) (b:=v') (c:= .bool true) (clB _)).useX ⟨trivial, ?_⟩⟩⟩⟩⟩⟩
   obtain⟨S7,g3,g4⟩:=g1.swap g2
   exact a9B b1 hn b2 (r:=([y.a],[(p9 m y.a [8]).1.elem],(p9 m y.a [8]).2)) ⟨S7,g3,g4⟩
 simp only[lm,oD,u5,Nat.zero_add,l1]
 refine lb2 ((a1U hok ha (by decide)).use ?_)
 simp only[P3,exD,List.getElem?_cons_zero,List.getElem?_cons_succ,oD]
 refine b4j fun k5 a5 n5=> ?_
 obtain⟨b1,b2,b3⟩:=box (o:=⟨5,[B9 (p9 m y.a [7,8]).1],a5⟩) n5
 have lf:b8 (S.set k5 ⟨5,[B9 (p9 m y.a [7,8]).1],a5⟩) (.ptr k5 3)=some (.int .i64 (p9 m y.a [7,8]).1.elem):=by rw[D5 (b9.set_same _ _ _)];rfl
 have h5:(S.set k5 ⟨5,[B9 (p9 m y.a [7,8]).1],a5⟩) k5=some ⟨5,[B9 (p9 m y.a [7,8]).1],a5⟩:=b9.set_same _ _ _
 generalize S.set k5 ⟨5,[B9 (p9 m y.a [7,8]).1],a5⟩=S5 at b1 b2 b3 lf h5 ⊢
 have l0:b8 S5 (.ptr k 0)=some (.int .u8 y.op):=by rw[D5 b3];rfl
 simp only[u5,oD,Nat.zero_add,l0,e39]
 rw[B3]
 refine⟨fun h41=> ?_,fun h41=> ?_⟩
 ·have em:H3 y m=([y.a,3],[(p9 m y.a [7,8]).1.elem],(p9 m y.a [7,8]).2):=by
   unfold H3
   rw[if_neg h36,if_neg h39,if_neg h40,if_neg h44,if_neg h45,if_pos h41]
  rw[em]
  refine⟨by trivial, ?_, ?_, ?_,trivial⟩
  ·refine D9 (l:=[y.a,3]) fun v S4 g1=>⟨trivial,(D7 g1.cells).useX ⟨trivial, ?_⟩⟩
   have e4:S4 k5=S5 k5:=by rw[g1.le _ _ h5,h5]
   have l4:b8 S4 (.ptr k5 3)=some (.int .i64 (p9 m y.a [7,8]).1.elem):=by rw[D5 (g1.le _ _ h5)];rfl
   simp only[u5,oD,j5,Nat.zero_add,lf,l4]
   refine⟨⟨⟨by simp,rfl⟩,⟨by simp,e4⟩,trivial⟩,D9 (l:=[(p9 m y.a [7,8]).1.elem]) fun v' S6 g2=>⟨trivial,(A2 (a:=v) (b:= .nilSlc) (c:= .bool true) g2.cells).useX ⟨trivial,(I5 (a:=v) (b:=v') (c:= .bool true) (clB _)).useX ⟨trivial, ?_⟩⟩⟩⟩
   exact a9B b1 hn b2 (r:=([y.a,3],[(p9 m y.a [7,8]).1.elem],(p9 m y.a [7,8]).2)) ⟨S4,g1,g2⟩
  ·refine D9 (l:=[y.a,3]) fun v S4 g1=>⟨trivial, ?_⟩
   have e4:S4 k5=S5 k5:=by rw[g1.le _ _ h5,h5]
   have l4:b8 S4 (.ptr k5 3)=some (.int .i64 (p9 m y.a [7,8]).1.elem):=by rw[D5 (g1.le _ _ h5)];rfl
   simp only[u5,oD,j5,Nat.zero_add,lf,l4]
   refine⟨⟨⟨by simp,e4⟩,trivial⟩,D9 (l:=[(p9 m y.a [7,8]).1.elem]) fun v' S6 g2=>⟨trivial,(D7 g1.cells).useX ⟨trivial,(A2 (a:=v) (b:= .nilSlc) (c:= .bool true) g2.cells).useX ⟨trivial,(I5 (a:=v) (b:=v') (c:= .bool true) (clB _)).useX ⟨trivial, ?_⟩⟩⟩⟩⟩
   exact a9B b1 hn b2 (r:=([y.a,3],[(p9 m y.a [7,8]).1.elem],(p9 m y.a [7,8]).2)) ⟨S4,g1,g2⟩
  ·simp only[u5,oD,Nat.zero_add,lf]
   refine⟨trivial,D9 (l:=[(p9 m y.a [7,8]).1.elem]) fun v' S4 g1=>⟨trivial,D9 (l:=[y.a,3]) fun v S6 g2=>⟨trivial,(D7 g2.cells).useX ⟨trivial,(A2 (a:=v) (b:= .nilSlc) (c:= .bool true) g1.cells).useX ⟨trivial,(I5 (a:=v) (b:=v') (c:= .bool true) (clB _)).useX ⟨trivial, ?_⟩⟩⟩⟩⟩⟩
   obtain⟨S7,g3,g4⟩:=g1.swap g2
   exact a9B b1 hn b2 (r:=([y.a,3],[(p9 m y.a [7,8]).1.elem],(p9 m y.a [7,8]).2)) ⟨S7,g3,g4⟩
 rw[B3]
 refine⟨fun h42=> ?_,fun h42=> ?_⟩
 ·simp only[u5,oD,Nat.zero_add,lf]
  have em:H3 y m=([y.a,3,(p9 m y.a [7,8]).1.elem],[],(p9 m y.a [7,8]).2):=by
   unfold H3
   rw[if_neg h36,if_neg h39,if_neg h40,if_neg h44,if_neg h45,if_neg h41,if_pos h42]
  rw[em]
  exact e0G (r:=([y.a,3,(p9 m y.a [7,8]).1.elem],[],(p9 m y.a [7,8]).2)) b1 hn b2 rfl
 ·have em:H3 y m=([y.a],[3],(p9 m y.a [7,8]).2):=by
   unfold H3
   rw[if_neg h36,if_neg h39,if_neg h40,if_neg h44,if_neg h45,if_neg h41,if_neg h42]
  rw[em]
  exact e0x (r:=([y.a],[3],(p9 m y.a [7,8]).2)) b1 hn b2
theorem d3t{y:In}{m:Mo}(hy:y.Ok)(hm:m.Fits)(hb:y.op=37∨y.op=38→0≤y.b){S:b9}:o9 Tryz.prog E w0 false b9Q [inD y,Z0 m] S (EfQ S (H3 y m)):=by
 refine d0i ?_
 unfold c6V
 rw[inD,J5,oD]
 intro k a n
 rw[Z0,J5,oD]
 intro k2 a2 n2
 obtain⟨ne2,n2'⟩:=b9.fresh n2
 intro k4 a4 n4
 obtain⟨ne4,n4'⟩:=b9.fresh n4
 obtain⟨ne4',n4''⟩:=b9.fresh n4'
 generalize hS3:((S.set k _).set k2 _).set k4 _=S3
 have h4:S3 k4=some ⟨3,[[.nilSlc, .nilSlc, .bool false]],a4⟩:=by rw[←hS3];exact b9.set_same _ _ _
 have h2:S3 k2=some ⟨3,[F8 m],a2⟩:=by rw[←hS3,b9.set_ne _ _ _ (Ne.symm ne4)];exact b9.set_same _ _ _
 have h0:S3 k=some ⟨4,[J2 y],a⟩:=by rw[←hS3,b9.set_ne _ _ _ (Ne.symm ne4'),b9.set_ne _ _ _ (Ne.symm ne2)];exact b9.set_same _ _ _
 have hle:S.le S3:=by rw[←hS3];exact b9.le_set (b9.le_set (b9.le_new n) n2') n4''
 have l0:b8 S3 (.ptr k 0)=some (.int .u8 y.op):=by rw[D5 h0];rfl
 have l1:b8 S3 (.ptr k 1)=some (.int .i64 y.a):=by rw[D5 h0];rfl
 simp only[u5,Nat.zero_add]
 rw[oD,l1,oD,oD,l0,oD]
 exact orC (C:=fun b=>a0Q E w0 false _ _ _ _ _ _ b S3) (d5o hy hm hb hle h0 h2 n4'' h4) fun h=>orC h fun h=>tEq h
end
end
section
def TkQ(S:b9)(r:List Int×List Int×Int)(v:D)(S':b9):Prop:=∃c d,v= .tup [c,d, .int .i64 r.2.2]∧Two S c r.1 d r.2.1 S'
theorem e1H{y:In}(h:isS y=true):1≤y.op∧y.op≤52:=by
 have hs:(lay y.op).isSome=true:=by
  unfold isS at h
  simp only[Bool.and_eq_true]at h
  exact h.1.1
 by_cases c:1≤y.op∧y.op≤52
 ·exact c
 ·exfalso
  rw[←d6B]at hs
  unfold d1Q at hs
  have ne:∀p:Int,1≤p→p≤52→(y.op==p)=false:=fun p h1 h2=>by
   rw[a7l];exact decide_eq_false (by omega)
  simp only[ne 6 (by decide) (by decide),ne 7 (by decide) (by decide),ne 8 (by decide) (by decide),ne 50 (by decide) (by decide),ne 36 (by decide) (by decide),ne 37 (by decide) (by decide),ne 38 (by decide) (by decide),ne 23 (by decide) (by decide),ne 24 (by decide) (by decide),ne 46 (by decide) (by decide),ne 47 (by decide) (by decide),ne 48 (by decide) (by decide),Bool.false_or]at hs
  rw[if_neg (by omega),if_neg (by omega),if_neg (by omega),if_neg (by simp;omega),if_neg (by simp),if_neg (by simp),if_neg (by simp;omega),if_neg (by omega),if_neg (by simp),if_neg (by omega),if_neg (by omega),if_neg (by simp;omega)]at hs
  cases hs
section
variable{E:j6}{w0:World}
theorem d1r{l:List Int}{d:D}(hl:l.length<2^40)(he:d8X d .nilSlc=some false)(hr:∀S,rowsS S 1 d=some (iC l)){x:Bool}{S:b9}:o9 Tryz.prog E w0 x V0 [d] S fun d S'=>Own S d l S':=by
 refine a4N ?_
 unfold a3g
 rw[he,eqE,oD,cdF]
 refine d2v (rows:=[]) fun k acs n=> ?_
 simp only[r6,hr,a7T]
 by_cases hn:iC l=[]
 ·rw[if_pos hn]
  have:l=[]:=by
   cases l with
   |nil=>rfl
   |cons a l=>simp[iC,y9]at hn
  subst this
  exact i9.here (.inr ⟨k,acs,true,n,rfl,rfl⟩)
 ·rw[if_neg hn,b9.set_same]
  simp only
  rw[if_pos ⟨by trivial,by trivial,by simp⟩]
  refine⟨by simp;omega, .inr fun k' acs' hk'=> ?_⟩
  rw[b9.erase_set _ _ _ n]at hk' ⊢
  refine i9.here (.inr ⟨k',acs',false,hk', ?_, ?_⟩)<;>simp
theorem d3s{l:List Int}(hl:l.length<2^40){x:Bool}{S:b9}:o9 Tryz.prog E w0 x V0 [iD l] S fun d S'=>Own S d l S':=by
 cases l with
 |nil=>
  refine DF.split (pre:=[]) (post:=[]) (a4N ?_) (d1r (by decide) rfl fun S=>by simp[rowsS,L2,iC,y9])
  unfold a3g
  rw[show c2O .eql (d8X .nilSlc .nilSlc)=some (.bool true) from rfl,oD,cdT]
  exact i9.here (Own.nil _)
 |cons a l=>exact d1r hl rfl fun S=>c1Q S _
variable{S B S':b9}{k8:Nat}{y:In}{m:Mo}
theorem d6J{r:List Int×List Int×Bool}{c d:D}{a:List AV}(hB:S.le B)(h8:B k8=some ⟨3,[[c,d, .bool r.2.2]],a⟩)(g:Two B c r.1 d r.2.1 S')(e:I7 y m=if r.2.2=true then(r.1,r.2.1,0) else([],[],2)):
  K5 E w0 false (i9 E (TkQ S (I7 y m))) (.ptr k8 0) S':=by
 refine c0s ?_
 unfold b5P
 have h:=g.le _ _ h8
 simp only[u5,oD,Nat.zero_add,D5 h,List.getElem?_cons_zero,List.getElem?_cons_succ,unN]
 obtain⟨S'',l,g''⟩:=g.base hB
 cases hr:r.2.2 with
 |false=>
  rw[Bool.not_false,cdT]
  rw[hr,if_neg (by simp)]at e
  rw[e]
  exact i9.less (b9.le_trans hB g.le) (i9.here ⟨.nilSlc, .nilSlc,rfl,S,Own.nil _,Own.nil _⟩)
 |true=>
  rw[Bool.not_true,cdF]
  rw[hr,if_pos rfl]at e
  rw[e]
  exact⟨trivial,trivial,i9.less l (i9.here ⟨c,d,rfl,g''⟩)⟩
theorem c7S{r:List Int×List Int×Bool}{c d:D}{a:List AV}(hB:S.le B)(hn:S k8=none)(h8:B k8=some ⟨3,[[.nilSlc, .nilSlc, .bool false]],a⟩)(g:Two B c r.1 d r.2.1 S')(e:I7 y m=if r.2.2=true then(r.1,r.2.1,0) else([],[],2)):
  j7 S' 3 (.ptr k8 0) (efD c d r.2.2) fun _ S8=>K5 E w0 false (i9 E (TkQ S (I7 y m))) (.ptr k8 0) S8:=by
 refine stP (ds:=[c,d, .bool r.2.2]) (g.le _ _ h8) (J5 _) ⟨rfl,by decide,by simp⟩ fun a3=> ?_
 exact d6J (r:=r) (b9.le_set hB hn) (b9.set_same _ _ _) (g.upd h8) e
end
end
section
section
variable{E:j6}{w0:World}
set_option maxHeartbeats 1000000 in
theorem d1X{y:In}{m:Mo}(hy:y.Ok)(hm:m.Fits){S:b9}:o9 Tryz.prog E w0 false b0m [inD y,Z0 m] S (TkQ S (I7 y m)):=by
 refine c8m ?_
 unfold c4U
 rw[inD,J5,oD]
 intro k a n
 rw[Z0,J5,oD]
 intro k2 a2 n2
 obtain⟨ne2,n2'⟩:=b9.fresh n2
 generalize hS3:(S.set k _).set k2 _=S3
 have h2:S3 k2=some ⟨3,[F8 m],a2⟩:=by rw[←hS3];exact b9.set_same _ _ _
 have h0:S3 k=some ⟨4,[J2 y],a⟩:=by rw[←hS3,b9.set_ne _ _ _ (Ne.symm ne2)];exact b9.set_same _ _ _
 have hle:S.le S3:=by rw[←hS3];exact b9.le_set (b9.le_new n) n2'
 clear hS3 n2
 have hok:=hm.ok
 rw[laP h0 (by simp[J2]),oD]
 refine(d4K hy).use ?_
 rw[Y4,oD,a7l]
 cases his:isS y with
 |false=>
  have e:c6Z y=[]:=by unfold c6Z;rw[if_neg (by rw[his];simp)]
  rw[e,decide_eq_true (by rfl),cdT]
  have et:I7 y m=([],[],120):=by unfold I7;rw[if_pos his]
  rw[et]
  exact i9.less hle (i9.here ⟨.nilSlc, .nilSlc,rfl,S,Own.nil _,Own.nil _⟩)
 |true=>
 have ns:¬isS y=false:=by rw[his];simp
 have hlen:¬(((c6Z y).length:Nat):Int)=0:=by
  unfold c6Z
  rw[if_pos his]
  unfold b7X
  simp
  omega
 rw[decide_eq_false hlen,cdF]
 intro k8 a8 n8
 have h8:(S3.set k8 ⟨3,[[.nilSlc, .nilSlc, .bool false]],a8⟩) k8=some ⟨3,[[.nilSlc, .nilSlc, .bool false]],a8⟩:=b9.set_same _ _ _
 have z8:S k8=none:=by
  cases e:S k8 with
  |none=>rfl
  |some o=>rw[hle _ _ e]at n8;cases n8
 have h0':(S3.set k8 ⟨3,[[.nilSlc, .nilSlc, .bool false]],a8⟩) k=some ⟨4,[J2 y],a⟩:=by rw[b9.set_ne _ _ _ (fun e=>by rw[←e,h0]at n8;cases n8)];exact h0
 have h2':(S3.set k8 ⟨3,[[.nilSlc, .nilSlc, .bool false]],a8⟩) k2=some ⟨3,[F8 m],a2⟩:=by rw[b9.set_ne _ _ _ (fun e=>by rw[←e,h2]at n8;cases n8)];exact h2
 have hle':S.le (S3.set k8 ⟨3,[[.nilSlc, .nilSlc, .bool false]],a8⟩):=b9.le_set hle z8
 have e3:([D.nilSlc, .nilSlc, .bool false]).length=3:=rfl
 rw[e3]
 clear h0 h2 hle
 generalize S3.set k8 ⟨3,[[.nilSlc, .nilSlc, .bool false]],a8⟩=S9 at h8 h0' h2' hle' ⊢
 have l0:b8 S9 (.ptr k 0)=some (.int .u8 y.op):=by rw[D5 h0'];rfl
 have l1:b8 S9 (.ptr k 1)=some (.int .i64 y.a):=by rw[D5 h0'];rfl
 have m1:b8 S9 (.ptr k2 1)=some (a6A m.texts):=by rw[D5 h2'];rfl
 have m2:b8 S9 (.ptr k2 2)=some (b1r m.funcs):=by rw[D5 h2'];rfl
 have li:j2 S9 4 (.ptr k 0)=some (inD y):=by rw[laP h0' (by simp[J2])];rfl
 have lm:j2 S9 3 (.ptr k2 0)=some (Z0 m):=by rw[laP h2' (by simp[F8])];rfl
 have lx:∀l:List Tx,l9 (a6A l)=some (.int .i64 (l.length:Int)):=fun l=>by simp[a6A]
 have lr:∀l:List Ro,l9 (b1r l)=some (.int .i64 (l.length:Int)):=fun l=>by simp[b1r]
 simp only[u5,oD,Nat.zero_add,l0]
 refine tEq ?_
 rw[B3]
 refine⟨fun h6=> ?_,fun h6=> ?_⟩
 ·have et:I7 y m=if decide (y.a<m.texts.length)=true then([],[5],0) else([],[],2):=by
   unfold I7
   rw[if_neg ns]
   by_cases d:y.a<m.texts.length
   ·rw[if_neg (by omega),if_neg (by omega),if_neg (by omega),if_pos (decide_eq_true d)]
    unfold q9
    rw[if_neg (by omega),if_neg (by omega),if_pos h6]
   ·rw[if_pos (by omega),if_neg (by rw[decide_eq_false d];simp)]
  refine⟨by trivial, ?_, ?_,trivial⟩
  ·refine(D7 clN).useX ⟨trivial,D9 (l:=[5]) fun v S4 g1=>⟨trivial,(A2 (a:= .nilSlc) (b:= .nilSlc) (c:= .bool true) g1.cells).useX ⟨trivial, ?_⟩⟩⟩
   have q1:b8 S4 (.ptr k 1)=some (.int .i64 y.a):=by rw[D5 (g1.le _ _ h0')];rfl
   have q2:b8 S4 (.ptr k2 1)=some (a6A m.texts):=by rw[D5 (g1.le _ _ h2')];rfl
   have f1:S4 k=S9 k:=by rw[g1.le _ _ h0',h0']
   have f2:S4 k2=S9 k2:=by rw[g1.le _ _ h2',h2']
   simp only[u5,oD,j5,Nat.zero_add,l1,m1,q1,q2,lx,A5,fwP,f1,f2]
   simp only[ne_eq,reduceCtorEq,not_false_eq_true,true_and,and_true]
   refine(I5 (a:= .nilSlc) (b:=v) (c:= .bool true) (clB _)).useX ?_
   exact c7S (E:=E) (w0:=w0) (r:=([],[5],decide (y.a<m.texts.length))) hle' z8 h8 ⟨S9,Own.nil _,g1⟩ et
  ·refine D9 (l:=[5]) fun v S4 g1=>⟨trivial,(D7 clN).useX ⟨trivial,(A2 (a:= .nilSlc) (b:= .nilSlc) (c:= .bool true) g1.cells).useX ⟨trivial, ?_⟩⟩⟩
   have q1:b8 S4 (.ptr k 1)=some (.int .i64 y.a):=by rw[D5 (g1.le _ _ h0')];rfl
   have q2:b8 S4 (.ptr k2 1)=some (a6A m.texts):=by rw[D5 (g1.le _ _ h2')];rfl
   have f1:S4 k=S9 k:=by rw[g1.le _ _ h0',h0']
   have f2:S4 k2=S9 k2:=by rw[g1.le _ _ h2',h2']
   simp only[u5,oD,j5,Nat.zero_add,l1,m1,q1,q2,lx,A5,fwP,f1,f2]
   simp only[ne_eq,reduceCtorEq,not_false_eq_true,true_and,and_true]
   refine(I5 (a:= .nilSlc) (b:=v) (c:= .bool true) (clB _)).useX ?_
   exact c7S (E:=E) (w0:=w0) (r:=([],[5],decide (y.a<m.texts.length))) hle' z8 h8 ⟨S9,Own.nil _,g1⟩ et
 refine tEq ?_
 rw[B3]
 refine⟨fun h50=> ?_,fun h50=> ?_⟩
 ·simp only[oD,l1,m2,lr,A5]
  rw[B3]
  refine⟨fun hlt=> ?_,fun hlt=> ?_⟩
  ·obtain⟨ha1,ha2⟩:=e0H his h50
   obtain⟨i,hi⟩:∃i:Nat,i=y.a.toNat:=⟨_,rfl⟩
   have hi':y.a=(i:Int):=by omega
   have hil:i<m.funcs.length:=by omega
   obtain⟨r,hr⟩:∃r,r=m.funcs[i]:=⟨_,rfl⟩
   have ea:m.funcs[i]? =some r:=by rw[List.getElem?_eq_getElem hil,hr]
   obtain⟨p1,p2,_⟩:=hm.params r (by rw[hr];exact List.getElem_mem _)
   have ex:p6 6 (b1r m.funcs) (.int .i64 (i:Int))=some (.elt (F9 r) 0):=a1k ea
   have et:I7 y m=(r.params,r.results,0):=by
    unfold I7
    rw[if_neg ns,if_neg (by omega),if_pos h50, ←hi,ea]
   rw[hi',ex,oD,show j2 S9 6 (.elt (F9 r) 0)=some (.agg (F9 r)) from rfl,oD]
   intro k5 a5 n5
   refine stP (ds:=F9 r) (b9.set_same _ _ _) (J5 _) ⟨rfl,by decide,by simp[F9]⟩ fun a6=> ?_
   rw[b9.set_set]
   have h5:(S9.set k5 ⟨6,[F9 r],a6⟩) k5=some ⟨6,[F9 r],a6⟩:=b9.set_same _ _ _
   have h8':(S9.set k5 ⟨6,[F9 r],a6⟩) k8=some ⟨3,[[.nilSlc, .nilSlc, .bool false]],a8⟩:=by rw[b9.set_ne _ _ _ (fun e=>by rw[←e,h8]at n5;cases n5)];exact h8
   have l5:S.le (S9.set k5 ⟨6,[F9 r],a6⟩):=b9.le_trans hle' (b9.le_new n5)
   show b7 (i5 1 (.ptr k5 0)) _
   generalize hS5:S9.set k5 _=S5
   have h5:S5 k5=some ⟨6,[F9 r],a6⟩:=by rw[←hS5];exact h5
   have h8':S5 k8=some ⟨3,[[.nilSlc, .nilSlc, .bool false]],a8⟩:=by rw[←hS5];exact h8'
   have l5:S.le S5:=by rw[←hS5];exact l5
   have q1:b8 S5 (.ptr k5 1)=some (iD r.params):=by rw[D5 h5];rfl
   have q2:b8 S5 (.ptr k5 2)=some (iD r.results):=by rw[D5 h5];rfl
   simp only[u5,oD,Nat.zero_add,q1]
   refine⟨trivial,(d3s (x:=true) (by omega)).toX fun c S4 g1=>⟨trivial,(D7 g1.cells).useX ⟨trivial, ?_⟩⟩⟩
   have q3:b8 S4 (.ptr k5 2)=some (iD r.results):=by rw[D5 (g1.le _ _ h5)];rfl
   have f1:S4 k5=S5 k5:=by rw[g1.le _ _ h5,h5]
   simp only[oD,j5,q2,q3]
   refine⟨⟨⟨by simp,rfl⟩,⟨by simp,f1⟩,trivial⟩,(d3s (x:=true) (by omega)).toX fun d S6 g2=>⟨trivial,(A2 (a:=c) (b:= .nilSlc) (c:= .bool true) g2.cells).useX ⟨trivial, ?_⟩⟩⟩
   have:=c7S (E:=E) (w0:=w0) (y:=y) (m:=m) (r:=(r.params,r.results,true)) l5 z8 h8' ⟨S4,g1,g2⟩ (by rw[et,if_pos rfl])
   simp only[true_and]
   exact this
  ·exact d6J (r:=([],[],false)) hle' h8 ⟨S9,Own.nil _,Own.nil _⟩ (by unfold I7;rw[if_neg ns,if_pos (by omega),if_neg (by simp)])
 refine tIn l0 ?_
 rw[B3]
 refine⟨fun h36=> ?_,fun h36=> ?_⟩
 ·rw[li,oD,lm,oD]
  refine(d3t hy hm (e0u his)).use ?_
  rintro v S' ⟨c,d,rfl,g⟩
  refine c7S (r:=H3 y m) hle' z8 h8 g ?_
  unfold I7
  rw[if_neg ns,if_neg (by omega),if_neg h50,if_pos h36]
 ·rw[li,oD]
  obtain⟨o1,o2⟩:=e1H his
  refine(d1G hy (by omega)).use ?_
  rintro v S' ⟨c,d,rfl,g⟩
  refine c7S (r:=((q9 y).1,(q9 y).2,true)) hle' z8 h8 g ?_
  unfold I7
  rw[if_neg ns,if_neg (by omega),if_neg h50,if_neg h36,if_pos rfl]
end
end
end Go.Proofs.YtchnpgddpaonhaaGreat.d
end
section
open Go.Proofs Go Go.Am
namespace Go.Proofs.YtchnpgddpaonhaaGreat.d
variable{E:j6}{w0:World}{x:Bool}{Q:D→b9→Prop}
def c9r:List (Nat×List Nat):=[]
def c7U:List (Nat×List Nat):=[]
def b8h(E:j6)(w0:World)(x:Bool)(Q:D→b9→Prop)(a0 a1:D)(S:b9):Prop:=
 b7 (q6 a0) fun cs=>m8 S cs fun v0 S1=>
 b7 (i6 .leq (.int .i64 1) a1) fun v2=>
 b7 (i4 (i0 v2 true) (some a1)) fun v3=>
 b7 (i4 (i0 v2 true) (i6 .leq v3 (.int .i64 5))) fun v4=>
 b7 (o7 v2 v4 (.bool false)) fun v5=>
 b7 (i4 (i0 v5 false) (some a1)) fun v6=>
 b7 (i4 (i0 v5 false) (i6 .geq v6 (.int .i64 16))) fun v7=>
 b7 (i4 (i0 v5 false) (some v7)) fun v8=>
 b7 (i4 (i0 v8 true) (some a1)) fun v9=>
 b7 (i4 (i0 v8 true) (i6 .sub v9 (.int .i64 16))) fun v10=>
 b7 (i4 (i0 v8 true) (i5 0 v0)) fun v11=>
 b7 (i4 (i0 v8 true) (b8 S1 v11)) fun v12=>
 b7 (i4 (i0 v8 true) (l9 v12)) fun v13=>
 b7 (i4 (i0 v8 true) (i6 .lss v10 v13)) fun v14=>
 b7 (i4 (i0 v5 false) (o7 v8 v14 (.bool false))) fun v15=>
 b7 (o7 v5 (.bool true) v15) fun v16=>
 Q v16 S1
theorem c3x{a0 a1:D}{S:b9}(h:b8h E w0 x (i9 E Q) a0 a1 S):o9 Tryz.prog E w0 x Y5 [a0,a1] S Q:=
 l7 c9r c7U (fn:=Tryz.f78) (c:=Tryz.f78.body.getD .skip) m7 Tryz.func78 (by kernel_rfl) (by kernel_rfl) h
def c3k:List (Nat×List Nat):=[]
def c3l:List (Nat×List Nat):=[]
def b4q(E:j6)(w0:World)(x:Bool)(Q:D→b9→Prop)(a0 a1:D)(S:b9):Prop:=
 b7 (q6 a0) fun cs=>m8 S cs fun v0 S1=>
 b7 (q6 a1) fun cs=>m8 S1 cs fun v2 S3=>
 b7 (i5 1 v2) fun v4=>
 b7 (b8 S3 v4) fun v5=>
 b7 (a3I .eql v5 (.str [])) fun v6=>
 b7 (i4 (i0 v6 true) (i5 2 v2)) fun v7=>
 b7 (i4 (i0 v6 true) (b8 S3 v7)) fun v8=>
 b7 (i4 (i0 v6 true) (l9 v8)) fun v9=>
 b7 (i4 (i0 v6 true) (i6 .eql v9 (.int .i64 0))) fun v10=>
 b7 (o7 v6 v10 (.bool false)) fun v11=>
 b7 (i4 (i0 v11 true) (j2 S3 3 v0)) fun v12=>
 b7 (i4 (i0 v11 true) (i5 3 v2)) fun v13=>
 b7 (i4 (i0 v11 true) (b8 S3 v13)) fun v14=>
 F7 (i0 v11 true) (fun K=>o9 Tryz.prog E w0 x Y5 [v12,v14] S3 K) S3 fun v15 S16=>
 b7 (o7 v11 v15 (.bool false)) fun v17=>
 b7 (i5 0 v2) fun v18=>
 b7 (b8 S16 v18) fun v19=>
 b7 (i6 .eql v19 (.int .u8 6)) fun v20=>
 j1 v20
 (b7 (i5 3 v2) fun v21=>
 b7 (b8 S16 v21) fun v22=>
 b7 (i6 .eql v22 (.int .i64 0)) fun v23=>
 b7 (i4 (i0 v23 true) (i5 4 v2)) fun v24=>
 b7 (i4 (i0 v23 true) (b8 S16 v24)) fun v25=>
 b7 (i4 (i0 v23 true) (i6 .eql v25 (.int .i64 0))) fun v26=>
 b7 (o7 v23 v26 (.bool false)) fun v27=>
 b7 (i4 (i0 v27 true) (i5 2 v2)) fun v28=>
 b7 (i4 (i0 v27 true) (b8 S16 v28)) fun v29=>
 b7 (i4 (i0 v27 true) (some (.fn (.func a1j) [] [v0]))) fun v30=>
 F7 (i0 v27 true) (fun K=>o9 Tryz.prog E w0 x C4 [v29,v30] S16 K) S16 fun v31 S32=>
 b7 (i4 (i0 v27 true) (unD .not v31)) fun v33=>
 b7 (o7 v27 v33 (.bool false)) fun v34=>
 Q v34 S32)
 (b7 (i6 .eql v19 (.int .u8 7)) fun v35=>
 j1 v35
 (b7 (i4 (i0 v17 true) (i5 4 v2)) fun v36=>
 b7 (i4 (i0 v17 true) (b8 S16 v36)) fun v37=>
 b7 (i4 (i0 v17 true) (i6 .geq v37 (.int .i64 0))) fun v38=>
 b7 (o7 v17 v38 (.bool false)) fun v39=>
 b7 (i4 (i0 v39 true) (i5 4 v2)) fun v40=>
 b7 (i4 (i0 v39 true) (b8 S16 v40)) fun v41=>
 b7 (i4 (i0 v39 true) (i6 .leq v41 (.int .i64 65536))) fun v42=>
 b7 (o7 v39 v42 (.bool false)) fun v43=>
 Q v43 S16)
 (b7 (i6 .eql v19 (.int .u8 8)) fun v44=>
 j1 v44
 (b7 (i4 (i0 v17 true) (i5 4 v2)) fun v45=>
 b7 (i4 (i0 v17 true) (b8 S16 v45)) fun v46=>
 b7 (i4 (i0 v17 true) (i6 .eql v46 (.int .i64 0))) fun v47=>
 b7 (o7 v17 v47 (.bool false)) fun v48=>
 Q v48 S16)
 (Q (.bool false) S16)))
theorem b9F{a0 a1:D}{S:b9}(h:b4q E w0 x (i9 E Q) a0 a1 S):o9 Tryz.prog E w0 x a2L [a0,a1] S Q:=
 l7 c3k c3l (fn:=Tryz.f45) (c:=Tryz.f45.body.getD .skip) m7 Tryz.func45 (by kernel_rfl) (by kernel_rfl) h
def b9X:List (Nat×List Nat):=[]
def b9Y:List (Nat×List Nat):=[]
def b0E(E:j6)(w0:World)(x:Bool)(Q:D→b9→Prop)(a0 c0:D)(S:b9):Prop:=
 b7 (q6 a0) fun cs=>m8 S cs fun v0 S1=>
 b7 (j2 S1 3 c0) fun v2=>
 b7 (i5 1 v0) fun v3=>
 b7 (b8 S1 v3) fun v4=>
 o9 Tryz.prog E w0 x Y5 [v2,v4] S1 fun v5 S6=>
 b7 (unD .not v5) fun v7=>
 Q v7 S6
theorem b6Y{a0 c0:D}{S:b9}(h:b0E E w0 x (i9 E Q) a0 c0 S):o9 Tryz.prog E w0 x a1j [a0,c0] S Q:=
 l7 b9X b9Y (fn:=Tryz.f79) (c:=Tryz.f79.body.getD .skip) m7 Tryz.func79 (by kernel_rfl) (by kernel_rfl) h
def c3s:List (Nat×List Nat):=[]
def c4a:List (Nat×List Nat):=[]
def b4k(E:j6)(w0:World)(x:Bool)(Q:D→b9→Prop)(a0 a1:D)(S:b9):Prop:=
 b7 (q6 a0) fun cs=>m8 S cs fun v0 S1=>
 b7 (q6 a1) fun cs=>m8 S1 cs fun v2 S3=>
 b7 (some (.fn (.func a3V) [] [v0])) fun v4=>
 b7 (i5 1 v2) fun v5=>
 b7 (b8 S3 v5) fun v6=>
 o9 Tryz.prog E w0 x L4 [v6,v4] S3 fun v7 S8=>
 b7 (i4 (i0 v7 false) (i5 2 v2)) fun v9=>
 b7 (i4 (i0 v7 false) (b8 S8 v9)) fun v10=>
 b7 (i4 (i0 v7 false) (some v4)) fun v11=>
 F7 (i0 v7 false) (fun K=>o9 Tryz.prog E w0 x L4 [v10,v11] S8 K) S8 fun v12 S13=>
 b7 (o7 v7 (.bool true) v12) fun v14=>
 b7 (i4 (i0 v14 false) (i5 3 v2)) fun v15=>
 b7 (i4 (i0 v14 false) (b8 S13 v15)) fun v16=>
 b7 (i4 (i0 v14 false) (i5 1 v2)) fun v17=>
 b7 (i4 (i0 v14 false) (b8 S13 v17)) fun v18=>
 b7 (i4 (i0 v14 false) (l9 v18)) fun v19=>
 b7 (i4 (i0 v14 false) (i6 .lss v16 v19)) fun v20=>
 b7 (o7 v14 (.bool true) v20) fun v21=>
 b7 (i4 (i0 v21 false) (i5 4 v2)) fun v22=>
 b7 (i4 (i0 v21 false) (b8 S13 v22)) fun v23=>
 b7 (i4 (i0 v21 false) (i6 .lss v23 (.int .i64 0))) fun v24=>
 b7 (o7 v21 (.bool true) v24) fun v25=>
 j1 v25
 (Q (.bool false) S13)
 (b7 (i5 5 v2) fun v26=>
 b7 (b8 S13 v26) fun v27=>
 o9 Tryz.prog E w0 x c2U [v27] S13 fun v28 S29=>
 b7 (o4 v28 0) fun v30=>
 b7 (o4 v28 1) fun v31=>
 b7 (o4 v28 2) fun v32=>
 b7 (i6 .eql v32 (.int .i64 0)) fun v33=>
 b7 (i4 (i0 v33 true) (some v30)) fun v34=>
 b7 (i4 (i0 v33 true) (some (.fn (.func a4c) [] [v0,v2]))) fun v35=>
 F7 (i0 v33 true) (fun K=>o9 Tryz.prog E w0 x L3 [v34,v35] S29 K) S29 fun v36 S37=>
 b7 (i4 (i0 v33 true) (unD .not v36)) fun v38=>
 b7 (o7 v33 v38 (.bool false)) fun v39=>
 Q v39 S37)
theorem b9c{a0 a1:D}{S:b9}(h:b4k E w0 x (i9 E Q) a0 a1 S):o9 Tryz.prog E w0 x a2E [a0,a1] S Q:=
 l7 c3s c4a (fn:=Tryz.f48) (c:=Tryz.f48.body.getD .skip) m7 Tryz.func48 (by kernel_rfl) (by kernel_rfl) h
def b9e:List (Nat×List Nat):=[]
def b9W:List (Nat×List Nat):=[]
def b0i(E:j6)(w0:World)(x:Bool)(Q:D→b9→Prop)(a0 c0:D)(S:b9):Prop:=
 b7 (j2 S 3 c0) fun v0=>
 o9 Tryz.prog E w0 x Y5 [v0,a0] S fun v1 S2=>
 b7 (unD .not v1) fun v3=>
 Q v3 S2
theorem b5U{a0 c0:D}{S:b9}(h:b0i E w0 x (i9 E Q) a0 c0 S):o9 Tryz.prog E w0 x a3V [a0,c0] S Q:=
 l7 b9e b9W (fn:=Tryz.f81) (c:=Tryz.f81.body.getD .skip) m7 Tryz.func81 (by kernel_rfl) (by kernel_rfl) h
def b9L:List (Nat×List Nat):=[]
def b9l:List (Nat×List Nat):=[]
def b0k(E:j6)(w0:World)(x:Bool)(Q:D→b9→Prop)(a0 c0 c1:D)(S:b9):Prop:=
 b7 (q6 a0) fun cs=>m8 S cs fun v0 S1=>
 b7 (j2 S1 4 v0) fun v2=>
 b7 (j2 S1 3 c0) fun v3=>
 o9 Tryz.prog E w0 x b0m [v2,v3] S1 fun v4 S5=>
 b7 (o4 v4 0) fun v6=>
 b7 (o4 v4 1) fun v7=>
 b7 (o4 v4 2) fun v8=>
 b7 (i6 .neq v8 (.int .i64 0)) fun v9=>
 b7 (i4 (i0 v9 false) (i5 0 v0)) fun v10=>
 b7 (i4 (i0 v9 false) (b8 S5 v10)) fun v11=>
 b7 (i4 (i0 v9 false) (i6 .eql v11 (.int .u8 7))) fun v12=>
 b7 (i4 (i0 v9 false) (some v12)) fun v13=>
 b7 (i4 (i0 v13 false) (i5 0 v0)) fun v14=>
 b7 (i4 (i0 v13 false) (b8 S5 v14)) fun v15=>
 b7 (i4 (i0 v13 false) (i6 .eql v15 (.int .u8 8))) fun v16=>
 b7 (i4 (i0 v9 false) (o7 v13 (.bool true) v16)) fun v17=>
 b7 (i4 (i0 v9 false) (some v17)) fun v18=>
 b7 (i4 (i0 v18 true) (i5 1 v0)) fun v19=>
 b7 (i4 (i0 v18 true) (b8 S5 v19)) fun v20=>
 b7 (i4 (i0 v18 true) (i5 3 c1)) fun v21=>
 b7 (i4 (i0 v18 true) (b8 S5 v21)) fun v22=>
 b7 (i4 (i0 v18 true) (i6 .geq v20 v22)) fun v23=>
 b7 (i4 (i0 v9 false) (o7 v18 v23 (.bool false))) fun v24=>
 b7 (o7 v9 (.bool true) v24) fun v25=>
 Q v25 S5
theorem b5R{a0 c0 c1:D}{S:b9}(h:b0k E w0 x (i9 E Q) a0 c0 c1 S):o9 Tryz.prog E w0 x a4c [a0,c0,c1] S Q:=
 l7 b9L b9l (fn:=Tryz.f85) (c:=Tryz.f85.body.getD .skip) m7 Tryz.func85 (by kernel_rfl) (by kernel_rfl) h
def A4:List (Nat×List Nat):=[(8,[1,24,25,26]),(32,[1,52,53,54])]
def A3:List (Nat×List Nat):=[(37,[1,4,24,25,26,30]),(97,[1,6,52,53,54,58])]
noncomputable def b5z:Code:=(j4 [1,1,0,1,0,0,1,1,0,0,1,0,1] (Tryz.f23.body.getD .skip))
def b4H(E:j6)(w0:World)(x:Bool)(N0:D→D→D→D→b9→Prop)(Q:D→b9→Prop):o6→List D→b9→Prop:=
 (o8 2 (o8 1 (w6 Tryz.prog E w0 x A4 A3 (j4 [1,1,0,1,0,0,1,1,1] (Tryz.f23.body.getD .skip)) (q8 (fun T S=>N0 (T.getD 1 d9) (T.getD 24 d9) (T.getD 25 d9) (T.getD 26 d9) S) (o8 0 (w6 Tryz.prog E w0 x A4 A3 (j4 [1,1,1] (Tryz.f23.body.getD .skip)) (z7 Tryz.prog Tryz.f23 Q)))))))
def a6e(E:j6)(w0:World)(x:Bool)(N0:D→D→D→D→b9→Prop)(Q:D→b9→Prop)(x1 x4 x24 x25 x26 x30:D)(S:b9):Prop:=
 j1 x30
 (Q (.int .i64 3) S)
 (b7 (j2 S 3 x1) fun v26=>
 b7 (j2 S 5 x4) fun v27=>
 o9 Tryz.prog E w0 x a2L [v26,v27] S fun v28 S29=>
 b7 (unD .not v28) fun v30=>
 j1 v30
 (Q (.int .i64 130) S29)
 (b7 (i6 .add x26 (.int .i64 1)) fun v31=>
 N0 x1 x24 x25 v31 S29))
def O2(E:j6)(w0:World)(x:Bool)(N0:D→D→D→D→b9→Prop)(Q:D→b9→Prop)(x1 x4 x24 x25 x26 x30:D)(S:b9):Prop:=j0 Tryz.prog E w0 x b5z (j9 87 [1,4,24,25,26,30] [x1,x4,x24,x25,x26,x30]) S (b4H E w0 x N0 Q)
theorem b1P{N0:D→D→D→D→b9→Prop}{Q:D→b9→Prop}{x1 x4 x24 x25 x26 x30:D}{S:b9}(h:a6e E w0 x N0 Q x1 x4 x24 x25 x26 x30 S):O2 E w0 x N0 Q x1 x4 x24 x25 x26 x30 S:=j3 A4 A3 m7 (by kernel_rfl) h
noncomputable def b5p:Code:=(j4 [1,1,1,1,0,1,0,0,1,1,0,0,1,0,1] (Tryz.f23.body.getD .skip))
def b4S(E:j6)(w0:World)(x:Bool)(N1:D→D→D→D→b9→Prop)(Q:D→b9→Prop):o6→List D→b9→Prop:=
 (o8 5 (o8 4 (w6 Tryz.prog E w0 x A4 A3 (j4 [1,1,1,1,0,1,0,0,1,1,1] (Tryz.f23.body.getD .skip)) (q8 (fun T S=>N1 (T.getD 1 d9) (T.getD 52 d9) (T.getD 53 d9) (T.getD 54 d9) S) (o8 3 (w6 Tryz.prog E w0 x A4 A3 (j4 [1,1,1,1,1] (Tryz.f23.body.getD .skip)) (z7 Tryz.prog Tryz.f23 Q)))))))
def a5R(E:j6)(w0:World)(x:Bool)(N1:D→D→D→D→b9→Prop)(Q:D→b9→Prop)(x1 x6 x52 x53 x54 x58:D)(S:b9):Prop:=
 j1 x58
 (Q (.int .i64 3) S)
 (b7 (j2 S 3 x1) fun v58=>
 b7 (j2 S 6 x6) fun v59=>
 o9 Tryz.prog E w0 x a2E [v58,v59] S fun v60 S61=>
 b7 (unD .not v60) fun v62=>
 j1 v62
 (Q (.int .i64 130) S61)
 (b7 (i6 .add x54 (.int .i64 1)) fun v63=>
 N1 x1 x52 x53 v63 S61))
def D3(E:j6)(w0:World)(x:Bool)(N1:D→D→D→D→b9→Prop)(Q:D→b9→Prop)(x1 x6 x52 x53 x54 x58:D)(S:b9):Prop:=j0 Tryz.prog E w0 x b5p (j9 87 [1,6,52,53,54,58] [x1,x6,x52,x53,x54,x58]) S (b4S E w0 x N1 Q)
theorem b2f{N1:D→D→D→D→b9→Prop}{Q:D→b9→Prop}{x1 x6 x52 x53 x54 x58:D}{S:b9}(h:a5R E w0 x N1 Q x1 x6 x52 x53 x54 x58 S):D3 E w0 x N1 Q x1 x6 x52 x53 x54 x58 S:=j3 A4 A3 m7 (by kernel_rfl) h
noncomputable def a2j:Code:=(j4 [1,1,1,1,0,1,0,0] (Tryz.f23.body.getD .skip))
def a2i(E:j6)(w0:World)(x:Bool)(Q:D→b9→Prop):o6→List D→b9→Prop:=
 (o8 3 (w6 Tryz.prog E w0 x A4 A3 (j4 [1,1,1,1,1] (Tryz.f23.body.getD .skip)) (z7 Tryz.prog Tryz.f23 Q)))
def a2k(E:j6)(w0:World)(x:Bool)(N1:D→D→D→D→b9→Prop)(Q:D→b9→Prop)(x1 x52 x53 x54:D)(S:b9):Prop:=
 b7 (i6 .lss x54 x53) fun v51=>
 j1 v51
 (b7 (p6 6 x52 x54) fun v52=>
 b7 (j2 S 6 v52) fun v53=>
 m8 S [(.str []), .nilSlc, .nilSlc,(.int .i64 0),(.int .i64 0), .nilSlc] fun v54 S55=>
 j7 S55 6 v54 v53 fun v56 S57=>
 b7 (i5 1 v54) fun v64=>
 b7 (b8 S57 v64) fun v65=>
 b7 (l9 v65) fun v66=>
 b7 (i6 .gtr v66 (.int .i64 32)) fun v67=>
 j1 v67
 (D3 E w0 x N1 Q x1 v54 x52 x53 x54 v67 S57)
 (b7 (i5 2 v54) fun v68=>
 b7 (b8 S57 v68) fun v69=>
 b7 (l9 v69) fun v70=>
 b7 (i6 .gtr v70 (.int .i64 8)) fun v71=>
 j1 v71
 (D3 E w0 x N1 Q x1 v54 x52 x53 x54 v71 S57)
 (b7 (i5 3 v54) fun v72=>
 b7 (b8 S57 v72) fun v73=>
 b7 (i6 .gtr v73 (.int .i64 256)) fun v74=>
 j1 v74
 (D3 E w0 x N1 Q x1 v54 x52 x53 x54 v74 S57)
 (b7 (i5 4 v54) fun v75=>
 b7 (b8 S57 v75) fun v76=>
 b7 (i6 .gtr v76 (.int .i64 4096)) fun v77=>
 j1 v77
 (D3 E w0 x N1 Q x1 v54 x52 x53 x54 v77 S57)
 (b7 (i5 5 v54) fun v78=>
 b7 (b8 S57 v78) fun v79=>
 b7 (l9 v79) fun v80=>
 b7 (i6 .gtr v80 (.int .i64 65536)) fun v81=>
 j1 v81
 (D3 E w0 x N1 Q x1 v54 x52 x53 x54 v81 S57)
 (b7 (i5 0 v54) fun v82=>
 b7 (b8 S57 v82) fun v83=>
 b7 (J3 v83) fun v84=>
 b7 (i6 .gtr v84 (.int .i64 65536)) fun v85=>
 D3 E w0 x N1 Q x1 v54 x52 x53 x54 v85 S57))))))
 (Q (.int .i64 0) S)
theorem b2W{N1:D→D→D→D→b9→Prop}{Q:D→b9→Prop}{x1 x52 x53 x54:D}{S:b9}(h:a2k E w0 x N1 Q x1 x52 x53 x54 S):
  j0 Tryz.prog E w0 x a2j (j9 87 [1,52,53,54] [x1,x52,x53,x54]) S (q8 (fun T S=>N1 (T.getD 1 d9) (T.getD 52 d9) (T.getD 53 d9) (T.getD 54 d9) S) (a2i E w0 x Q)):=j3 A4 A3 m7 (by kernel_rfl) h
theorem b3r(I:Nat→D→D→D→D→b9→Prop)
  (step:∀n x1 x52 x53 x54 S,I n x1 x52 x53 x54 S→a2k E w0 x (fun x1 x52 x53 x54 S=>∃m,m<n∧I m x1 x52 x53 x54 S) Q x1 x52 x53 x54 S)
  {n:Nat} {x1 x52 x53 x54:D} {S:b9} (h:I n x1 x52 x53 x54 S):j0 Tryz.prog E w0 x (.loop a2j) (j9 87 [1,52,53,54] [x1,x52,x53,x54]) S (a2i E w0 x Q):=
 o3 (k:=87) (n:=n) (I:=fun n T S=>I n (T.getD 1 d9) (T.getD 52 d9) (T.getD 53 d9) (T.getD 54 d9) S) (fun n T S hl hI=>o5 [1,52,53,54] hl (j0.mono (b2W (step n _ _ _ _ S hI)) fun ex T' S' _ hq=>by cases ex<;>exact hq)) (l8 ..) (Eq.mp (by kernel_rfl) h)
noncomputable def a2d:Code:=(j4 [1,1,0,1,0,0] (Tryz.f23.body.getD .skip))
def a2l(E:j6)(w0:World)(x:Bool)(Q:D→b9→Prop):o6→List D→b9→Prop:=
 (o8 0 (w6 Tryz.prog E w0 x A4 A3 (j4 [1,1,1] (Tryz.f23.body.getD .skip)) (z7 Tryz.prog Tryz.f23 Q)))
def a2e(E:j6)(w0:World)(x:Bool)(N0:D→D→D→D→b9→Prop)(Q:D→b9→Prop)(x1 x24 x25 x26:D)(S:b9):Prop:=
 b7 (i6 .lss x26 x25) fun v19=>
 j1 v19
 (b7 (p6 5 x24 x26) fun v20=>
 b7 (j2 S 5 v20) fun v21=>
 m8 S [(.int .u8 0),(.str []), .nilSlc,(.int .i64 0),(.int .i64 0)] fun v22 S23=>
 j7 S23 5 v22 v21 fun v24 S25=>
 b7 (i5 2 v22) fun v32=>
 b7 (b8 S25 v32) fun v33=>
 b7 (l9 v33) fun v34=>
 b7 (i6 .gtr v34 (.int .i64 32)) fun v35=>
 j1 v35
 (O2 E w0 x N0 Q x1 v22 x24 x25 x26 v35 S25)
 (b7 (i5 1 v22) fun v36=>
 b7 (b8 S25 v36) fun v37=>
 b7 (J3 v37) fun v38=>
 b7 (i6 .gtr v38 (.int .i64 65536)) fun v39=>
 j1 v39
 (O2 E w0 x N0 Q x1 v22 x24 x25 x26 v39 S25)
 (b7 (i5 2 v22) fun v40=>
 b7 (b8 S25 v40) fun v41=>
 o9 Tryz.prog E w0 x C4 [v41,(.fn (.func a2h) [] [])] S25 fun v42 S43=>
 O2 E w0 x N0 Q x1 v22 x24 x25 x26 v42 S43)))
 (b7 (i5 1 x1) fun v44=>
 b7 (b8 S v44) fun v45=>
 o9 Tryz.prog E w0 x P5 [v45,(.fn (.func a2g) [] [])] S fun v46 S47=>
 j1 v46
 (Q (.int .i64 3) S47)
 (b7 (i5 2 x1) fun v48=>
 b7 (b8 S47 v48) fun v49=>
 b7 (l9 v49) fun v50=>
 j0 Tryz.prog E w0 x (.loop a2j) (j9 87 [1,52,53,54] [x1,v49,v50,(.int .i64 0)]) S47 (a2i E w0 x Q)))
theorem b4f{N0:D→D→D→D→b9→Prop}{Q:D→b9→Prop}{x1 x24 x25 x26:D}{S:b9}(h:a2e E w0 x N0 Q x1 x24 x25 x26 S):
  j0 Tryz.prog E w0 x a2d (j9 87 [1,24,25,26] [x1,x24,x25,x26]) S (q8 (fun T S=>N0 (T.getD 1 d9) (T.getD 24 d9) (T.getD 25 d9) (T.getD 26 d9) S) (a2l E w0 x Q)):=j3 A4 A3 m7 (by kernel_rfl) h
theorem b3w(I:Nat→D→D→D→D→b9→Prop)
  (step:∀n x1 x24 x25 x26 S,I n x1 x24 x25 x26 S→a2e E w0 x (fun x1 x24 x25 x26 S=>∃m,m<n∧I m x1 x24 x25 x26 S) Q x1 x24 x25 x26 S)
  {n:Nat} {x1 x24 x25 x26:D} {S:b9} (h:I n x1 x24 x25 x26 S):j0 Tryz.prog E w0 x (.loop a2d) (j9 87 [1,24,25,26] [x1,x24,x25,x26]) S (a2l E w0 x Q):=
 o3 (k:=87) (n:=n) (I:=fun n T S=>I n (T.getD 1 d9) (T.getD 24 d9) (T.getD 25 d9) (T.getD 26 d9) S) (fun n T S hl hI=>o5 [1,24,25,26] hl (j0.mono (b4f (step n _ _ _ _ S hI)) fun ex T' S' _ hq=>by cases ex<;>exact hq)) (l8 ..) (Eq.mp (by kernel_rfl) h)
def b0A(E:j6)(w0:World)(x:Bool)(Q:D→b9→Prop)(a0:D)(S:b9):Prop:=
 b7 (q6 a0) fun cs=>m8 S cs fun v0 S1=>
 b7 (i5 0 v0) fun v2=>
 b7 (b8 S1 v2) fun v3=>
 b7 (l9 v3) fun v4=>
 b7 (i6 .gtr v4 (.int .i64 256)) fun v5=>
 b7 (i4 (i0 v5 false) (i5 1 v0)) fun v6=>
 b7 (i4 (i0 v5 false) (b8 S1 v6)) fun v7=>
 b7 (i4 (i0 v5 false) (l9 v7)) fun v8=>
 b7 (i4 (i0 v5 false) (i6 .gtr v8 (.int .i64 32768))) fun v9=>
 b7 (o7 v5 (.bool true) v9) fun v10=>
 b7 (i4 (i0 v10 false) (i5 2 v0)) fun v11=>
 b7 (i4 (i0 v10 false) (b8 S1 v11)) fun v12=>
 b7 (i4 (i0 v10 false) (l9 v12)) fun v13=>
 b7 (i4 (i0 v10 false) (i6 .gtr v13 (.int .i64 256))) fun v14=>
 b7 (o7 v10 (.bool true) v14) fun v15=>
 j1 v15
 (Q (.int .i64 3) S1)
 (b7 (i5 0 v0) fun v16=>
 b7 (b8 S1 v16) fun v17=>
 b7 (l9 v17) fun v18=>
 j0 Tryz.prog E w0 x (.loop a2d) (j9 87 [1,24,25,26] [v0,v17,v18,(.int .i64 0)]) S1 (a2l E w0 x Q))
theorem b6B{a0:D}{S:b9}(h:b0A E w0 x (i9 E Q) a0 S):o9 Tryz.prog E w0 x a4i [a0] S Q:=
 l7 A4 A3 (fn:=Tryz.f23) (c:=Tryz.f23.body.getD .skip) m7 Tryz.func23 (by kernel_rfl) (by kernel_rfl) h
def b5E:List (Nat×List Nat):=[]
def b6P:List (Nat×List Nat):=[]
def a7d(E:j6)(w0:World)(x:Bool)(Q:D→b9→Prop)(a0:D)(S:b9):Prop:=
 b7 (q6 a0) fun cs=>m8 S cs fun v0 S1=>
 b7 (i5 0 v0) fun v2=>
 b7 (b8 S1 v2) fun v3=>
 b7 (J3 v3) fun v4=>
 b7 (i6 .gtr v4 (.int .i64 65536)) fun v5=>
 Q v5 S1
theorem b2T{a0:D}{S:b9}(h:a7d E w0 x (i9 E Q) a0 S):o9 Tryz.prog E w0 x a2h [a0] S Q:=
 l7 b5E b6P (fn:=Tryz.f44) (c:=Tryz.f44.body.getD .skip) m7 Tryz.func44 (by kernel_rfl) (by kernel_rfl) h
def b6I:List (Nat×List Nat):=[]
def b6M:List (Nat×List Nat):=[]
def a6X(E:j6)(w0:World)(x:Bool)(Q:D→b9→Prop)(a0:D)(S:b9):Prop:=
 b7 (J3 a0) fun v0=>
 b7 (i6 .gtr v0 (.int .i64 65536)) fun v1=>
 Q v1 S
theorem b3i{a0:D}{S:b9}(h:a6X E w0 x (i9 E Q) a0 S):o9 Tryz.prog E w0 x a2g [a0] S Q:=
 l7 b6I b6M (fn:=Tryz.f47) (c:=Tryz.f47.body.getD .skip) m7 Tryz.func47 (by kernel_rfl) (by kernel_rfl) h
def a3P:List (Nat×List Nat):=[]
def a4F:List (Nat×List Nat):=[]
def Y7(E:j6)(w0:World)(x:Bool)(Q:D→b9→Prop)(a0 a1:D)(S:b9):Prop:=
 o9 Tryz.prog E w0 x P1 [a0,a1] S fun v0 S1=>
 b7 (i6 .geq v0 (.int .i64 0)) fun v2=>
 Q v2 S1
theorem a3h{a0 a1:D}{S:b9}(h:Y7 E w0 x (i9 E Q) a0 a1 S):o9 Tryz.prog E w0 x C4 [a0,a1] S Q:=
 l7 a3P a4F (fn:=Tryz.f43) (c:=Tryz.f43.body.getD .skip) m7 Tryz.func43 (by kernel_rfl) (by kernel_rfl) h
def a6n:List (Nat×List Nat):=[]
def a6m:List (Nat×List Nat):=[]
def a0C(E:j6)(w0:World)(x:Bool)(Q:D→b9→Prop)(a0 a1:D)(S:b9):Prop:=
 o9 Tryz.prog E w0 x V5 [a0,a1] S fun v0 S1=>
 b7 (i6 .geq v0 (.int .i64 0)) fun v2=>
 Q v2 S1
theorem a4H{a0 a1:D}{S:b9}(h:a0C E w0 x (i9 E Q) a0 a1 S):o9 Tryz.prog E w0 x P5 [a0,a1] S Q:=
 l7 a6n a6m (fn:=Tryz.f46) (c:=Tryz.f46.body.getD .skip) m7 Tryz.func46 (by kernel_rfl) (by kernel_rfl) h
def a9N:List (Nat×List Nat):=[]
def a9p:List (Nat×List Nat):=[]
def a2c(E:j6)(w0:World)(x:Bool)(Q:D→b9→Prop)(a0 a1:D)(S:b9):Prop:=
 o9 Tryz.prog E w0 x a0v [a0,a1] S fun v0 S1=>
 b7 (i6 .geq v0 (.int .i64 0)) fun v2=>
 Q v2 S1
theorem a6w{a0 a1:D}{S:b9}(h:a2c E w0 x (i9 E Q) a0 a1 S):o9 Tryz.prog E w0 x L4 [a0,a1] S Q:=
 l7 a9N a9p (fn:=Tryz.f82) (c:=Tryz.f82.body.getD .skip) m7 Tryz.func82 (by kernel_rfl) (by kernel_rfl) h
def a4B:List (Nat×List Nat):=[]
def a4d:List (Nat×List Nat):=[]
def Y6(E:j6)(w0:World)(x:Bool)(Q:D→b9→Prop)(a0 a1:D)(S:b9):Prop:=
 o9 Tryz.prog E w0 x P2 [a0,a1] S fun v0 S1=>
 b7 (i6 .geq v0 (.int .i64 0)) fun v2=>
 Q v2 S1
theorem a3i{a0 a1:D}{S:b9}(h:Y6 E w0 x (i9 E Q) a0 a1 S):o9 Tryz.prog E w0 x L3 [a0,a1] S Q:=
 l7 a4B a4d (fn:=Tryz.f84) (c:=Tryz.f84.body.getD .skip) m7 Tryz.func84 (by kernel_rfl) (by kernel_rfl) h
def O5:List (Nat×List Nat):=[(4,[0,1,7,8])]
def O3:List (Nat×List Nat):=[]
noncomputable def M2:Code:=(j4 [1,0,1,0,0] (Tryz.f77.body.getD .skip))
def L9(E:j6)(w0:World)(x:Bool)(Q:D→b9→Prop):o6→List D→b9→Prop:=
 (o8 0 (w6 Tryz.prog E w0 x O5 O3 (j4 [1,1] (Tryz.f77.body.getD .skip)) (z7 Tryz.prog Tryz.f77 Q)))
def M1(E:j6)(w0:World)(x:Bool)(N0:D→D→D→D→b9→Prop)(Q:D→b9→Prop)(x0 x1 x7 x8:D)(S:b9):Prop:=
 b7 (i6 .lss x8 x7) fun v1=>
 j1 v1
 (b7 (p6 2 x0 x8) fun v2=>
 b7 (j2 S 2 v2) fun v3=>
 a3b Tryz.prog (o9 Tryz.prog E w0 x) S x1 [v3] fun v4 S5=>
 j1 v4
 (Q x8 S5)
 (b7 (i6 .add x8 (.int .i64 1)) fun v6=>
 N0 x0 x1 x7 v6 S5))
 (Q (.int .i64 (-1)) S)
theorem a3F{N0:D→D→D→D→b9→Prop}{Q:D→b9→Prop}{x0 x1 x7 x8:D}{S:b9}(h:M1 E w0 x N0 Q x0 x1 x7 x8 S):
  j0 Tryz.prog E w0 x M2 (j9 19 [0,1,7,8] [x0,x1,x7,x8]) S (q8 (fun T S=>N0 (T.getD 0 d9) (T.getD 1 d9) (T.getD 7 d9) (T.getD 8 d9) S) (L9 E w0 x Q)):=j3 O5 O3 m7 (by kernel_rfl) h
theorem a3K(I:Nat→D→D→D→D→b9→Prop)
  (step:∀n x0 x1 x7 x8 S,I n x0 x1 x7 x8 S→M1 E w0 x (fun x0 x1 x7 x8 S=>∃m,m<n∧I m x0 x1 x7 x8 S) Q x0 x1 x7 x8 S)
  {n:Nat} {x0 x1 x7 x8:D} {S:b9} (h:I n x0 x1 x7 x8 S):j0 Tryz.prog E w0 x (.loop M2) (j9 19 [0,1,7,8] [x0,x1,x7,x8]) S (L9 E w0 x Q):=
 o3 (k:=19) (n:=n) (I:=fun n T S=>I n (T.getD 0 d9) (T.getD 1 d9) (T.getD 7 d9) (T.getD 8 d9) S) (fun n T S hl hI=>o5 [0,1,7,8] hl (j0.mono (a3F (step n _ _ _ _ S hI)) fun ex T' S' _ hq=>by cases ex<;>exact hq)) (l8 ..) (Eq.mp (by kernel_rfl) h)
def a0E(E:j6)(w0:World)(x:Bool)(Q:D→b9→Prop)(a0 a1:D)(S:b9):Prop:=
 b7 (l9 a0) fun v0=>
 j0 Tryz.prog E w0 x (.loop M2) (j9 19 [0,1,7,8] [a0,a1,v0,(.int .i64 0)]) S (L9 E w0 x Q)
theorem a4L{a0 a1:D}{S:b9}(h:a0E E w0 x (i9 E Q) a0 a1 S):o9 Tryz.prog E w0 x P1 [a0,a1] S Q:=
 l7 O5 O3 (fn:=Tryz.f77) (c:=Tryz.f77.body.getD .skip) m7 Tryz.func77 (by kernel_rfl) (by kernel_rfl) h
def U4:List (Nat×List Nat):=[(4,[0,1,7,8])]
def U6:List (Nat×List Nat):=[]
noncomputable def Q2:Code:=(j4 [1,0,1,0,0] (Tryz.f80.body.getD .skip))
def R4(E:j6)(w0:World)(x:Bool)(Q:D→b9→Prop):o6→List D→b9→Prop:=
 (o8 0 (w6 Tryz.prog E w0 x U4 U6 (j4 [1,1] (Tryz.f80.body.getD .skip)) (z7 Tryz.prog Tryz.f80 Q)))
def Q9(E:j6)(w0:World)(x:Bool)(N0:D→D→D→D→b9→Prop)(Q:D→b9→Prop)(x0 x1 x7 x8:D)(S:b9):Prop:=
 b7 (i6 .lss x8 x7) fun v1=>
 j1 v1
 (b7 (p6 1 x0 x8) fun v2=>
 b7 (b8 S v2) fun v3=>
 a3b Tryz.prog (o9 Tryz.prog E w0 x) S x1 [v3] fun v4 S5=>
 j1 v4
 (Q x8 S5)
 (b7 (i6 .add x8 (.int .i64 1)) fun v6=>
 N0 x0 x1 x7 v6 S5))
 (Q (.int .i64 (-1)) S)
theorem a4X{N0:D→D→D→D→b9→Prop}{Q:D→b9→Prop}{x0 x1 x7 x8:D}{S:b9}(h:Q9 E w0 x N0 Q x0 x1 x7 x8 S):
  j0 Tryz.prog E w0 x Q2 (j9 19 [0,1,7,8] [x0,x1,x7,x8]) S (q8 (fun T S=>N0 (T.getD 0 d9) (T.getD 1 d9) (T.getD 7 d9) (T.getD 8 d9) S) (R4 E w0 x Q)):=j3 U4 U6 m7 (by kernel_rfl) h
theorem a5u(I:Nat→D→D→D→D→b9→Prop)
  (step:∀n x0 x1 x7 x8 S,I n x0 x1 x7 x8 S→Q9 E w0 x (fun x0 x1 x7 x8 S=>∃m,m<n∧I m x0 x1 x7 x8 S) Q x0 x1 x7 x8 S)
  {n:Nat} {x0 x1 x7 x8:D} {S:b9} (h:I n x0 x1 x7 x8 S):j0 Tryz.prog E w0 x (.loop Q2) (j9 19 [0,1,7,8] [x0,x1,x7,x8]) S (R4 E w0 x Q):=
 o3 (k:=19) (n:=n) (I:=fun n T S=>I n (T.getD 0 d9) (T.getD 1 d9) (T.getD 7 d9) (T.getD 8 d9) S) (fun n T S hl hI=>o5 [0,1,7,8] hl (j0.mono (a4X (step n _ _ _ _ S hI)) fun ex T' S' _ hq=>by cases ex<;>exact hq)) (l8 ..) (Eq.mp (by kernel_rfl) h)
def a2b(E:j6)(w0:World)(x:Bool)(Q:D→b9→Prop)(a0 a1:D)(S:b9):Prop:=
 b7 (l9 a0) fun v0=>
 j0 Tryz.prog E w0 x (.loop Q2) (j9 19 [0,1,7,8] [a0,a1,v0,(.int .i64 0)]) S (R4 E w0 x Q)
theorem a6B{a0 a1:D}{S:b9}(h:a2b E w0 x (i9 E Q) a0 a1 S):o9 Tryz.prog E w0 x V5 [a0,a1] S Q:=
 l7 U4 U6 (fn:=Tryz.f80) (c:=Tryz.f80.body.getD .skip) m7 Tryz.func80 (by kernel_rfl) (by kernel_rfl) h
def Z4:List (Nat×List Nat):=[(4,[0,1,7,8])]
def Z9:List (Nat×List Nat):=[]
noncomputable def X6:Code:=(j4 [1,0,1,0,0] (Tryz.f96.body.getD .skip))
def X2(E:j6)(w0:World)(x:Bool)(Q:D→b9→Prop):o6→List D→b9→Prop:=
 (o8 0 (w6 Tryz.prog E w0 x Z4 Z9 (j4 [1,1] (Tryz.f96.body.getD .skip)) (z7 Tryz.prog Tryz.f96 Q)))
def X3(E:j6)(w0:World)(x:Bool)(N0:D→D→D→D→b9→Prop)(Q:D→b9→Prop)(x0 x1 x7 x8:D)(S:b9):Prop:=
 b7 (i6 .lss x8 x7) fun v1=>
 j1 v1
 (b7 (p6 1 x0 x8) fun v2=>
 b7 (b8 S v2) fun v3=>
 a3b Tryz.prog (o9 Tryz.prog E w0 x) S x1 [v3] fun v4 S5=>
 j1 v4
 (Q x8 S5)
 (b7 (i6 .add x8 (.int .i64 1)) fun v6=>
 N0 x0 x1 x7 v6 S5))
 (Q (.int .i64 (-1)) S)
theorem a7k{N0:D→D→D→D→b9→Prop}{Q:D→b9→Prop}{x0 x1 x7 x8:D}{S:b9}(h:X3 E w0 x N0 Q x0 x1 x7 x8 S):
  j0 Tryz.prog E w0 x X6 (j9 19 [0,1,7,8] [x0,x1,x7,x8]) S (q8 (fun T S=>N0 (T.getD 0 d9) (T.getD 1 d9) (T.getD 7 d9) (T.getD 8 d9) S) (X2 E w0 x Q)):=j3 Z4 Z9 m7 (by kernel_rfl) h
theorem a7m(I:Nat→D→D→D→D→b9→Prop)
  (step:∀n x0 x1 x7 x8 S,I n x0 x1 x7 x8 S→X3 E w0 x (fun x0 x1 x7 x8 S=>∃m,m<n∧I m x0 x1 x7 x8 S) Q x0 x1 x7 x8 S)
  {n:Nat} {x0 x1 x7 x8:D} {S:b9} (h:I n x0 x1 x7 x8 S):j0 Tryz.prog E w0 x (.loop X6) (j9 19 [0,1,7,8] [x0,x1,x7,x8]) S (X2 E w0 x Q):=
 o3 (k:=19) (n:=n) (I:=fun n T S=>I n (T.getD 0 d9) (T.getD 1 d9) (T.getD 7 d9) (T.getD 8 d9) S) (fun n T S hl hI=>o5 [0,1,7,8] hl (j0.mono (a7k (step n _ _ _ _ S hI)) fun ex T' S' _ hq=>by cases ex<;>exact hq)) (l8 ..) (Eq.mp (by kernel_rfl) h)
def a4C(E:j6)(w0:World)(x:Bool)(Q:D→b9→Prop)(a0 a1:D)(S:b9):Prop:=
 b7 (l9 a0) fun v0=>
 j0 Tryz.prog E w0 x (.loop X6) (j9 19 [0,1,7,8] [a0,a1,v0,(.int .i64 0)]) S (X2 E w0 x Q)
theorem b0c{a0 a1:D}{S:b9}(h:a4C E w0 x (i9 E Q) a0 a1 S):o9 Tryz.prog E w0 x a0v [a0,a1] S Q:=
 l7 Z4 Z9 (fn:=Tryz.f96) (c:=Tryz.f96.body.getD .skip) m7 Tryz.func96 (by kernel_rfl) (by kernel_rfl) h
def O6:List (Nat×List Nat):=[(4,[0,1,7,8])]
def O4:List (Nat×List Nat):=[]
noncomputable def M0:Code:=(j4 [1,0,1,0,0] (Tryz.f98.body.getD .skip))
def M3(E:j6)(w0:World)(x:Bool)(Q:D→b9→Prop):o6→List D→b9→Prop:=
 (o8 0 (w6 Tryz.prog E w0 x O6 O4 (j4 [1,1] (Tryz.f98.body.getD .skip)) (z7 Tryz.prog Tryz.f98 Q)))
def M4(E:j6)(w0:World)(x:Bool)(N0:D→D→D→D→b9→Prop)(Q:D→b9→Prop)(x0 x1 x7 x8:D)(S:b9):Prop:=
 b7 (i6 .lss x8 x7) fun v1=>
 j1 v1
 (b7 (p6 4 x0 x8) fun v2=>
 b7 (j2 S 4 v2) fun v3=>
 a3b Tryz.prog (o9 Tryz.prog E w0 x) S x1 [v3] fun v4 S5=>
 j1 v4
 (Q x8 S5)
 (b7 (i6 .add x8 (.int .i64 1)) fun v6=>
 N0 x0 x1 x7 v6 S5))
 (Q (.int .i64 (-1)) S)
theorem a3M{N0:D→D→D→D→b9→Prop}{Q:D→b9→Prop}{x0 x1 x7 x8:D}{S:b9}(h:M4 E w0 x N0 Q x0 x1 x7 x8 S):
  j0 Tryz.prog E w0 x M0 (j9 19 [0,1,7,8] [x0,x1,x7,x8]) S (q8 (fun T S=>N0 (T.getD 0 d9) (T.getD 1 d9) (T.getD 7 d9) (T.getD 8 d9) S) (M3 E w0 x Q)):=j3 O6 O4 m7 (by kernel_rfl) h
theorem a3N(I:Nat→D→D→D→D→b9→Prop)
  (step:∀n x0 x1 x7 x8 S,I n x0 x1 x7 x8 S→M4 E w0 x (fun x0 x1 x7 x8 S=>∃m,m<n∧I m x0 x1 x7 x8 S) Q x0 x1 x7 x8 S)
  {n:Nat} {x0 x1 x7 x8:D} {S:b9} (h:I n x0 x1 x7 x8 S):j0 Tryz.prog E w0 x (.loop M0) (j9 19 [0,1,7,8] [x0,x1,x7,x8]) S (M3 E w0 x Q):=
 o3 (k:=19) (n:=n) (I:=fun n T S=>I n (T.getD 0 d9) (T.getD 1 d9) (T.getD 7 d9) (T.getD 8 d9) S) (fun n T S hl hI=>o5 [0,1,7,8] hl (j0.mono (a3M (step n _ _ _ _ S hI)) fun ex T' S' _ hq=>by cases ex<;>exact hq)) (l8 ..) (Eq.mp (by kernel_rfl) h)
def a0G(E:j6)(w0:World)(x:Bool)(Q:D→b9→Prop)(a0 a1:D)(S:b9):Prop:=
 b7 (l9 a0) fun v0=>
 j0 Tryz.prog E w0 x (.loop M0) (j9 19 [0,1,7,8] [a0,a1,v0,(.int .i64 0)]) S (M3 E w0 x Q)
theorem a4K{a0 a1:D}{S:b9}(h:a0G E w0 x (i9 E Q) a0 a1 S):o9 Tryz.prog E w0 x P2 [a0,a1] S Q:=
 l7 O6 O4 (fn:=Tryz.f98) (c:=Tryz.f98.body.getD .skip) m7 Tryz.func98 (by kernel_rfl) (by kernel_rfl) h
end Go.Proofs.YtchnpgddpaonhaaGreat.d
end
