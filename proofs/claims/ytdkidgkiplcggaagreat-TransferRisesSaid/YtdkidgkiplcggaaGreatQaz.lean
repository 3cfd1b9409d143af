/-
  TransferRisesSaid: part Qaz of its proof.
-/
import Derived.Test.YtdkidgkiplcggaaGreatQax
import Derived.Test.YtdkidgkiplcggaaGreatRows
import Derived.Test.YtdkidgkiplcggaaGreatQar
import Derived.KernelRfl
import Derived.Test.YtdkidgkiplcggaaGreatQay
set_option linter.unusedVariables false
set_option linter.unusedSimpArgs false
set_option maxRecDepth 100000
section
open Go.Proofs Go Go.Am Go.Op
namespace Go.Proofs.YtdkidgkiplcggaaGreat.d
section
def c5W(m:Mo)(n:Int):Option Ty:=if 16≤n then m.types[(n - 16).toNat]? else none
def d1a:Ty:=⟨0,[],[],0,0⟩
def o4(m:Mo)(n:Int)(ks:List Int):Ty×Bool:=match c5W m n with
 |some t=>(t,ks.contains t.kind)
 |none=>(d1a,false)
def a4a(m:Mo)(n:Int)(ks:List Int):D:= .tup [.agg (W6 (o4 m n ks).1), .bool (o4 m n ks).2]
theorem d1s(b:Bool):Wk (.tup [.agg [.int .u8 0, .str [], .nilSlc, .int .i64 0, .int .i64 0], .bool b]) (.tup [.agg (W6 d1a), .bool b]):=
 Wk.tup ⟨Wk.agg ⟨Wk.refl _,Wk.refl _,Wk.nil _,Wk.refl _,Wk.refl _,trivial⟩,Wk.refl _,trivial⟩
def Own(S0:b8)(d:D)(l:List Int)(S:b8):Prop:=
 (d= .nilSlc∧l=[]∧S=S0)∨∃k acs ex,S0 k=Option.none∧d= .raw k 0 l.length l.length ex 1∧S=S0.set k ⟨1,iC l,acs⟩
theorem Own.le{S0 S:b8}{d:D}{l:List Int}(h:Own S0 d l S):S0.le S:=by
 rcases h with ⟨_,_,rfl⟩|⟨k,acs,ex,h,_,rfl⟩
 ·exact b8.le_refl _
 ·exact b8.le_new h
theorem Own.nil(S:b8):Own S .nilSlc [] S:= .inl ⟨rfl,rfl,rfl⟩
theorem Own.cells{S0 S:b8}{d:D}{l:List Int}(h:Own S0 d l S):o3 d=some [d]:=by rcases h with ⟨rfl,_⟩|⟨_,_,_,_,rfl,_⟩<;>rfl
theorem Own.of_grw{S0 S:b8}{t:D}{l:List Int}(h:Grw S0 t (iC l) 1 S):Own S0 t l S:=by
 rcases h with ⟨rfl,e,rfl⟩|⟨k,acs,h,rfl,rfl⟩
 ·refine .inl ⟨rfl, ?_,rfl⟩
  cases l with
  |nil=>rfl
  |cons a l=>simp[iC,B4]at e
 ·exact .inr ⟨k,acs,false,h,by simp,rfl⟩
theorem Own.base{S0 S1 S:b8}{d:D}{l:List Int}(h:Own S1 d l S)(hle:S0.le S1):∃S',S'.le S∧Own S0 d l S':=by
 rcases h with ⟨rfl,rfl,rfl⟩|⟨k,acs,ex,h,rfl,rfl⟩
 ·exact⟨S0,hle, .inl ⟨rfl,rfl,rfl⟩⟩
 ·have hk:S0 k=Option.none:=by
   cases e:S0 k with
   |none=>rfl
   |some o=>rw[hle _ _ e]at h;cases h
  refine⟨S0.set k ⟨1,iC l,acs⟩,fun j o e=> ?_, .inr ⟨k,acs,ex,hk,rfl,rfl⟩⟩
  unfold b8.set at e ⊢
  split at e
  ·rename_i hj;rw[if_pos hj];exact e
  ·rename_i hj;rw[if_neg hj];exact hle _ _ e
theorem Own.upd{S0 S:b8}{d:D}{l:List Int}{k:Nat}{o o':D5}(h:Own S0 d l S)(hk:S0 k=some o'):Own (S0.set k o) d l (S.set k o):=by
 rcases h with ⟨rfl,rfl,rfl⟩|⟨j,acs,ex,h,rfl,rfl⟩
 ·exact .inl ⟨rfl,rfl,rfl⟩
 ·have hne:j≠k:=fun e=>by rw[e,hk]at h;cases h
  refine .inr ⟨j,acs,ex, ?_,rfl,b8.set_comm _ hne _ _⟩
  rw[b8.set_ne _ _ _ hne];exact h
def Two(S0:b8)(c:D)(lc:List Int)(d:D)(ld:List Int)(S:b8):Prop:=∃S1,Own S0 c lc S1∧Own S1 d ld S
theorem Two.base{S0 S1 S:b8}{c d:D}{lc ld:List Int}(h:Two S1 c lc d ld S)(hle:S0.le S1):∃S',S'.le S∧Two S0 c lc d ld S':=by
 obtain⟨S2,h1,h2⟩:=h
 obtain⟨S2',l2,g1⟩:=h1.base hle
 obtain⟨S',l3,g2⟩:=h2.base l2
 exact⟨S',l3,S2',g1,g2⟩
theorem Two.upd{S0 S:b8}{c d:D}{lc ld:List Int}{k:Nat}{o o':D5}(h:Two S0 c lc d ld S)(hk:S0 k=some o'):Two (S0.set k o) c lc d ld (S.set k o):=by
 obtain⟨S2,h1,h2⟩:=h
 exact⟨S2.set k o,h1.upd hk,h2.upd (h1.le _ _ hk)⟩
theorem Two.le{S0 S:b8}{c d:D}{lc ld:List Int}(h:Two S0 c lc d ld S):S0.le S:=by
 obtain⟨S2,h1,h2⟩:=h
 exact b8.le_trans h1.le h2.le
theorem B8{S:b8}{l:List Int}{K:D→b8→Prop}(h:∀d S',Own S d l S'→K d S'):r9 S 1 (some (iC l)) l.length K:=
 c5X fun k acs hk=>h _ _ (.inr ⟨k,acs,true,hk,by simp,rfl⟩)
def efD(c d:D)(ok:Bool):D:= .agg [c,d, .bool ok]
section
variable{E:j2}{w0:j9}
theorem C5{d:D}(hd:o3 d=some [d]):K9 Tryz.prog E w0 p6 [d] (efD d .nilSlc true):=fun S=>by
 refine c8u ?_
 unfold c9p
 intro k a n
 have h:E1 (r6 [.nilSlc, .nilSlc,(.bool false)] [(0,1,d),(2,1,(.bool true))])=some (efD d .nilSlc true):=by
  simp[r6,hd,efD,l7,E1]
 rw[h,oD]
 refine stP (ds:=[d, .nilSlc, .bool true]) (b8.set_same _ _ _) (U9 _) ⟨rfl,by decide,by simp⟩ fun a2=> ?_
 rw[b8.set_set,laP (b8.set_same _ _ _) (by simp[l7]),oD]
 exact d9.less (b8.le_new n) d9.pure
theorem A0{a b c d:D}(hd:o3 d=some [d]):K9 Tryz.prog E w0 i9 [.agg [a,b,c],d] (.agg [a,d,c]):=fun S=>by
 refine b1z ?_
 unfold a7h
 rw[U9,oD]
 intro k a1 n
 intro k2 a2 n2
 obtain⟨ne,n2'⟩:=b8.fresh n2
 rw[E2,oD]
 refine stP (ds:=[d]) (by rw[b8.set_ne _ _ _ (Ne.symm ne)];exact b8.set_same _ _ _) hd ⟨rfl,by decide,by simp⟩ fun a3=> ?_
 rw[laP (b8.set_same _ _ _) (by simp[l7]),oD]
 refine stP (ds:=[a,d,c]) (by rw[b8.set_ne _ _ _ ne];exact b8.set_same _ _ _) (U9 _) ⟨rfl,by decide,by simp⟩ fun a4=> ?_
 rw[laP (b8.set_same _ _ _) (by simp[l7]),oD]
 refine d9.less (b8.le_set (b8.le_set (b8.le_set (b8.le_new n) n2') n) n2') ?_
 exact d9.pure
theorem F7{a b c d:D}(hd:o3 d=some [d]):K9 Tryz.prog E w0 o5 [.agg [a,b,c],d] (.agg [a,b,d]):=fun S=>by
 refine b1n ?_
 unfold a6W
 rw[U9,oD]
 intro k a1 n
 intro k2 a2 n2
 obtain⟨ne,n2'⟩:=b8.fresh n2
 rw[E2,oD]
 refine stP (ds:=[d]) (by rw[b8.set_ne _ _ _ (Ne.symm ne)];exact b8.set_same _ _ _) hd ⟨rfl,by decide,by simp⟩ fun a3=> ?_
 rw[laP (b8.set_same _ _ _) (by simp[l7]),oD]
 refine stP (ds:=[a,b,d]) (by rw[b8.set_ne _ _ _ ne];exact b8.set_same _ _ _) (U9 _) ⟨rfl,by decide,by simp⟩ fun a4=> ?_
 rw[laP (b8.set_same _ _ _) (by simp[l7]),oD]
 refine d9.less (b8.le_set (b8.le_set (b8.le_set (b8.le_new n) n2') n) n2') ?_
 exact d9.pure
theorem c1L{l:List Int}{v:Int}(hl:l.length<2^60):K9 Tryz.prog E w0 X4 [bD l, .int .u8 v] (.bool (l.contains v)):=fun S=>by
 refine a6V ?_
 unfold a2K
 have key:j8 Tryz.prog E w0 a1C [bD l, .int .u8 v] S fun d S'=>S'=S∧∃n:Int,d= .int .i64 n∧decide (n≥0)=l.contains v:=by
  refine a9f ?_
  unfold a4F
  rw[a2C,oD]
  refine a7v (I:=fun n x0 x1 x7 x8 S'=>S=S'∧x0=bD l∧x1= .int .u8 v∧x7= .int .i64 (l.length:Int)∧∃i:Nat,x8= .int .i64 (i:Int)∧i+n=l.length∧v ∉ l.take i) ?_ (n:=l.length) ⟨rfl,rfl,rfl,rfl,0,rfl,by omega,by simp⟩
  rintro n _ _ _ _ _ ⟨rfl,rfl,rfl,rfl,i,rfl,hi,hn⟩
  unfold a0u
  rw[H7,oD,I6]
  refine⟨fun hlt=> ?_,fun hge=> ?_⟩
  ·have hlt:i<l.length:=by omega
   have ea:l[i]? =some l[i]:=List.getElem?_eq_getElem hlt
   rw[d1J ea,oD,lsE,List.getElem?_cons_zero,oD,a8b,oD,d0L,I6]
   refine⟨fun e=>d9.here ⟨rfl,i,rfl, ?_⟩,fun e=> ?_⟩
   ·rw[decide_eq_true (by omega)]
    symm
    rw[List.contains_iff_mem,e]
    exact List.getElem_mem _
   ·rw[D7,oD,l8 (by omega) (by omega)]
    refine⟨n - 1,by omega,rfl,rfl,rfl,rfl,i+1,rfl,by omega, ?_⟩
    rw[List.take_add_one,ea,Option.toList_some,List.mem_append,List.mem_singleton]
    exact fun h=>h.elim hn e
  ·rw[List.take_of_length_le (by omega)]at hn
   refine d9.here ⟨rfl, -1,rfl, ?_⟩
   rw[decide_eq_false (by omega)]
   symm
   rw[←Bool.not_eq_true,List.contains_iff_mem]
   exact hn
 refine key.use ?_
 rintro d S' ⟨rfl,n,rfl,h⟩
 rw[a8S,oD,h]
 exact d9.pure
theorem c5D{m:Mo}{n:Int}{t:Ty}(h:c5W m n=some t):16≤n∧m.types[(n - 16).toNat]? =some t∧(n - 16).toNat<m.types.length:=by
 unfold c5W at h
 split at h
 ·rename_i h16
  exact⟨h16,h,(List.getElem?_eq_some_iff.1 h).1⟩
 ·cases h
theorem a1J{m:Mo}(hm:m.Ok){n:Int}(hn:I64 n){ks:List Int}(hk:ks.length<2^60):K9 Tryz.prog E w0 Z2 [moD m, .int .i64 n,bD ks] (a4a m n ks):=fun S=>by
 obtain⟨hn1,hn2⟩:=hn
 refine c1W ?_
 unfold b9y
 rw[moD,U9,oD]
 intro k a n1
 intro k2 a2 n2
 obtain⟨ne2,n2'⟩:=b8.fresh n2
 generalize hS3:(S.set k _).set k2 _=S3
 have h2:S3 k2=some ⟨5,[[.int .u8 0, .str [], .nilSlc, .int .i64 0, .int .i64 0]],a2⟩:=by rw[←hS3];exact b8.set_same _ _ _
 have h0:S3 k=some ⟨3,[M3 m],a⟩:=by rw[←hS3,b8.set_ne _ _ _ (Ne.symm ne2)];exact b8.set_same _ _ _
 have hle:S.le S3:=by rw[←hS3];exact b8.le_set (b8.le_new n1) n2'
 obtain⟨xa0,xa1,xa2⟩:=d3y m
 have:=hm.types
 have bad:c5W m n=none→d9 E (fun d' S'=>d'=a4a m n ks∧S'=S) (.tup [.agg [.int .u8 0, .str [], .nilSlc, .int .i64 0, .int .i64 0], .bool false]) S3:=fun h=>by
  refine d9.less hle (d9.weak (d1s false) (d9.here ⟨?_,rfl⟩))
  simp only[a4a,o4,h]
 have bad':c5W m n=none→b7 (E1 (r6 [(.int .u8 0),(.str []), .nilSlc,(.int .i64 0),(.int .i64 0)] [])) fun v12=>i7 S3 5 (.ptr k2 0) v12 fun v13 S14=>b7 (i5 S14 5 (.ptr k2 0)) fun v15=>d9 E (fun d' S'=>d'=a4a m n ks∧S'=S) (.tup [v15,(.bool false)]) S14:=fun h=>by
  rw[fiN,agS,oD]
  refine stP (ds:=[.int .u8 0, .str [], .nilSlc, .int .i64 0, .int .i64 0]) h2 (U9 _) ⟨rfl,by decide,by simp⟩ fun a5=> ?_
  rw[laP (b8.set_same _ _ _) (by simp[l7]),oD]
  refine d9.less (S':=S) ?_ (d9.weak (d1s false) (d9.here ⟨?_,rfl⟩))
  ·exact b8.le_set hle n2'
  ·simp only[a4a,o4,h]
 rw[H7,oD]
 by_cases c1:n<16
 ·rw[decide_eq_true c1]
  simp only[M4,t1,vdF,oD,M8,if_true,cdT]
  exact bad' (by unfold c5W;rw[if_neg (by omega)])
 rw[decide_eq_false c1]
 simp only[M4,t2,vdT,oD,b4u,E2,Nat.zero_add,ldP h0,xa0,a6k,a8S,M8,Bool.false_eq_true,if_false]
 rw[l8 (by omega) (by omega),I6]
 refine⟨fun h=>bad' ?_,fun h=> ?_⟩
 ·unfold c5W
  rw[if_pos (by omega),List.getElem?_eq_none (by omega)]
 obtain⟨i,hi⟩:∃i:Nat,i=(n - 16).toNat:=⟨_,rfl⟩
 have hi':n - 16=(i:Int):=by omega
 have hlt:i<m.types.length:=by omega
 obtain⟨t,ht⟩:∃t,t=m.types[i]:=⟨_,rfl⟩
 have ea:m.types[i]? =some t:=by rw[List.getElem?_eq_getElem hlt,ht]
 have e:c5W m n=some t:=by unfold c5W;rw[if_pos (by omega), ←hi];exact ea
 rw[hi',b6r ea,oD,d7c,oD]
 intro k5 a5 n5
 refine stP (ds:=W6 t) (b8.set_same _ _ _) (U9 _) ⟨rfl,by decide,by simp[W6]⟩ fun a6=> ?_
 rw[b8.set_set,show l7 [D.int .u8 0, .str [], .nilSlc, .int .i64 0, .int .i64 0] 0 (W6 t)=W6 t from rfl]
 have ne5:k2≠k5:=fun e=>by rw[←e,h2]at n5;cases n5
 rw[laP (b8.set_same _ _ _) (by simp[W6]),oD]
 rw[E2,oD,ldP (b8.set_same _ _ _),show(W6 t)[0+0]? =some (.int .u8 t.kind) from rfl,oD]
 refine(c1L hk).use ⟨fwR _ _, ?_⟩
 refine stP (ds:=W6 t) (by rw[b8.set_ne _ _ _ ne5];exact h2) (U9 _) ⟨rfl,by decide,by simp[W6]⟩ fun a7=> ?_
 rw[laP (b8.set_same _ _ _) (by simp[l7,W6]),oD]
 have e2:a4a m n ks= .tup [.agg (W6 t), .bool (ks.contains t.kind)]:=by simp only[a4a,o4,e]
 refine d9.less (S':=S) (b8.le_set ?_ n2') ?_
 ·have z5:S k5=none:=by
   cases e:S k5 with
   |none=>rfl
   |some o=>rw[hle _ _ e]at n5;cases n5
  exact b8.le_set hle z5
 ·rw[e2]
  exact d9.pure
end
end
section
def U1(y:In)(m:Mo):List Int×List Int×Bool:=
 if y.op=36∨y.op=37∨y.op=38 then
  let t:=o4 m y.a [6]
  if y.op=36 then(t.1.fields.map (·.2),[y.a],t.2)
  else match (if t.2 then t.1.fields[y.b.toNat]? else none) with
   |some f=>if y.op=37 then([y.a],[f.2],true) else([y.a,f.2],[],true)
   |none=>([],[],false)
 else if y.op=39 then([(o4 m y.a [7]).1.elem],[y.a],(o4 m y.a [7]).2)
 else if y.op=40 then([],[y.a],(o4 m y.a [8]).2)
 else if y.op=44 then([y.a,(o4 m y.a [8]).1.elem],[],(o4 m y.a [8]).2)
 else if y.op=45 then([y.a],[(o4 m y.a [8]).1.elem],(o4 m y.a [8]).2)
 else if y.op=41 then([y.a,3],[(o4 m y.a [7,8]).1.elem],(o4 m y.a [7,8]).2)
 else if y.op=42 then([y.a,3,(o4 m y.a [7,8]).1.elem],[],(o4 m y.a [7,8]).2)
 else([y.a],[3],(o4 m y.a [7,8]).2)
theorem c5k{S:b8}{t:Ty}{K:D→b8→Prop}(h:∀k a,S k=none→K (.ptr k 0) (S.set k ⟨5,[W6 t],a⟩)):j6 S [(.int .u8 0),(.str []), .nilSlc,(.int .i64 0),(.int .i64 0)] fun v S1=>i7 S1 5 v (.agg (W6 t)) fun _ S2=>K v S2:=by
 intro k a n
 refine stP (ds:=W6 t) (b8.set_same _ _ _) (U9 _) ⟨rfl,by decide,by simp[W6]⟩ fun a2=> ?_
 rw[b8.set_set]
 exact h k a2 n
theorem li1{S:b8}{a:Int}{K:D→b8→Prop}(h:K (iD [a]) S):r9 S 1 (m8 1 (List.replicate 1 [(.int .i64 0)]) [(0, .int .i64 a)]) 1 K:=G6 (rows:=iC [a]) rfl h
theorem d1d(y:In):(P8 y)[0]? =some (.int .u8 y.op)∧(P8 y)[1]? =some (.int .i64 y.a)∧(P8 y)[2]? =some (.int .i64 y.b)∧(P8 y)[3]? =some (b5q y.arms):=⟨rfl,rfl,rfl,rfl⟩
section
variable{E:j2}{w0:j9}
end
end
section
def r0(y:In):List Int×List Int:=
 if 1≤y.op∧y.op≤3 then([],[y.op]) else
 if y.op=4∨y.op=5 then([],[4]) else
 if y.op=6 then([],[5]) else
 if y.op=7 then([],[0]) else
 if y.op=8∨y.op=9 then([0],[]) else
 if y.op=10 then([0],[0,0]) else
 if 11≤y.op∧y.op≤20 then([y.a,y.a],[y.a]) else
 if y.op=21∨y.op=22 then([y.a],[y.a]) else
 if 23≤y.op∧y.op≤28 then([y.a,y.a],[4]) else
 if y.op=29 then([y.a],[y.b]) else
 if y.op=30 then([4],[4]) else
 if y.op=31 then([5,5],[5]) else
 if y.op=32 then([5],[3]) else
 if y.op=33 then([5,3],[2]) else
 if y.op=34 then([5,3,3],[5]) else
 if y.op=35 then([2],[5]) else
 if y.op=47∨y.op=48 then([4],[]) else
 if y.op=49 then([y.a],[]) else
 ([],[])
section
variable{S:b8}{k:Nat}{op:Int}{K:D→Prop}
theorem tEq{p:Int}(h:K (.bool (decide (op=p)))):b7 (i4 .eql (.int .u8 op) (.int .u8 p)) K:=by rw[a8b,oD,d0L];exact h
theorem tIn(hl:c9 S (.ptr k 0)=some (.int .u8 op)){p q:Int}(h:K (.bool (decide (p≤op∧op≤q)))):b7 (i4 .geq (.int .u8 op) (.int .u8 p)) fun v18=>b7 (f9 (d6 v18 true) (some (.ptr k 0))) fun v19=>b7 (f9 (d6 v18 true) (c9 S v19)) fun v20=>b7 (f9 (d6 v18 true) (i4 .leq v20 (.int .u8 q))) fun v21=>b7 (q9 v18 v21 (.bool false)) K:=by
 by_cases c:p≤op
 ·have e:decide (p≤op∧op≤q)=decide (op≤q):=by simp[c]
  rw[e]at h
  simp only[a8S,d4A,oD,decide_eq_true (show op≥p from c),M4,show(true==true)=true from rfl,vdT,M8,if_true,hl]
  exact h
 ·rw[decide_eq_false (fun e=>c e.1)]at h
  simp only[a8S,oD,decide_eq_false (show ¬op≥p from c),M4,show(false==true)=false from rfl,vdF,M8,Bool.false_eq_true,if_false]
  exact h
end
section
variable{E:j2}{w0:j9}
end
end
section
def t6(y:In)(m:Mo):List Int×List Int×Int:=
 if isS y=false then([],[],120)
 else if(y.op=6∧m.texts.length≤y.a)∨(y.op=50∧m.funcs.length≤y.a) then([],[],2)
 else if y.op=50 then match m.funcs[y.a.toNat]? with
  |some r=>(r.params,r.results,0)
  |none=>([],[],2)
 else if 36≤y.op∧y.op≤45 then if(U1 y m).2.2=true then((U1 y m).1,(U1 y m).2.1,0) else([],[],2)
 else((r0 y).1,(r0 y).2,0)
theorem d8k{y:In}(h:isS y=true)(h50:y.op=50):0≤y.a∧y.a≤65535:=by
 have e:lay 50=some [fIx]:=by decide
 unfold isS at h
 rw[h50,e]at h
 simp[a2o,Fld.may,fIx,In.num]at h
 omega
theorem d8D{y:In}(h:isS y=true)(hb:y.op=37∨y.op=38):0≤y.b:=by
 have e1:lay 37=some [fIx,fIx]:=by decide
 have e2:lay 38=some [fIx,fIx]:=by decide
 unfold isS at h
 rcases hb with hb|hb
 ·rw[hb,e1]at h
  simp[a2o,Fld.may,fIx,In.num]at h
  omega
 ·rw[hb,e2]at h
  simp[a2o,Fld.may,fIx,In.num]at h
  omega
def tk3(r:List Int×List Int×Int):D:= .tup [iD r.1,iD r.2.1, .int .i64 r.2.2]
section
variable{E:j2}{w0:j9}
end
end
section
theorem Own.swap{S0 S1 S:b8}{t u:D}{r q:List Int}(h:Own S0 t r S1)(h':Own S1 u q S):∃S2,Own S0 u q S2∧Own S2 t r S:=by
 rcases h with ⟨rfl,rfl,rfl⟩|⟨k,acs,ex,hk,rfl,rfl⟩
 ·exact⟨S,h', .inl ⟨rfl,rfl,rfl⟩⟩
 ·rcases h' with ⟨rfl,rfl,rfl⟩|⟨l,bcs,ex',hl,rfl,rfl⟩
  ·exact⟨S0, .inl ⟨rfl,rfl,rfl⟩, .inr ⟨k,acs,ex,hk,rfl,rfl⟩⟩
  ·obtain⟨hne,hl0⟩:=b8.fresh hl
   refine⟨S0.set l ⟨1,iC q,bcs⟩, .inr ⟨l,bcs,ex',hl0,rfl,rfl⟩, .inr ⟨k,acs,ex, ?_,rfl, ?_⟩⟩
   ·rw[b8.set_ne _ _ _ (Ne.symm hne)];exact hk
   ·exact b8.set_comm _ (Ne.symm hne) _ _
def EfQ(S:b8)(r:List Int×List Int×Bool)(v:D)(S':b8):Prop:=∃c d,v=efD c d r.2.2∧Two S c r.1 d r.2.1 S'
section
variable{E:j2}{w0:j9}{S S3:b8}{k2:Nat}{cs:List D}{a2:List AV}
theorem a2G(hle:S.le S3)(hn:S k2=none)(h2:S3 k2=some ⟨3,[cs],a2⟩)(hcs:cs.length=3){r:List Int×List Int×Bool}{c d:D}{S':b8}(g:Two S3 c r.1 d r.2.1 S'):
  i7 S' 3 (.ptr k2 0) (efD c d r.2.2) fun _ S8=>b7 (i5 S8 3 (.ptr k2 0)) fun z=>d9 E (EfQ S r) z S8:=by
 refine stP (ds:=[c,d, .bool r.2.2]) (g.le _ _ h2) (U9 _) ⟨rfl,by decide,by omega⟩ fun a3=> ?_
 have e:l7 cs 0 [c,d, .bool r.2.2]=[c,d, .bool r.2.2]:=by
  rcases cs with _|⟨x,_|⟨y,_|⟨z,_|⟨w,cs⟩⟩⟩⟩<;>simp at hcs
  rfl
 rw[e,laP (b8.set_same _ _ _) (by simp),oD]
 have g':=g.upd (o:=⟨3,[[c,d, .bool r.2.2]],a3⟩) h2
 obtain⟨S'',l,g''⟩:=g'.base (b8.le_set hle hn)
 exact d9.less l (d9.here ⟨c,d,rfl,g''⟩)
variable(hle:S.le S3)(hn:S k2=none)(h2:S3 k2=some ⟨3,[cs],a2⟩)(hcs:cs.length=3)
include hle hn h2 hcs
theorem c3v{r:List Int×List Int×Bool}(hr:r.2.2=true):r9 S3 1 (some (iC r.1)) r.1.length fun v S4=>j8 Tryz.prog E w0 p6 [v] S4 fun w S5=>r9 S5 1 (some (iC r.2.1)) r.2.1.length fun v' S6=>j8 Tryz.prog E w0 i9 [w,v'] S6 fun u S7=>
  i7 S7 3 (.ptr k2 0) u fun _ S8=>b7 (i5 S8 3 (.ptr k2 0)) fun z=>d9 E (EfQ S r) z S8:=by
 refine B8 fun v S4 g1=>(C5 g1.cells).use (B8 fun v' S6 g2=> ?_)
 refine(A0 (a:=v) (b:= .nilSlc) (c:= .bool true) g2.cells).use ?_
 rw[←hr]
 exact a2G hle hn h2 hcs ⟨S4,g1,g2⟩
theorem d8z{r:List Int×List Int×Bool}(hr:r.2.2=true)(h1:r.1=[]):j8 Tryz.prog E w0 p6 [.nilSlc] S3 fun w S5=>r9 S5 1 (some (iC r.2.1)) r.2.1.length fun v' S6=>j8 Tryz.prog E w0 i9 [w,v'] S6 fun u S7=>
  i7 S7 3 (.ptr k2 0) u fun _ S8=>b7 (i5 S8 3 (.ptr k2 0)) fun z=>d9 E (EfQ S r) z S8:=by
 refine(C5 clN).use (B8 fun v' S6 g2=> ?_)
 refine(A0 (a:= .nilSlc) (b:= .nilSlc) (c:= .bool true) g2.cells).use ?_
 rw[←hr]
 exact a2G hle hn h2 hcs ⟨S3,by rw[h1];exact Own.nil _,g2⟩
theorem d5V{r:List Int×List Int×Bool}(hr:r.2.2=true)(h1:r.2.1=[]):r9 S3 1 (some (iC r.1)) r.1.length fun v S4=>j8 Tryz.prog E w0 p6 [v] S4 fun u S7=>
  i7 S7 3 (.ptr k2 0) u fun _ S8=>b7 (i5 S8 3 (.ptr k2 0)) fun z=>d9 E (EfQ S r) z S8:=by
 refine B8 fun v S4 g1=>(C5 g1.cells).use ?_
 rw[←hr]
 exact a2G hle hn h2 hcs ⟨S4,g1,by rw[h1];exact Own.nil _⟩
theorem d9h{r:List Int×List Int×Bool}(hr:r.2.2=true)(h1:r.1=[])(h3:r.2.1=[]):j8 Tryz.prog E w0 p6 [.nilSlc] S3 fun u S7=>
  i7 S7 3 (.ptr k2 0) u fun _ S8=>b7 (i5 S8 3 (.ptr k2 0)) fun z=>d9 E (EfQ S r) z S8:=by
 refine(C5 clN).use ?_
 rw[←hr]
 exact a2G hle hn h2 hcs ⟨S3,by rw[h1];exact Own.nil _,by rw[h3];exact Own.nil _⟩
end
theorem orC{op p:Int}{R:Prop}[Decidable R]{C:D→Prop}{T:Prop}(h:C (.bool (decide (op=p∨R))))(hT:C (.bool (decide R))→T):b7 (i4 .eql (.int .u8 op) (.int .u8 p)) fun v=>i6 v (C v) T:=by
 rw[a8b,oD,d0L]
 by_cases c:op=p
 ·rw[decide_eq_true (Or.inl c)]at h
  rw[decide_eq_true c,cdT]
  exact h
 ·have e:decide (op=p∨R)=decide R:=by simp[c]
  rw[e]at h
  rw[decide_eq_false c,cdF]
  exact hT h
section
variable{E:j2}{w0:j9}{S S3:b8}{k k2:Nat}{a a2:List AV}{y:In}
variable(hle:S.le S3)(hn:S k2=none)(h0:S3 k=some ⟨4,[P8 y],a⟩)(h2:S3 k2=some ⟨3,[[.nilSlc, .nilSlc, .bool false]],a2⟩)
include hle hn h2
theorem d3k(h:¬(y.op=46∨y.op=51∨y.op=52)→11≤y.op∧y.op≤20):R8 E w0 (d9 E (EfQ S ((r0 y).1,(r0 y).2,true))) (.ptr k2 0) (.int .i64 y.a) (.bool (decide (y.op=46∨y.op=51∨y.op=52))) S3:=by
 refine b4Y ?_
 unfold b0R
 rw[I6]
 refine⟨fun h1=> ?_,fun h1=> ?_⟩
 ·have e:r0 y=([],[]):=by
   unfold r0
   repeat rw[if_neg (by omega)]
   try rw[if_pos (by omega)]
  rw[e]
  exact d9h hle hn h2 rfl rfl rfl rfl
 ·have h:=h h1
  have e:r0 y=([y.a,y.a],[y.a]):=by
   unfold r0
   repeat rw[if_neg (by omega)]
   try rw[if_pos (by omega)]
  rw[e]
  exact c3v (r:=([y.a,y.a],[y.a],true)) hle hn h2 rfl rfl
theorem d2m(hv:y.op=47∨y.op=48∨y.op=49∨y.op=46∨y.op=51∨y.op=52∨(11≤y.op∧y.op≤20)):a0z E w0 (d9 E (EfQ S ((r0 y).1,(r0 y).2,true))) (.ptr k2 0) (.int .i64 y.a) (.int .u8 y.op) (.bool (decide (y.op=47∨y.op=48))) S3:=by
 refine b5x ?_
 unfold b0P
 rw[I6]
 refine⟨fun hf=> ?_,fun hf=> ?_⟩
 ·have e:r0 y=([4],[]):=by
   unfold r0
   repeat rw[if_neg (by omega)]
   try rw[if_pos (by omega)]
  rw[e]
  exact d5V (r:=([4],[],true)) hle hn h2 rfl rfl rfl
 refine tEq ?_
 rw[I6]
 refine⟨fun h49=> ?_,fun h49=> ?_⟩
 ·have e:r0 y=([y.a],[]):=by
   unfold r0
   repeat rw[if_neg (by omega)]
   try rw[if_pos (by omega)]
  rw[e]
  exact d5V (r:=([y.a],[],true)) hle hn h2 rfl rfl rfl
 exact orC (C:=fun b=>R8 E w0 _ _ _ b S3) (d3k hle hn h2 fun h=>by omega) fun h=>orC h fun h=>tEq h
include h0
theorem d2N(hv:(23≤y.op∧y.op≤35)∨y.op=47∨y.op=48∨y.op=49∨y.op=46∨y.op=51∨y.op=52∨(11≤y.op∧y.op≤20)):F6 E w0 (d9 E (EfQ S ((r0 y).1,(r0 y).2,true))) (.ptr k 0) (.ptr k2 0) (.int .i64 y.a) (.int .u8 y.op) (.bool (decide (y.op=23∨y.op=24∨y.op=25∨y.op=26∨y.op=27∨y.op=28))) S3:=by
 refine b5L ?_
 unfold b0S
 rw[I6]
 refine⟨fun hf=> ?_,fun hf=> ?_⟩
 ·have e:r0 y=([y.a,y.a],[4]):=by
   unfold r0
   repeat rw[if_neg (by omega)]
   try rw[if_pos (by omega)]
  rw[e]
  exact c3v (r:=([y.a,y.a],[4],true)) hle hn h2 rfl rfl
 refine tEq ?_
 rw[I6]
 refine⟨fun h29=> ?_,fun h29=> ?_⟩
 ·have e:r0 y=([y.a],[y.b]):=by
   unfold r0
   repeat rw[if_neg (by omega)]
   try rw[if_pos (by omega)]
  have l2:c9 S3 (.ptr k 2)=some (.int .i64 y.b):=by rw[ldP h0];rfl
  rw[e]
  simp only[E2,oD,Nat.zero_add,l2]
  refine⟨⟨?_, ?_⟩, ?_⟩
  ·refine B8 (l:=[y.a]) fun v S4 g1=> ?_
   have e4:r7 (.ptr k 2) S3 S4:=by rw[fwP,g1.le _ _ h0,h0]
   refine⟨e4,(C5 g1.cells).use ⟨e4,B8 (l:=[y.b]) fun v' S6 g2=>(A0 (a:=v) (b:= .nilSlc) (c:= .bool true) g2.cells).use ?_⟩⟩
   exact a2G hle hn h2 rfl (r:=([y.a],[y.b],true)) ⟨S4,g1,g2⟩
  ·refine B8 (l:=[y.a]) fun v S4 g1=>⟨by rw[fwP,g1.le _ _ h0,h0],B8 (l:=[y.b]) fun v' S6 g2=>(C5 g1.cells).use ((A0 (a:=v) (b:= .nilSlc) (c:= .bool true) g2.cells).use ?_)⟩
   exact a2G hle hn h2 rfl (r:=([y.a],[y.b],true)) ⟨S4,g1,g2⟩
  ·refine B8 (l:=[y.b]) fun v' S4 g1=>B8 (l:=[y.a]) fun v S6 g2=>(C5 g2.cells).use ((A0 (a:=v) (b:= .nilSlc) (c:= .bool true) g1.cells).use ?_)
   obtain⟨S5,g3,g4⟩:=g1.swap g2
   exact a2G hle hn h2 rfl (r:=([y.a],[y.b],true)) ⟨S5,g3,g4⟩
 refine tEq ?_
 rw[I6]
 refine⟨fun h30=> ?_,fun h30=> ?_⟩
 ·have e:r0 y=([4],[4]):=by
   unfold r0
   repeat rw[if_neg (by omega)]
   try rw[if_pos (by omega)]
  rw[e]
  exact c3v (r:=([4],[4],true)) hle hn h2 rfl rfl
 refine tEq ?_
 rw[I6]
 refine⟨fun h31=> ?_,fun h31=> ?_⟩
 ·have e:r0 y=([5,5],[5]):=by
   unfold r0
   repeat rw[if_neg (by omega)]
   try rw[if_pos (by omega)]
  rw[e]
  exact c3v (r:=([5,5],[5],true)) hle hn h2 rfl rfl
 refine tEq ?_
 rw[I6]
 refine⟨fun h32=> ?_,fun h32=> ?_⟩
 ·have e:r0 y=([5],[3]):=by
   unfold r0
   repeat rw[if_neg (by omega)]
   try rw[if_pos (by omega)]
  rw[e]
  exact c3v (r:=([5],[3],true)) hle hn h2 rfl rfl
 refine tEq ?_
 rw[I6]
 refine⟨fun h33=> ?_,fun h33=> ?_⟩
 ·have e:r0 y=([5,3],[2]):=by
   unfold r0
   repeat rw[if_neg (by omega)]
   try rw[if_pos (by omega)]
  rw[e]
  exact c3v (r:=([5,3],[2],true)) hle hn h2 rfl rfl
 refine tEq ?_
 rw[I6]
 refine⟨fun h34=> ?_,fun h34=> ?_⟩
 ·have e:r0 y=([5,3,3],[5]):=by
   unfold r0
   repeat rw[if_neg (by omega)]
   try rw[if_pos (by omega)]
  rw[e]
  exact c3v (r:=([5,3,3],[5],true)) hle hn h2 rfl rfl
 refine tEq ?_
 rw[I6]
 refine⟨fun h35=> ?_,fun h35=> ?_⟩
 ·have e:r0 y=([2],[5]):=by
   unfold r0
   repeat rw[if_neg (by omega)]
   try rw[if_pos (by omega)]
  rw[e]
  exact c3v (r:=([2],[5],true)) hle hn h2 rfl rfl
 exact orC (C:=fun b=>a0z E w0 _ _ _ _ b S3) (d2m hle hn h2 (by omega)) fun h=>tEq h
theorem d4W(hv:y.op=21∨y.op=22∨(23≤y.op∧y.op≤35)∨y.op=47∨y.op=48∨y.op=49∨y.op=46∨y.op=51∨y.op=52∨(11≤y.op∧y.op≤20)):a1j E w0 (d9 E (EfQ S ((r0 y).1,(r0 y).2,true))) (.ptr k 0) (.ptr k2 0) (.int .i64 y.a) (.int .u8 y.op) (.bool (decide (y.op=21∨y.op=22))) S3:=by
 refine b5Y ?_
 unfold b2w
 rw[I6]
 refine⟨fun hf=> ?_,fun hf=> ?_⟩
 ·have e:r0 y=([y.a],[y.a]):=by
   unfold r0
   repeat rw[if_neg (by omega)]
   try rw[if_pos (by omega)]
  rw[e]
  exact c3v (r:=([y.a],[y.a],true)) hle hn h2 rfl rfl
 exact orC (C:=fun b=>F6 E w0 _ _ _ _ _ b S3) (d2N hle hn h0 h2 (by omega)) fun h=>orC h fun h=>orC h fun h=>orC h fun h=>orC h fun h=>tEq h
theorem d3Q(hv:y.op=8∨y.op=9∨y.op=10∨y.op=21∨y.op=22∨(23≤y.op∧y.op≤35)∨y.op=47∨y.op=48∨y.op=49∨y.op=46∨y.op=51∨y.op=52∨(11≤y.op∧y.op≤20)):a1A E w0 (d9 E (EfQ S ((r0 y).1,(r0 y).2,true))) (.ptr k 0) (.ptr k2 0) (.int .i64 y.a) (.int .u8 y.op) (.bool (decide (y.op=8∨y.op=9))) S3:=by
 refine b6a ?_
 unfold b1M
 rw[I6]
 refine⟨fun hf=> ?_,fun hf=> ?_⟩
 ·have e:r0 y=([0],[]):=by
   unfold r0
   repeat rw[if_neg (by omega)]
   try rw[if_pos (by omega)]
  rw[e]
  exact d5V (r:=([0],[],true)) hle hn h2 rfl rfl rfl
 refine tEq ?_
 rw[I6]
 refine⟨fun h10=> ?_,fun h10=> ?_⟩
 ·have e:r0 y=([0],[0,0]):=by
   unfold r0
   repeat rw[if_neg (by omega)]
   try rw[if_pos (by omega)]
  rw[e]
  exact c3v (r:=([0],[0,0],true)) hle hn h2 rfl rfl
 exact orC (C:=fun b=>a1j E w0 _ _ _ _ _ b S3) (d4W hle hn h0 h2 (by omega)) fun h=>tEq h
theorem d3V(hv:y.op=4∨y.op=5∨y.op=7∨y.op=8∨y.op=9∨y.op=10∨y.op=21∨y.op=22∨(23≤y.op∧y.op≤35)∨y.op=47∨y.op=48∨y.op=49∨y.op=46∨y.op=51∨y.op=52∨(11≤y.op∧y.op≤20)):a1p E w0 (d9 E (EfQ S ((r0 y).1,(r0 y).2,true))) (.ptr k 0) (.ptr k2 0) (.int .i64 y.a) (.int .u8 y.op) (.bool (decide (y.op=4∨y.op=5))) S3:=by
 refine b7F ?_
 unfold b2G
 rw[I6]
 refine⟨fun hf=> ?_,fun hf=> ?_⟩
 ·have e:r0 y=([],[4]):=by
   unfold r0
   repeat rw[if_neg (by omega)]
   try rw[if_pos (by omega)]
  rw[e]
  exact d8z (r:=([],[4],true)) hle hn h2 rfl rfl rfl
 refine tEq ?_
 rw[I6]
 refine⟨fun h7=> ?_,fun h7=> ?_⟩
 ·have e:r0 y=([],[0]):=by
   unfold r0
   repeat rw[if_neg (by omega)]
   try rw[if_pos (by omega)]
  rw[e]
  exact d8z (r:=([],[0],true)) hle hn h2 rfl rfl rfl
 exact orC (C:=fun b=>a1A E w0 _ _ _ _ _ b S3) (d3Q hle hn h0 h2 (by omega)) fun h=>tEq h
theorem d3G(hv:y.op=1∨y.op=2∨y.op=3∨y.op=4∨y.op=5∨y.op=7∨y.op=8∨y.op=9∨y.op=10∨y.op=21∨y.op=22∨(23≤y.op∧y.op≤35)∨y.op=47∨y.op=48∨y.op=49∨y.op=46∨y.op=51∨y.op=52∨(11≤y.op∧y.op≤20)):Y3 E w0 (d9 E (EfQ S ((r0 y).1,(r0 y).2,true))) (.ptr k 0) (.ptr k2 0) (.int .i64 y.a) (.int .u8 y.op) (.bool (decide (y.op=1∨y.op=2∨y.op=3))) S3:=by
 refine b6v ?_
 unfold b2R
 rw[I6]
 refine⟨fun hf=> ?_,fun hf=> ?_⟩
 ·have e:r0 y=([],[y.op]):=by
   unfold r0
   rw[if_pos (by omega)]
  have l0:c9 S3 (.ptr k 0)=some (.int .u8 y.op):=by rw[ldP h0];rfl
  have w:IntKind.i64.wrap y.op=y.op:=l8 (by omega) (by omega)
  rw[e]
  simp only[E2,oD,Nat.zero_add,l0,cvI,w]
  refine⟨?_, ?_⟩
  ·refine(C5 clN).use ⟨fwR _ _,B8 (l:=[y.op]) fun v' S6 g2=>(A0 (a:= .nilSlc) (b:= .nilSlc) (c:= .bool true) g2.cells).use ?_⟩
   exact a2G hle hn h2 rfl (r:=([],[y.op],true)) ⟨S3,Own.nil _,g2⟩
  ·refine B8 (l:=[y.op]) fun v' S4 g1=>(C5 clN).use ((A0 (a:= .nilSlc) (b:= .nilSlc) (c:= .bool true) g1.cells).use ?_)
   exact a2G hle hn h2 rfl (r:=([],[y.op],true)) ⟨S3,Own.nil _,g1⟩
 exact orC (C:=fun b=>a1p E w0 _ _ _ _ _ b S3) (d3V hle hn h0 h2 (by omega)) fun h=>tEq h
end
section
variable{E:j2}{w0:j9}
theorem c6m{y:In}(hy:y.Ok)(hv:(1≤y.op∧y.op≤35∧y.op≠6)∨(46≤y.op∧y.op≤52∧y.op≠50)){S:b8}:j8 Tryz.prog E w0 b2n [inD y] S (EfQ S ((r0 y).1,(r0 y).2,true)):=by
 refine c2G ?_
 unfold b9U
 rw[inD,U9,oD]
 intro k a n
 intro k2 a2 n2
 obtain⟨ne2,n2'⟩:=b8.fresh n2
 generalize hS3:(S.set k _).set k2 _=S3
 have h2:S3 k2=some ⟨3,[[.nilSlc, .nilSlc, .bool false]],a2⟩:=by rw[←hS3];exact b8.set_same _ _ _
 have h0:S3 k=some ⟨4,[P8 y],a⟩:=by rw[←hS3,b8.set_ne _ _ _ (Ne.symm ne2)];exact b8.set_same _ _ _
 have hle:S.le S3:=by rw[←hS3];exact b8.le_set (b8.le_new n) n2'
 have l0:c9 S3 (.ptr k 0)=some (.int .u8 y.op):=by rw[ldP h0];rfl
 have l1:c9 S3 (.ptr k 1)=some (.int .i64 y.a):=by rw[ldP h0];rfl
 simp only[E2,Nat.zero_add]
 rw[oD,l1,oD,oD,l0,oD]
 exact orC (C:=fun b=>Y3 E w0 _ _ _ _ _ b S3) (d3G hle n2' h0 h2 (by omega)) fun h=>orC h fun h=>tEq h
end
end
section
section
variable{E:j2}{w0:j9}{S S3:b8}{k2:Nat}{a2:List AV}
variable(hle:S.le S3)(hn:S k2=none)(h2:S3 k2=some ⟨3,[[.nilSlc, .nilSlc, .bool false]],a2⟩)
include hle hn h2
theorem d6w{r:List Int×List Int×Bool}:r9 S3 1 (some (iC r.1)) r.1.length fun v S4=>j8 Tryz.prog E w0 p6 [v] S4 fun w S5=>r9 S5 1 (some (iC r.2.1)) r.2.1.length fun v' S6=>j8 Tryz.prog E w0 i9 [w,v'] S6 fun u S7=>j8 Tryz.prog E w0 o5 [u, .bool r.2.2] S7 fun u S7=>
  i7 S7 3 (.ptr k2 0) u fun _ S8=>b7 (i5 S8 3 (.ptr k2 0)) fun z=>d9 E (EfQ S r) z S8:=by
 refine B8 fun v S4 g1=>(C5 g1.cells).use (B8 fun v' S6 g2=> ?_)
 refine(A0 (a:=v) (b:= .nilSlc) (c:= .bool true) g2.cells).use ?_
 refine(F7 (a:=v) (b:=v') (c:= .bool true) (clB _)).use ?_
 exact a2G hle hn h2 rfl ⟨S4,g1,g2⟩
theorem d8B{r:List Int×List Int×Bool}(h1:r.1=[]):j8 Tryz.prog E w0 p6 [.nilSlc] S3 fun w S5=>r9 S5 1 (some (iC r.2.1)) r.2.1.length fun v' S6=>j8 Tryz.prog E w0 i9 [w,v'] S6 fun u S7=>j8 Tryz.prog E w0 o5 [u, .bool r.2.2] S7 fun u S7=>
  i7 S7 3 (.ptr k2 0) u fun _ S8=>b7 (i5 S8 3 (.ptr k2 0)) fun z=>d9 E (EfQ S r) z S8:=by
 refine(C5 clN).use (B8 fun v' S6 g2=> ?_)
 refine(A0 (a:= .nilSlc) (b:= .nilSlc) (c:= .bool true) g2.cells).use ?_
 refine(F7 (a:= .nilSlc) (b:=v') (c:= .bool true) (clB _)).use ?_
 exact a2G hle hn h2 rfl ⟨S3,by rw[h1];exact Own.nil _,g2⟩
theorem d6v{r:List Int×List Int×Bool}(h1:r.2.1=[]):r9 S3 1 (some (iC r.1)) r.1.length fun v S4=>j8 Tryz.prog E w0 p6 [v] S4 fun u S7=>j8 Tryz.prog E w0 o5 [u, .bool r.2.2] S7 fun u S7=>
  i7 S7 3 (.ptr k2 0) u fun _ S8=>b7 (i5 S8 3 (.ptr k2 0)) fun z=>d9 E (EfQ S r) z S8:=by
 refine B8 fun v S4 g1=>(C5 g1.cells).use ?_
 refine(F7 (a:=v) (b:= .nilSlc) (c:= .bool true) (clB _)).use ?_
 exact a2G hle hn h2 rfl ⟨S4,g1,by rw[h1];exact Own.nil _⟩
theorem d8h{B:b8}{v:D}{r:List Int×List Int×Bool}(g1:Own S3 v r.1 B):j8 Tryz.prog E w0 p6 [v] B fun w S5=>r9 S5 1 (some (iC r.2.1)) r.2.1.length fun v' S6=>j8 Tryz.prog E w0 i9 [w,v'] S6 fun u S7=>j8 Tryz.prog E w0 o5 [u, .bool r.2.2] S7 fun u S7=>
  i7 S7 3 (.ptr k2 0) u fun _ S8=>b7 (i5 S8 3 (.ptr k2 0)) fun z=>d9 E (EfQ S r) z S8:=by
 refine(C5 g1.cells).use (B8 fun v' S6 g2=> ?_)
 refine(A0 (a:=v) (b:= .nilSlc) (c:= .bool true) g2.cells).use ?_
 refine(F7 (a:=v) (b:=v') (c:= .bool true) (clB _)).use ?_
 exact a2G hle hn h2 rfl ⟨B,g1,g2⟩
end
theorem lb1{S:b8}{a:Int}{K:D→b8→Prop}(h:K (bD [a]) S):r9 S 1 (m8 1 (List.replicate 1 [(.int .u8 0)]) [(0, .int .u8 a)]) 1 K:=G6 (rows:=B4 ([a].map (D.int .u8))) rfl h
theorem lb2{S:b8}{a b:Int}{K:D→b8→Prop}(h:K (bD [a,b]) S):r9 S 1 (m8 1 (List.replicate 2 [(.int .u8 0)]) [(0, .int .u8 a),(1, .int .u8 b)]) 2 K:=G6 (rows:=B4 ([a,b].map (D.int .u8))) rfl h
section
variable{E:j2}{w0:j9}
set_option maxHeartbeats 400000 in
theorem d0n{y:In}{m:Mo}(hy:y.Ok)(hm:m.Fits)(hb:y.op=37∨y.op=38→0≤y.b){S0 S:b8}(hle:S0.le S){k k2 k4:Nat}{a a2 a4:List AV}(h0:S k=some ⟨4,[P8 y],a⟩)(h2:S k2=some ⟨3,[M3 m],a2⟩)(hn:S0 k4=none)(h4:S k4=some ⟨3,[[.nilSlc, .nilSlc, .bool false]],a4⟩):
  a0E E w0 (d9 E (EfQ S0 (U1 y m))) (.ptr k 0) (.ptr k2 0) (.ptr k4 0) (.int .i64 y.a) (.int .u8 y.op) (.bool (decide (y.op=36∨y.op=37∨y.op=38))) S:=by
 refine b9r ?_
 unfold b4I
 obtain⟨xi0,xi1,xi2,xi3⟩:=d1d y
 have hok:=hm.ok
 have ha:=hy.a
 have lm:i5 S 3 (.ptr k2 0)=some (moD m):=by rw[laP h2 (by simp[M3])];rfl
 have l1:c9 S (.ptr k 1)=some (.int .i64 y.a):=by rw[ldP h0];rfl
 have box:∀ {k5:Nat} {o:D5},S k5=none→S0.le (S.set k5 o)∧(S.set k5 o) k4=some ⟨3,[[.nilSlc, .nilSlc, .bool false]],a4⟩∧(S.set k5 o) k=some ⟨4,[P8 y],a⟩:=fun h=>by
  refine⟨b8.le_trans hle (b8.le_new h), ?_, ?_⟩
  ·rw[b8.set_ne _ _ _ (fun e=>by rw[←e,h4]at h;cases h)];exact h4
  ·rw[b8.set_ne _ _ _ (fun e=>by rw[←e,h0]at h;cases h)];exact h0
 have e39:∀(p:Int),i4 .eql (.int .u8 y.op) (.int .u8 p)=some (.bool (decide (y.op=p))):=fun p=>by rw[a8b,d0L]
 rw[I6]
 refine⟨fun h36=> ?_,fun h36=> ?_⟩
 ·simp only[lm,oD,E2,Nat.zero_add,l1]
  refine lb1 ((a1J hok ha (by decide)).use ?_)
  obtain⟨t,ok,ht⟩:∃t ok,o4 m y.a [6]=(t,ok):=⟨_,_,rfl⟩
  simp only[a4a,ht,exD,List.getElem?_cons_zero,List.getElem?_cons_succ,oD]
  refine c5k fun k5 a5 n5=> ?_
  obtain⟨b1,b2,b3⟩:=box (o:=⟨5,[W6 t],a5⟩) n5
  have h5:(S.set k5 ⟨5,[W6 t],a5⟩) k5=some ⟨5,[W6 t],a5⟩:=b8.set_same _ _ _
  have hfl:t.fields.length<2^30:=by
   unfold o4 at ht
   split at ht
   ·rename_i t' e
    obtain⟨_,e1,e2⟩:=c5D e
    have:t'=t:=(Prod.ext_iff.1 ht).1
    rw[←this]
    exact hm.fields _ (List.mem_of_getElem? e1)
   ·have:d1a=t:=(Prod.ext_iff.1 ht).1
    rw[←this];decide
  generalize S.set k5 ⟨5,[W6 t],a5⟩=S5 at b1 b2 b3 h5 ⊢
  have l0:c9 S5 (.ptr k 0)=some (.int .u8 y.op):=by rw[ldP b3];rfl
  have l2:c9 S5 (.ptr k 2)=some (.int .i64 y.b):=by rw[ldP b3];rfl
  have lf:c9 S5 (.ptr k5 2)=some (a3a t.fields):=by rw[ldP h5];rfl
  simp only[E2,oD,Nat.zero_add,l0,lf,a1Q,e39]
  rw[I6]
  refine⟨fun e36=> ?_,fun e36=> ?_⟩
  ·have em:U1 y m=(t.fields.map (·.2),[y.a],ok):=by
    unfold U1
    rw[if_pos h36]
    simp only[ht,if_pos e36]
   rw[em]
   refine c1a (I:=fun n x4 x5 x7 x8 x42 x43 x44 S'=>x4= .ptr k4 0∧x5= .int .i64 y.a∧x7= .bool ok∧x42=a3a t.fields∧x43= .int .i64 (t.fields.length:Int)∧∃(i:Nat) (B:b8),x44= .int .i64 (i:Int)∧i+n=t.fields.length∧S0.le B∧B k4=some ⟨3,[[.nilSlc, .nilSlc, .bool false]],a4⟩∧Grw B x8 (iC ((t.fields.take i).map (·.2))) 1 S') ?_ (n:=t.fields.length) ⟨rfl,rfl,rfl,rfl,rfl,0,S5,rfl,by omega,b1,b2,Grw.nil _ _⟩
   rintro n _ _ _ x8 _ _ _ S6 ⟨rfl,rfl,rfl,rfl,rfl,i,B,rfl,hi,c1,c2,g⟩
   unfold b0C
   rw[H7,oD,I6]
   refine⟨fun hlt=> ?_,fun hge=> ?_⟩
   ·have hlt:i<t.fields.length:=by omega
    obtain⟨f,hf⟩:∃f,f=t.fields[i]:=⟨_,rfl⟩
    have ea:t.fields[i]? =some f:=by rw[List.getElem?_eq_getElem hlt,hf]
    rw[b3b ea,oD,d4a,oD]
    intro k6 a6 n6
    refine stP (ds:=a1F f) (b8.set_same _ _ _) (U9 _) ⟨rfl,by decide,by simp[a1F]⟩ fun a7=> ?_
    rw[b8.set_set,E2,oD,ldP (b8.set_same _ _ _),show(l7 [D.str [], .int .i64 0] 0 (a1F f))[0+1]? =some (.int .i64 f.2) from rfl,oD]
    have gu:=g.under (o:=⟨[D.str [], .int .i64 0].length,[l7 [D.str [], .int .i64 0] 0 (a1F f)],a7⟩) n6
    refine li1 (gu.push (news:=iC [f.2]) (c1n _ _) (by simp;omega) fun t' S' g'=> ?_)
    rw[D7,oD,l8 (by omega) (by omega)]
    have z6:B k6=none:=by
     cases e:B k6 with
     |none=>rfl
     |some o=>rw[g.le _ _ e]at n6;cases n6
    have zS:S0 k6=none:=by
     cases e:S0 k6 with
     |none=>rfl
     |some o=>rw[c1 _ _ e]at z6;cases z6
    refine⟨n - 1,by omega,by trivial,by trivial,by trivial,by trivial,by trivial,i+1,B.set k6 ⟨[D.str [], .int .i64 0].length,[l7 [D.str [], .int .i64 0] 0 (a1F f)],a7⟩,rfl,by omega,b8.le_set c1 zS, ?_, ?_⟩
    ·rw[b8.set_ne _ _ _ (fun e=>by rw[←e,c2]at z6;cases z6)];exact c2
    ·rw[List.take_add_one,ea,Option.toList_some,List.map_append,a4n]
     exact g'
   ·have hi:i=t.fields.length:=by omega
    subst hi
    rw[List.take_length]at g
    have gg:Own B x8 (t.fields.map (·.2)) S6:=Own.of_grw g
    clear g em hge
    generalize t.fields.map (·.2)=lc at gg ⊢
    exact d8h (r:=(lc,[y.a],ok)) c1 hn c2 gg
  have hm36:U1 y m=match (if ok then t.fields[y.b.toNat]? else none) with
   |some f=>if y.op=37 then([y.a],[f.2],true) else([y.a,f.2],[],true)
   |none=>([],[],false):=by
   unfold U1
   rw[if_pos h36]
   simp only[ht,if_neg e36]
   try rfl
  have bad:([],[],false)=U1 y m→b7 (E1 (r6 [.nilSlc, .nilSlc,(.bool false)] [])) fun v62=>i7 S5 3 (.ptr k4 0) v62 fun v63 S64=>b7 (i5 S64 3 (.ptr k4 0)) fun v65=>d9 E (EfQ S0 (U1 y m)) v65 S64:=fun e=>by
   rw[fiN,agS,oD, ←e]
   exact a2G (r:=([],[],false)) b1 hn b2 rfl ⟨S5,Own.nil _,Own.nil _⟩
  rw[unN,oD]
  cases ok with
  |false=>
   simp only[Bool.not_false,M4,t1,vdF,oD,M8,if_true,cdT]
   exact bad (by rw[hm36];rfl)
  |true=>
   simp only[Bool.not_true,M4,t2,vdT,oD,l2,lf,a1Q,a8S,M8,Bool.false_eq_true,if_false]
   have hbn:0≤y.b:=hb (by omega)
   rw[I6]
   refine⟨fun hbig=>bad ?_,fun hsm=> ?_⟩
   ·rw[hm36,if_pos rfl,List.getElem?_eq_none (by omega)]
   obtain⟨j,hj⟩:∃j:Nat,j=y.b.toNat:=⟨_,rfl⟩
   have hj':y.b=(j:Int):=by omega
   have hsm:j<t.fields.length:=by omega
   rw[←hj]at hm36
   obtain⟨f,hf⟩:∃f,f=t.fields[j]:=⟨_,rfl⟩
   have ea:t.fields[j]? =some f:=by rw[List.getElem?_eq_getElem hsm,hf]
   rw[if_pos rfl,ea]at hm36
   simp only at hm36
   simp only[hj',b3b ea,oD,ofE,lsE,Nat.zero_add,show(a1F f)[1]? =some (.int .i64 f.2) from rfl,l0,e39]
   rw[I6]
   refine⟨fun e38=> ?_,fun e38=> ?_⟩
   ·rw[if_neg (by omega)]at hm36
    rw[hm36]
    exact d5V (r:=([y.a,f.2],[],true)) b1 hn b2 rfl rfl rfl
   ·rw[if_pos (by omega)]at hm36
    rw[hm36]
    exact c3v (r:=([y.a],[f.2],true)) b1 hn b2 rfl rfl
 simp only[e39,oD]
 rw[I6]
 refine⟨fun h39=> ?_,fun h39=> ?_⟩
 ·simp only[lm,oD,E2,Nat.zero_add,l1]
  refine lb1 ((a1J hok ha (by decide)).use ?_)
  simp only[a4a,exD,List.getElem?_cons_zero,List.getElem?_cons_succ,oD]
  refine c5k fun k5 a5 n5=> ?_
  obtain⟨b1,b2,b3⟩:=box (o:=⟨5,[W6 (o4 m y.a [7]).1],a5⟩) n5
  have lf:c9 (S.set k5 ⟨5,[W6 (o4 m y.a [7]).1],a5⟩) (.ptr k5 3)=some (.int .i64 (o4 m y.a [7]).1.elem):=by rw[ldP (b8.set_same _ _ _)];rfl
  have h5:(S.set k5 ⟨5,[W6 (o4 m y.a [7]).1],a5⟩) k5=some ⟨5,[W6 (o4 m y.a [7]).1],a5⟩:=b8.set_same _ _ _
  generalize S.set k5 ⟨5,[W6 (o4 m y.a [7]).1],a5⟩=S5 at b1 b2 b3 lf h5 ⊢
  simp only[E2,oD,Nat.zero_add,lf]
  have em:U1 y m=([(o4 m y.a [7]).1.elem],[y.a],(o4 m y.a [7]).2):=by
   unfold U1
   rw[if_neg h36,if_pos h39]
  rw[em]
  exact d6w (r:=([(o4 m y.a [7]).1.elem],[y.a],(o4 m y.a [7]).2)) b1 hn b2
 rw[I6]
 refine⟨fun h40=> ?_,fun h40=> ?_⟩
 ·simp only[lm,oD,E2,Nat.zero_add,l1]
  refine lb1 ((a1J hok ha (by decide)).use ?_)
  simp only[a4a,exD,List.getElem?_cons_zero,List.getElem?_cons_succ,oD]
  refine c5k fun k5 a5 n5=> ?_
  obtain⟨b1,b2,b3⟩:=box (o:=⟨5,[W6 (o4 m y.a [8]).1],a5⟩) n5
  have lf:c9 (S.set k5 ⟨5,[W6 (o4 m y.a [8]).1],a5⟩) (.ptr k5 3)=some (.int .i64 (o4 m y.a [8]).1.elem):=by rw[ldP (b8.set_same _ _ _)];rfl
  have h5:(S.set k5 ⟨5,[W6 (o4 m y.a [8]).1],a5⟩) k5=some ⟨5,[W6 (o4 m y.a [8]).1],a5⟩:=b8.set_same _ _ _
  generalize S.set k5 ⟨5,[W6 (o4 m y.a [8]).1],a5⟩=S5 at b1 b2 b3 lf h5 ⊢
  have em:U1 y m=([],[y.a],(o4 m y.a [8]).2):=by
   unfold U1
   rw[if_neg h36,if_neg h39,if_pos h40]
  rw[em]
  exact d8B (r:=([],[y.a],(o4 m y.a [8]).2)) b1 hn b2 rfl
 rw[I6]
 refine⟨fun h44=> ?_,fun h44=> ?_⟩
 ·simp only[lm,oD,E2,Nat.zero_add,l1]
  refine lb1 ((a1J hok ha (by decide)).use ?_)
  simp only[a4a,exD,List.getElem?_cons_zero,List.getElem?_cons_succ,oD]
  refine c5k fun k5 a5 n5=> ?_
  obtain⟨b1,b2,b3⟩:=box (o:=⟨5,[W6 (o4 m y.a [8]).1],a5⟩) n5
  have lf:c9 (S.set k5 ⟨5,[W6 (o4 m y.a [8]).1],a5⟩) (.ptr k5 3)=some (.int .i64 (o4 m y.a [8]).1.elem):=by rw[ldP (b8.set_same _ _ _)];rfl
  have h5:(S.set k5 ⟨5,[W6 (o4 m y.a [8]).1],a5⟩) k5=some ⟨5,[W6 (o4 m y.a [8]).1],a5⟩:=b8.set_same _ _ _
  generalize S.set k5 ⟨5,[W6 (o4 m y.a [8]).1],a5⟩=S5 at b1 b2 b3 lf h5 ⊢
  simp only[E2,oD,Nat.zero_add,lf]
  have em:U1 y m=([y.a,(o4 m y.a [8]).1.elem],[],(o4 m y.a [8]).2):=by
   unfold U1
   rw[if_neg h36,if_neg h39,if_neg h40,if_pos h44]
  rw[em]
  exact d6v (r:=([y.a,(o4 m y.a [8]).1.elem],[],(o4 m y.a [8]).2)) b1 hn b2 rfl
 rw[I6]
 refine⟨fun h45=> ?_,fun h45=> ?_⟩
 ·simp only[lm,oD,E2,Nat.zero_add,l1]
  refine lb1 ((a1J hok ha (by decide)).use ?_)
  simp only[a4a,exD,List.getElem?_cons_zero,List.getElem?_cons_succ,oD]
  refine c5k fun k5 a5 n5=> ?_
  obtain⟨b1,b2,b3⟩:=box (o:=⟨5,[W6 (o4 m y.a [8]).1],a5⟩) n5
  have lf:c9 (S.set k5 ⟨5,[W6 (o4 m y.a [8]).1],a5⟩) (.ptr k5 3)=some (.int .i64 (o4 m y.a [8]).1.elem):=by rw[ldP (b8.set_same _ _ _)];rfl
  have h5:(S.set k5 ⟨5,[W6 (o4 m y.a [8]).1],a5⟩) k5=some ⟨5,[W6 (o4 m y.a [8]).1],a5⟩:=b8.set_same _ _ _
  generalize S.set k5 ⟨5,[W6 (o4 m y.a [8]).1],a5⟩=S5 at b1 b2 b3 lf h5 ⊢
  have em:U1 y m=([y.a],[(o4 m y.a [8]).1.elem],(o4 m y.a [8]).2):=by
   unfold U1
   rw[if_neg h36,if_neg h39,if_neg h40,if_neg h44,if_pos h45]
  rw[em]
  simp only[E2,oD,Nat.zero_add,lf]
  refine⟨⟨?_, ?_⟩, ?_⟩
  ·refine B8 (l:=[y.a]) fun v S4 g1=> ?_
   have e4:r7 (.ptr k5 3) S5 S4:=by rw[fwP,g1.le _ _ h5,h5]
   refine⟨e4,(C5 g1.cells).use ⟨e4,B8 (l:=[(o4 m y.a [8]).1.elem]) fun v' S6 g2=>(A0 (a:=v) (b:= .nilSlc) (c:= .bool true) g2.cells).use ((F7 (a:=v) (b:=v') (c:= .bool true) (clB _)).use ?_)⟩⟩
   exact a2G b1 hn b2 rfl (r:=([y.a],[(o4 m y.a [8]).1.elem],(o4 m y.a [8]).2)) ⟨S4,g1,g2⟩
  ·refine B8 (l:=[y.a]) fun v S4 g1=>⟨by rw[fwP,g1.le _ _ h5,h5],B8 (l:=[(o4 m y.a [8]).1.elem]) fun v' S6 g2=>(C5 g1.cells).use ((A0 (a:=v) (b:= .nilSlc) (c:= .bool true) g2.cells).use ((F7 (a:=v) (b:=v') (c:= .bool true) (clB _)).use ?_))⟩
   exact a2G b1 hn b2 rfl (r:=([y.a],[(o4 m y.a [8]).1.elem],(o4 m y.a [8]).2)) ⟨S4,g1,g2⟩
  ·refine B8 (l:=[(o4 m y.a [8]).1.elem]) fun v' S4 g1=>B8 (l:=[y.a]) fun v S6 g2=>(C5 g2.cells).use ((A0 (a:=v) (b:= .nilSlc) (c:= .bool true) g1.cells).use ((F7 (a:=v) (b:=v') (c:= .bool true) (clB _)).use ?_))
   obtain⟨S7,g3,g4⟩:=g1.swap g2
   exact a2G b1 hn b2 rfl (r:=([y.a],[(o4 m y.a [8]).1.elem],(o4 m y.a [8]).2)) ⟨S7,g3,g4⟩
 simp only[lm,oD,E2,Nat.zero_add,l1]
 refine lb2 ((a1J hok ha (by decide)).use ?_)
 simp only[a4a,exD,List.getElem?_cons_zero,List.getElem?_cons_succ,oD]
 refine c5k fun k5 a5 n5=> ?_
 obtain⟨b1,b2,b3⟩:=box (o:=⟨5,[W6 (o4 m y.a [7,8]).1],a5⟩) n5
 have lf:c9 (S.set k5 ⟨5,[W6 (o4 m y.a [7,8]).1],a5⟩) (.ptr k5 3)=some (.int .i64 (o4 m y.a [7,8]).1.elem):=by rw[ldP (b8.set_same _ _ _)];rfl
 have h5:(S.set k5 ⟨5,[W6 (o4 m y.a [7,8]).1],a5⟩) k5=some ⟨5,[W6 (o4 m y.a [7,8]).1],a5⟩:=b8.set_same _ _ _
 generalize S.set k5 ⟨5,[W6 (o4 m y.a [7,8]).1],a5⟩=S5 at b1 b2 b3 lf h5 ⊢
 have l0:c9 S5 (.ptr k 0)=some (.int .u8 y.op):=by rw[ldP b3];rfl
 simp only[E2,oD,Nat.zero_add,l0,e39]
 rw[I6]
 refine⟨fun h41=> ?_,fun h41=> ?_⟩
 ·have em:U1 y m=([y.a,3],[(o4 m y.a [7,8]).1.elem],(o4 m y.a [7,8]).2):=by
   unfold U1
   rw[if_neg h36,if_neg h39,if_neg h40,if_neg h44,if_neg h45,if_pos h41]
  rw[em]
  simp only[E2,oD,Nat.zero_add,lf]
  refine⟨⟨?_, ?_⟩, ?_⟩
  ·refine B8 (l:=[y.a,3]) fun v S4 g1=> ?_
   have e4:r7 (.ptr k5 3) S5 S4:=by rw[fwP,g1.le _ _ h5,h5]
   refine⟨e4,(C5 g1.cells).use ⟨e4,B8 (l:=[(o4 m y.a [7,8]).1.elem]) fun v' S6 g2=>(A0 (a:=v) (b:= .nilSlc) (c:= .bool true) g2.cells).use ((F7 (a:=v) (b:=v') (c:= .bool true) (clB _)).use ?_)⟩⟩
   exact a2G b1 hn b2 rfl (r:=([y.a,3],[(o4 m y.a [7,8]).1.elem],(o4 m y.a [7,8]).2)) ⟨S4,g1,g2⟩
  ·refine B8 (l:=[y.a,3]) fun v S4 g1=>⟨by rw[fwP,g1.le _ _ h5,h5],B8 (l:=[(o4 m y.a [7,8]).1.elem]) fun v' S6 g2=>(C5 g1.cells).use ((A0 (a:=v) (b:= .nilSlc) (c:= .bool true) g2.cells).use ((F7 (a:=v) (b:=v') (c:= .bool true) (clB _)).use ?_))⟩
   exact a2G b1 hn b2 rfl (r:=([y.a,3],[(o4 m y.a [7,8]).1.elem],(o4 m y.a [7,8]).2)) ⟨S4,g1,g2⟩
  ·refine B8 (l:=[(o4 m y.a [7,8]).1.elem]) fun v' S4 g1=>B8 (l:=[y.a,3]) fun v S6 g2=>(C5 g2.cells).use ((A0 (a:=v) (b:= .nilSlc) (c:= .bool true) g1.cells).use ((F7 (a:=v) (b:=v') (c:= .bool true) (clB _)).use ?_))
   obtain⟨S7,g3,g4⟩:=g1.swap g2
   exact a2G b1 hn b2 rfl (r:=([y.a,3],[(o4 m y.a [7,8]).1.elem],(o4 m y.a [7,8]).2)) ⟨S7,g3,g4⟩
 rw[I6]
 refine⟨fun h42=> ?_,fun h42=> ?_⟩
 ·simp only[E2,oD,Nat.zero_add,lf]
  have em:U1 y m=([y.a,3,(o4 m y.a [7,8]).1.elem],[],(o4 m y.a [7,8]).2):=by
   unfold U1
   rw[if_neg h36,if_neg h39,if_neg h40,if_neg h44,if_neg h45,if_neg h41,if_pos h42]
  rw[em]
  exact d6v (r:=([y.a,3,(o4 m y.a [7,8]).1.elem],[],(o4 m y.a [7,8]).2)) b1 hn b2 rfl
 ·have em:U1 y m=([y.a],[3],(o4 m y.a [7,8]).2):=by
   unfold U1
   rw[if_neg h36,if_neg h39,if_neg h40,if_neg h44,if_neg h45,if_neg h41,if_neg h42]
  rw[em]
  exact d6w (r:=([y.a],[3],(o4 m y.a [7,8]).2)) b1 hn b2
theorem c9d{y:In}{m:Mo}(hy:y.Ok)(hm:m.Fits)(hb:y.op=37∨y.op=38→0≤y.b){S:b8}:j8 Tryz.prog E w0 b5i [inD y,moD m] S (EfQ S (U1 y m)):=by
 refine c4W ?_
 unfold c4d
 rw[inD,U9,oD]
 intro k a n
 rw[moD,U9,oD]
 intro k2 a2 n2
 obtain⟨ne2,n2'⟩:=b8.fresh n2
 intro k4 a4 n4
 obtain⟨ne4,n4'⟩:=b8.fresh n4
 obtain⟨ne4',n4''⟩:=b8.fresh n4'
 generalize hS3:((S.set k _).set k2 _).set k4 _=S3
 have h4:S3 k4=some ⟨3,[[.nilSlc, .nilSlc, .bool false]],a4⟩:=by rw[←hS3];exact b8.set_same _ _ _
 have h2:S3 k2=some ⟨3,[M3 m],a2⟩:=by rw[←hS3,b8.set_ne _ _ _ (Ne.symm ne4)];exact b8.set_same _ _ _
 have h0:S3 k=some ⟨4,[P8 y],a⟩:=by rw[←hS3,b8.set_ne _ _ _ (Ne.symm ne4'),b8.set_ne _ _ _ (Ne.symm ne2)];exact b8.set_same _ _ _
 have hle:S.le S3:=by rw[←hS3];exact b8.le_set (b8.le_set (b8.le_new n) n2') n4''
 have l0:c9 S3 (.ptr k 0)=some (.int .u8 y.op):=by rw[ldP h0];rfl
 have l1:c9 S3 (.ptr k 1)=some (.int .i64 y.a):=by rw[ldP h0];rfl
 simp only[E2,Nat.zero_add]
 rw[oD,l1,oD,oD,l0,oD]
 exact orC (C:=fun b=>a0E E w0 _ _ _ _ _ _ b S3) (d0n hy hm hb hle h0 h2 n4'' h4) fun h=>orC h fun h=>tEq h
end
end
end Go.Proofs.YtdkidgkiplcggaaGreat.d
end
