/- A part of the proof of ImageWrites. -/
import Derived.Test.YtchnpgddpaonhaaGreatWaw
import Derived.Test.YtchnpgddpaonhaaGreatWas
set_option linter.unusedVariables false
set_option linter.unusedSimpArgs false
set_option maxRecDepth 100000
section
open Go.Proofs Go Go.Am Go.Op
namespace Go.Proofs.YtchnpgddpaonhaaGreat.d
section
def b9z(m:Mo)(n:Int):Option Ty:=if 16≤n then m.types[(n - 16).toNat]? else none
def d2F:Ty:=⟨0,[],[],0,0⟩
def p9(m:Mo)(n:Int)(ks:List Int):Ty×Bool:=match b9z m n with
 |some t=>(t,ks.contains t.kind)
 |none=>(d2F,false)
def P3(m:Mo)(n:Int)(ks:List Int):D:= .tup [.agg (B9 (p9 m n ks).1), .bool (p9 m n ks).2]
theorem d1I(b:Bool):Wk (.tup [.agg [.int .u8 0, .str [], .nilSlc, .int .i64 0, .int .i64 0], .bool b]) (.tup [.agg (B9 d2F), .bool b]):=
 Wk.tup ⟨Wk.agg ⟨Wk.refl _,Wk.refl _,Wk.nil _,Wk.refl _,Wk.refl _,trivial⟩,Wk.refl _,trivial⟩
def Own(S0:b9)(d:D)(l:List Int)(S:b9):Prop:=
 (d= .nilSlc∧l=[]∧S=S0)∨∃k acs ex,S0 k=Option.none∧d= .raw k 0 l.length l.length ex 1∧S=S0.set k ⟨1,iC l,acs⟩
theorem Own.le{S0 S:b9}{d:D}{l:List Int}(h:Own S0 d l S):S0.le S:=by
 rcases h with ⟨_,_,rfl⟩|⟨k,acs,ex,h,_,rfl⟩
 ·exact b9.le_refl _
 ·exact b9.le_new h
theorem Own.nil(S:b9):Own S .nilSlc [] S:= .inl ⟨rfl,rfl,rfl⟩
theorem Own.cells{S0 S:b9}{d:D}{l:List Int}(h:Own S0 d l S):q6 d=some [d]:=by rcases h with ⟨rfl,_⟩|⟨_,_,_,_,rfl,_⟩<;>rfl
theorem Own.of_grw{S0 S:b9}{t:D}{l:List Int}(h:Grw S0 t (iC l) 1 S):Own S0 t l S:=by
 rcases h with ⟨rfl,e,rfl⟩|⟨k,acs,h,rfl,rfl⟩
 ·refine .inl ⟨rfl, ?_,rfl⟩
  cases l with
  |nil=>rfl
  |cons a l=>simp[iC,y9]at e
 ·exact .inr ⟨k,acs,false,h,by simp,rfl⟩
theorem Own.base{S0 S1 S:b9}{d:D}{l:List Int}(h:Own S1 d l S)(hle:S0.le S1):∃S',S'.le S∧Own S0 d l S':=by
 rcases h with ⟨rfl,rfl,rfl⟩|⟨k,acs,ex,h,rfl,rfl⟩
 ·exact⟨S0,hle, .inl ⟨rfl,rfl,rfl⟩⟩
 ·have hk:S0 k=Option.none:=by
   cases e:S0 k with
   |none=>rfl
   |some o=>rw[hle _ _ e]at h;cases h
  refine⟨S0.set k ⟨1,iC l,acs⟩,fun j o e=> ?_, .inr ⟨k,acs,ex,hk,rfl,rfl⟩⟩
  unfold b9.set at e ⊢
  split at e
  ·rename_i hj;rw[if_pos hj];exact e
  ·rename_i hj;rw[if_neg hj];exact hle _ _ e
theorem Own.upd{S0 S:b9}{d:D}{l:List Int}{k:Nat}{o o':K8}(h:Own S0 d l S)(hk:S0 k=some o'):Own (S0.set k o) d l (S.set k o):=by
 rcases h with ⟨rfl,rfl,rfl⟩|⟨j,acs,ex,h,rfl,rfl⟩
 ·exact .inl ⟨rfl,rfl,rfl⟩
 ·have hne:j≠k:=fun e=>by rw[e,hk]at h;cases h
  refine .inr ⟨j,acs,ex, ?_,rfl,b9.set_comm _ hne _ _⟩
  rw[b9.set_ne _ _ _ hne];exact h
def Two(S0:b9)(c:D)(lc:List Int)(d:D)(ld:List Int)(S:b9):Prop:=∃S1,Own S0 c lc S1∧Own S1 d ld S
theorem Two.base{S0 S1 S:b9}{c d:D}{lc ld:List Int}(h:Two S1 c lc d ld S)(hle:S0.le S1):∃S',S'.le S∧Two S0 c lc d ld S':=by
 obtain⟨S2,h1,h2⟩:=h
 obtain⟨S2',l2,g1⟩:=h1.base hle
 obtain⟨S',l3,g2⟩:=h2.base l2
 exact⟨S',l3,S2',g1,g2⟩
theorem Two.upd{S0 S:b9}{c d:D}{lc ld:List Int}{k:Nat}{o o':K8}(h:Two S0 c lc d ld S)(hk:S0 k=some o'):Two (S0.set k o) c lc d ld (S.set k o):=by
 obtain⟨S2,h1,h2⟩:=h
 exact⟨S2.set k o,h1.upd hk,h2.upd (h1.le _ _ hk)⟩
theorem Two.le{S0 S:b9}{c d:D}{lc ld:List Int}(h:Two S0 c lc d ld S):S0.le S:=by
 obtain⟨S2,h1,h2⟩:=h
 exact b9.le_trans h1.le h2.le
theorem D9{S:b9}{l:List Int}{K:D→b9→Prop}(h:∀d S',Own S d l S'→K d S'):q7 S 1 (some (iC l)) l.length K:=
 d2v fun k acs hk=>h _ _ (.inr ⟨k,acs,true,hk,by simp,rfl⟩)
def efD(c d:D)(ok:Bool):D:= .agg [c,d, .bool ok]
section
variable{E:j6}{w0:World}
theorem D7{d:D}(hd:q6 d=some [d]):L1 Tryz.prog E w0 r8 [d] (efD d .nilSlc true):=fun x S=>by
 refine d4Q ?_
 unfold d3N
 intro k a n
 have h:B8 (s5 [.nilSlc, .nilSlc,(.bool false)] [(0,1,d),(2,1,(.bool true))])=some (efD d .nilSlc true):=by
  simp[s5,hd,efD,o0,B8]
 rw[h,oD]
 refine stP (ds:=[d, .nilSlc, .bool true]) (b9.set_same _ _ _) (J5 _) ⟨rfl,by decide,by simp⟩ fun a2=> ?_
 rw[b9.set_set,laP (b9.set_same _ _ _) (by simp[o0]),oD]
 exact i9.less (b9.le_new n) i9.pure
theorem A2{a b c d:D}(hd:q6 d=some [d]):L1 Tryz.prog E w0 m6 [.agg [a,b,c],d] (.agg [a,d,c]):=fun x S=>by
 refine b4M ?_
 unfold a7X
 rw[J5,oD]
 intro k a1 n
 intro k2 a2 n2
 obtain⟨ne,n2'⟩:=b9.fresh n2
 rw[u5,oD]
 refine stP (ds:=[d]) (by rw[b9.set_ne _ _ _ (Ne.symm ne)];exact b9.set_same _ _ _) hd ⟨rfl,by decide,by simp⟩ fun a3=> ?_
 rw[laP (b9.set_same _ _ _) (by simp[o0]),oD]
 refine stP (ds:=[a,d,c]) (by rw[b9.set_ne _ _ _ ne];exact b9.set_same _ _ _) (J5 _) ⟨rfl,by decide,by simp⟩ fun a4=> ?_
 rw[laP (b9.set_same _ _ _) (by simp[o0]),oD]
 refine i9.less (b9.le_set (b9.le_set (b9.le_set (b9.le_new n) n2') n) n2') ?_
 exact i9.pure
theorem I5{a b c d:D}(hd:q6 d=some [d]):L1 Tryz.prog E w0 r0 [.agg [a,b,c],d] (.agg [a,b,d]):=fun x S=>by
 refine b4X ?_
 unfold a8n
 rw[J5,oD]
 intro k a1 n
 intro k2 a2 n2
 obtain⟨ne,n2'⟩:=b9.fresh n2
 rw[u5,oD]
 refine stP (ds:=[d]) (by rw[b9.set_ne _ _ _ (Ne.symm ne)];exact b9.set_same _ _ _) hd ⟨rfl,by decide,by simp⟩ fun a3=> ?_
 rw[laP (b9.set_same _ _ _) (by simp[o0]),oD]
 refine stP (ds:=[a,b,d]) (by rw[b9.set_ne _ _ _ ne];exact b9.set_same _ _ _) (J5 _) ⟨rfl,by decide,by simp⟩ fun a4=> ?_
 rw[laP (b9.set_same _ _ _) (by simp[o0]),oD]
 refine i9.less (b9.le_set (b9.le_set (b9.le_set (b9.le_new n) n2') n) n2') ?_
 exact i9.pure
theorem c8W{l:List Int}{v:Int}(hl:l.length<2^60):L1 Tryz.prog E w0 Z8 [bD l, .int .u8 v] (.bool (l.contains v)):=fun x S=>by
 refine a9J ?_
 unfold a3D
 have key:o9 Tryz.prog E w0 x a1P [bD l, .int .u8 v] S fun d S'=>S'=S∧∃n:Int,d= .int .i64 n∧decide (n≥0)=l.contains v:=by
  refine b2j ?_
  unfold a6l
  rw[I8,oD]
  refine a9X (I:=fun n x0 x1 x7 x8 S'=>S=S'∧x0=bD l∧x1= .int .u8 v∧x7= .int .i64 (l.length:Int)∧∃i:Nat,x8= .int .i64 (i:Int)∧i+n=l.length∧v ∉ l.take i) ?_ (n:=l.length) ⟨rfl,rfl,rfl,rfl,0,rfl,by omega,by simp⟩
  rintro n _ _ _ _ _ ⟨rfl,rfl,rfl,rfl,i,rfl,hi,hn⟩
  unfold a0m
  rw[A5,oD,B3]
  refine⟨fun hlt=> ?_,fun hge=> ?_⟩
  ·have hlt:i<l.length:=by omega
   have ea:l[i]? =some l[i]:=List.getElem?_eq_getElem hlt
   rw[c4I ea,oD,lsE,List.getElem?_cons_zero,oD,Y4,oD,a7l,B3]
   refine⟨fun e=>i9.here ⟨rfl,i,rfl, ?_⟩,fun e=> ?_⟩
   ·rw[decide_eq_true (by omega)]
    symm
    rw[List.contains_iff_mem,e]
    exact List.getElem_mem _
   ·rw[s8,oD,j8 (by omega) (by omega)]
    refine⟨n - 1,by omega,rfl,rfl,rfl,rfl,i+1,rfl,by omega, ?_⟩
    rw[List.take_add_one,ea,Option.toList_some,List.mem_append,List.mem_singleton]
    exact fun h=>h.elim hn e
  ·rw[List.take_of_length_le (by omega)]at hn
   refine i9.here ⟨rfl, -1,rfl, ?_⟩
   rw[decide_eq_false (by omega)]
   symm
   rw[←Bool.not_eq_true,List.contains_iff_mem]
   exact hn
 refine key.use ?_
 rintro d S' ⟨rfl,n,rfl,h⟩
 rw[a3H,oD,h]
 exact i9.pure
theorem d1g{m:Mo}{n:Int}{t:Ty}(h:b9z m n=some t):16≤n∧m.types[(n - 16).toNat]? =some t∧(n - 16).toNat<m.types.length:=by
 unfold b9z at h
 split at h
 ·rename_i h16
  exact⟨h16,h,(List.getElem?_eq_some_iff.1 h).1⟩
 ·cases h
theorem a1U{m:Mo}(hm:m.Ok){n:Int}(hn:I64 n){ks:List Int}(hk:ks.length<2^60):L1 Tryz.prog E w0 a0k [Z0 m, .int .i64 n,bD ks] (P3 m n ks):=fun x S=>by
 obtain⟨hn1,hn2⟩:=hn
 refine c8j ?_
 unfold c4Q
 rw[Z0,J5,oD]
 intro k a n1
 intro k2 a2 n2
 obtain⟨ne2,n2'⟩:=b9.fresh n2
 generalize hS3:(S.set k _).set k2 _=S3
 have h2:S3 k2=some ⟨5,[[.int .u8 0, .str [], .nilSlc, .int .i64 0, .int .i64 0]],a2⟩:=by rw[←hS3];exact b9.set_same _ _ _
 have h0:S3 k=some ⟨3,[F8 m],a⟩:=by rw[←hS3,b9.set_ne _ _ _ (Ne.symm ne2)];exact b9.set_same _ _ _
 have hle:S.le S3:=by rw[←hS3];exact b9.le_set (b9.le_new n1) n2'
 obtain⟨xa0,xa1,xa2⟩:=b9N m
 have:=hm.types
 have bad:b9z m n=none→i9 E (fun d' S'=>d'=P3 m n ks∧S'=S) (.tup [.agg [.int .u8 0, .str [], .nilSlc, .int .i64 0, .int .i64 0], .bool false]) S3:=fun h=>by
  refine i9.less hle (i9.weak (d1I false) (i9.here ⟨?_,rfl⟩))
  simp only[P3,p9,h]
 have bad':b9z m n=none→b7 (B8 (s5 [(.int .u8 0),(.str []), .nilSlc,(.int .i64 0),(.int .i64 0)] [])) fun v12=>j7 S3 5 (.ptr k2 0) v12 fun v13 S14=>b7 (j2 S14 5 (.ptr k2 0)) fun v15=>i9 E (fun d' S'=>d'=P3 m n ks∧S'=S) (.tup [v15,(.bool false)]) S14:=fun h=>by
  rw[fiN,agS,oD]
  refine stP (ds:=[.int .u8 0, .str [], .nilSlc, .int .i64 0, .int .i64 0]) h2 (J5 _) ⟨rfl,by decide,by simp⟩ fun a5=> ?_
  rw[laP (b9.set_same _ _ _) (by simp[o0]),oD]
  refine i9.less (S':=S) ?_ (i9.weak (d1I false) (i9.here ⟨?_,rfl⟩))
  ·exact b9.le_set hle n2'
  ·simp only[P3,p9,h]
 rw[A5,oD]
 by_cases c1:n<16
 ·rw[decide_eq_true c1]
  simp only[C5,t1,vdF,oD,C3,if_true,cdT]
  exact bad' (by unfold b9z;rw[if_neg (by omega)])
 rw[decide_eq_false c1]
 simp only[C5,t2,P7,oD,a4S,u5,Nat.zero_add,D5 h0,xa0,G6,a3H,C3,Bool.false_eq_true,if_false]
 rw[j8 (by omega) (by omega),B3]
 refine⟨fun h=>bad' ?_,fun h=> ?_⟩
 ·unfold b9z
  rw[if_pos (by omega),List.getElem?_eq_none (by omega)]
 obtain⟨i,hi⟩:∃i:Nat,i=(n - 16).toNat:=⟨_,rfl⟩
 have hi':n - 16=(i:Int):=by omega
 have hlt:i<m.types.length:=by omega
 obtain⟨t,ht⟩:∃t,t=m.types[i]:=⟨_,rfl⟩
 have ea:m.types[i]? =some t:=by rw[List.getElem?_eq_getElem hlt,ht]
 have e:b9z m n=some t:=by unfold b9z;rw[if_pos (by omega), ←hi];exact ea
 rw[hi',a0l ea,oD,d0l,oD]
 intro k5 a5 n5
 refine stP (ds:=B9 t) (b9.set_same _ _ _) (J5 _) ⟨rfl,by decide,by simp[B9]⟩ fun a6=> ?_
 rw[b9.set_set,show o0 [D.int .u8 0, .str [], .nilSlc, .int .i64 0, .int .i64 0] 0 (B9 t)=B9 t from rfl]
 have ne5:k2≠k5:=fun e=>by rw[←e,h2]at n5;cases n5
 rw[laP (b9.set_same _ _ _) (by simp[B9]),oD]
 refine⟨by trivial, ?_⟩
 rw[u5,oD,D5 (b9.set_same _ _ _),show(B9 t)[0+0]? =some (.int .u8 t.kind) from rfl,oD]
 refine⟨by trivial,(c8W hk).useX ⟨⟨rfl,trivial⟩, ?_⟩⟩
 refine stP (ds:=B9 t) (by rw[b9.set_ne _ _ _ ne5];exact h2) (J5 _) ⟨rfl,by decide,by simp[B9]⟩ fun a7=>⟨by trivial, ?_⟩
 rw[laP (b9.set_same _ _ _) (by simp[o0,B9]),oD]
 have e2:P3 m n ks= .tup [.agg (B9 t), .bool (ks.contains t.kind)]:=by simp only[P3,p9,e]
 refine i9.less (S':=S) (b9.le_set ?_ n2') ?_
 ·have z5:S k5=none:=by
   cases e:S k5 with
   |none=>rfl
   |some o=>rw[hle _ _ e]at n5;cases n5
  exact b9.le_set hle z5
 ·rw[e2]
  exact i9.pure
end
end
section
section
variable{E:j6}{w0:World}
theorem d9j{n:Int}(hn:I64 n):(16≤n∧IntKind.i64.wrap (n - 16)=n - 16)∨(n<16∧(IntKind.i64.wrap (n - 16)<0∨2^62≤IntKind.i64.wrap (n - 16))):=by
 obtain⟨h1,h2⟩:=hn
 have iw:∀z:Int,IntKind.i64.wrap z=if 9223372036854775808≤z % 18446744073709551616 then z % 18446744073709551616 - 18446744073709551616 else z % 18446744073709551616:=by
  intro z
  simp only[IntKind.wrap,IntKind.bits,IntKind.signed];simp
 rw[iw]
 split<;>omega
theorem Z3{m:Mo}(hm:m.Ok){n:Int}(hn:I64 n){ka kb:Int}:L1 Tryz.prog E w0 R6 [Z0 m, .int .i64 n, .int .u8 ka, .int .u8 kb] (P3 m n [ka,kb]):=fun x S=>by
 refine c3D ?_
 unfold b8J
 rw[Z0,J5,oD]
 intro k a n1
 intro k2 a2 n2
 obtain⟨ne2,n2'⟩:=b9.fresh n2
 generalize hS3:(S.set k _).set k2 _=S3
 have h2:S3 k2=some ⟨5,[[.int .u8 0, .str [], .nilSlc, .int .i64 0, .int .i64 0]],a2⟩:=by rw[←hS3];exact b9.set_same _ _ _
 have h0:S3 k=some ⟨3,[F8 m],a⟩:=by rw[←hS3,b9.set_ne _ _ _ (Ne.symm ne2)];exact b9.set_same _ _ _
 have hle:S.le S3:=by rw[←hS3];exact b9.le_set (b9.le_new n1) n2'
 obtain⟨xa0,xa1,xa2⟩:=b9N m
 have:=hm.types
 have bad':b9z m n=none→b7 (B8 (s5 [(.int .u8 0),(.str []), .nilSlc,(.int .i64 0),(.int .i64 0)] [])) fun v12=>j7 S3 5 (.ptr k2 0) v12 fun v13 S14=>b7 (j2 S14 5 (.ptr k2 0)) fun v15=>i9 E (fun d' S'=>d'=P3 m n [ka,kb]∧S'=S) (.tup [v15,(.bool false)]) S14:=fun h=>by
  rw[fiN,agS,oD]
  refine stP (ds:=[.int .u8 0, .str [], .nilSlc, .int .i64 0, .int .i64 0]) h2 (J5 _) ⟨rfl,by decide,by simp⟩ fun a5=> ?_
  rw[laP (b9.set_same _ _ _) (by simp[o0]),oD]
  refine i9.less (S':=S) ?_ (i9.weak (d1I false) (i9.here ⟨?_,rfl⟩))
  ·exact b9.le_set hle n2'
  ·simp only[P3,p9,h]
 have none1:n<16→b9z m n=none:=fun h=>by unfold b9z;rw[if_neg (by omega)]
 rw[a4S,oD,A5,oD]
 rcases d9j hn with ⟨h16,hw⟩|⟨h16,hw⟩
 ·rw[hw,decide_eq_false (by omega)]
  simp only[C5,t2,P7,oD,u5,Nat.zero_add,D5 h0,xa0,G6,a3H,C3,Bool.false_eq_true,if_false]
  rw[B3]
  refine⟨fun h=>bad' ?_,fun h=> ?_⟩
  ·unfold b9z
   rw[if_pos (by omega),List.getElem?_eq_none (by omega)]
  obtain⟨i,hi⟩:∃i:Nat,i=(n - 16).toNat:=⟨_,rfl⟩
  have hi':n - 16=(i:Int):=by omega
  have hlt:i<m.types.length:=by omega
  obtain⟨t,ht⟩:∃t,t=m.types[i]:=⟨_,rfl⟩
  have ea:m.types[i]? =some t:=by rw[List.getElem?_eq_getElem hlt,ht]
  have e:b9z m n=some t:=by unfold b9z;rw[if_pos (by omega), ←hi];exact ea
  rw[hi',a0l ea,oD,d0l,oD]
  intro k5 a5 n5
  refine stP (ds:=B9 t) (b9.set_same _ _ _) (J5 _) ⟨rfl,by decide,by simp[B9]⟩ fun a6=> ?_
  rw[b9.set_set,show o0 [D.int .u8 0, .str [], .nilSlc, .int .i64 0, .int .i64 0] 0 (B9 t)=B9 t from rfl]
  have ne5:k2≠k5:=fun e=>by rw[←e,h2]at n5;cases n5
  rw[laP (b9.set_same _ _ _) (by simp[B9]),oD]
  refine⟨by trivial, ?_⟩
  rw[u5,oD,D5 (b9.set_same _ _ _),show(B9 t)[0+0]? =some (.int .u8 t.kind) from rfl,oD]
  refine⟨by trivial, ?_⟩
  rw[Y4,oD]
  have z5:S k5=none:=by
   cases e:S k5 with
   |none=>rfl
   |some o=>rw[hle _ _ e]at n5;cases n5
  have e2:P3 m n [ka,kb]= .tup [.agg (B9 t), .bool (t.kind==ka||t.kind==kb)]:=by
   simp only[P3,p9,e,List.contains_cons,List.contains_nil,Bool.or_false]
  have fin:∀(S5:b9) (c:Bool),c=(t.kind==ka||t.kind==kb)→S.le S5→i9 E (fun d' S'=>d'=P3 m n [ka,kb]∧S'=S) (.tup [.agg (B9 t), .bool c]) S5:=fun S5 c h l=>by
   rw[e2, ←h]
   exact i9.less l i9.pure
  by_cases c1:t.kind=ka
  ·rw[show(t.kind==ka)=true by simp[c1]]
   simp only[C5,t1,vdF,oD,C3,if_true]
   refine⟨by trivial, ?_⟩
   refine stP (ds:=B9 t) (by rw[b9.set_ne _ _ _ ne5];exact h2) (J5 _) ⟨rfl,by decide,by simp[B9]⟩ fun a7=>⟨⟨trivial,trivial⟩, ?_⟩
   rw[laP (b9.set_same _ _ _) (by simp[o0,B9]),oD]
   exact fin _ true (by simp[c1]) (b9.le_set (b9.le_set hle z5) n2')
  ·rw[show(t.kind==ka)=false by simp[c1]]
   simp only[C5,t2,P7,oD,D5 (b9.set_same _ _ _),show(B9 t)[0]? =some (.int .u8 t.kind) from rfl,Y4,C3,Bool.false_eq_true,if_false]
   refine⟨by trivial, ?_⟩
   refine stP (ds:=B9 t) (by rw[b9.set_ne _ _ _ ne5];exact h2) (J5 _) ⟨rfl,by decide,by simp[B9]⟩ fun a7=>⟨⟨?_,trivial⟩, ?_⟩
   ·rw[fwP]
    exact b9.set_ne _ _ _ (Ne.symm ne5)
   rw[laP (b9.set_same _ _ _) (by simp[o0,B9]),oD]
   exact fin _ _ (by simp[c1]) (b9.le_set (b9.le_set hle z5) n2')
 ·rcases hw with hw|hw
  ·rw[decide_eq_true hw]
   simp only[C5,t1,vdF,oD,C3,if_true,cdT]
   exact bad' (none1 h16)
  ·rw[decide_eq_false (by omega)]
   simp only[C5,t2,P7,oD,u5,Nat.zero_add,D5 h0,xa0,G6,a3H,C3,Bool.false_eq_true,if_false]
   rw[decide_eq_true (by omega),cdT]
   exact bad' (none1 h16)
end
end
section
def H3(y:In)(m:Mo):List Int×List Int×Bool:=
 if y.op=36∨y.op=37∨y.op=38 then
  let t:=p9 m y.a [6]
  if y.op=36 then(t.1.fields.map (·.2),[y.a],t.2)
  else match (if t.2 then t.1.fields[y.b.toNat]? else none) with
   |some f=>if y.op=37 then([y.a],[f.2],true) else([y.a,f.2],[],true)
   |none=>([],[],false)
 else if y.op=39 then([(p9 m y.a [7]).1.elem],[y.a],(p9 m y.a [7]).2)
 else if y.op=40 then([],[y.a],(p9 m y.a [8]).2)
 else if y.op=44 then([y.a,(p9 m y.a [8]).1.elem],[],(p9 m y.a [8]).2)
 else if y.op=45 then([y.a],[(p9 m y.a [8]).1.elem],(p9 m y.a [8]).2)
 else if y.op=41 then([y.a,3],[(p9 m y.a [7,8]).1.elem],(p9 m y.a [7,8]).2)
 else if y.op=42 then([y.a,3,(p9 m y.a [7,8]).1.elem],[],(p9 m y.a [7,8]).2)
 else([y.a],[3],(p9 m y.a [7,8]).2)
theorem c8d(m:Mo)(n k:Int):p9 m n [k,k]=p9 m n [k]:=by
 unfold p9
 split<;>simp
theorem b4j{S:b9}{t:Ty}{K:D→b9→Prop}(h:∀k a,S k=none→K (.ptr k 0) (S.set k ⟨5,[B9 t],a⟩)):m8 S [(.int .u8 0),(.str []), .nilSlc,(.int .i64 0),(.int .i64 0)] fun v S1=>j7 S1 5 v (.agg (B9 t)) fun _ S2=>K v S2:=by
 intro k a n
 refine stP (ds:=B9 t) (b9.set_same _ _ _) (J5 _) ⟨rfl,by decide,by simp[B9]⟩ fun a2=> ?_
 rw[b9.set_set]
 exact h k a2 n
def tkD(r:List Int×List Int×Bool):D:= .tup [iD r.1,iD r.2.1, .bool r.2.2]
theorem c5P:Wk .nilSlc (iD []):=Wk.nil 1
theorem li1{S:b9}{a:Int}{K:D→b9→Prop}(h:K (iD [a]) S):q7 S 1 (m9 1 (List.replicate 1 [(.int .i64 0)]) [(0, .int .i64 a)]) 1 K:=F5 (rows:=iC [a]) rfl h
theorem li2{S:b9}{a b:Int}{K:D→b9→Prop}(h:K (iD [a,b]) S):q7 S 1 (m9 1 (List.replicate 2 [(.int .i64 0)]) [(0, .int .i64 a),(1, .int .i64 b)]) 2 K:=F5 (rows:=iC [a,b]) rfl h
theorem li3{S:b9}{a b c:Int}{K:D→b9→Prop}(h:K (iD [a,b,c]) S):q7 S 1 (m9 1 (List.replicate 3 [(.int .i64 0)]) [(0, .int .i64 a),(1, .int .i64 b),(2, .int .i64 c)]) 3 K:=F5 (rows:=iC [a,b,c]) rfl h
theorem b6c(t:Ty):(B9 t)[2]? =some (O9 t.fields)∧(B9 t)[3]? =some (.int .i64 t.elem):=⟨rfl,rfl⟩
theorem d5I(y:In):(J2 y)[0]? =some (.int .u8 y.op)∧(J2 y)[1]? =some (.int .i64 y.a)∧(J2 y)[2]? =some (.int .i64 y.b)∧(J2 y)[3]? =some (a7v y.arms):=⟨rfl,rfl,rfl,rfl⟩
section
variable{E:j6}{w0:World}
theorem c4j{y:In}{m:Mo}(hy:y.Ok)(hm:m.Fits)(hb:y.op=37∨y.op=38→0≤y.b){S0 S:b9}(hle:S0.le S){k k2:Nat}{a a2:List AV}(h0:S k=some ⟨4,[J2 y],a⟩)(h2:S k2=some ⟨3,[F8 m],a2⟩):
  a0L E w0 false (i9 E fun d' S'=>d'=tkD (H3 y m)∧S'=S0) (.ptr k 0) (.ptr k2 0) (.int .i64 y.a) (.int .u8 y.op) (.bool (decide (y.op=36∨y.op=37∨y.op=38))) S:=by
 refine b9D ?_
 unfold b4m
 obtain⟨xi0,xi1,xi2,xi3⟩:=d5I y
 have hok:=hm.ok
 have ha:=hy.a
 have lm:j2 S 3 (.ptr k2 0)=some (Z0 m):=by rw[laP h2 (by simp[F8])];rfl
 have fin:∀(S5:b9) (r:List Int×List Int×Bool),S.le S5→r=H3 y m→i9 E (fun d' S'=>d'=tkD (H3 y m)∧S'=S0) (.tup [iD r.1,iD r.2.1, .bool r.2.2]) S5:=fun S5 r l e=>by
  rw[←e]
  exact i9.less (b9.le_trans hle l) i9.pure
 rw[B3]
 refine⟨fun h36=> ?_,fun h36=> ?_⟩
 ·rw[lm,oD,u5,oD,D5 h0,show(J2 y)[0+1]? =some (.int .i64 y.a) from rfl,oD]
  refine(Z3 hok ha).use ?_
  obtain⟨t,ok,ht⟩:∃t ok,p9 m y.a [6]=(t,ok):=⟨_,_,rfl⟩
  simp only[P3,c8d,ht,exD,List.getElem?_cons_zero,List.getElem?_cons_succ,oD]
  refine b4j fun k5 a5 n5=> ?_
  have n1:k≠k5:=fun e=>by rw[←e,h0]at n5;cases n5
  have h0':(S.set k5 ⟨5,[B9 t],a5⟩) k=some ⟨4,[J2 y],a⟩:=by rw[b9.set_ne _ _ _ n1];exact h0
  have h5:(S.set k5 ⟨5,[B9 t],a5⟩) k5=some ⟨5,[B9 t],a5⟩:=b9.set_same _ _ _
  have l5:S.le (S.set k5 ⟨5,[B9 t],a5⟩):=b9.le_new n5
  have hfl:t.fields.length<2^30:=by
   unfold p9 at ht
   split at ht
   ·rename_i t' e
    obtain⟨_,e1,e2⟩:=d1g e
    have:t'=t:=(Prod.ext_iff.1 ht).1
    rw[←this]
    exact hm.fields _ (List.mem_of_getElem? e1)
   ·have:d2F=t:=(Prod.ext_iff.1 ht).1
    rw[←this];decide
  generalize S.set k5 ⟨5,[B9 t],a5⟩=S5 at h0' h5 l5 ⊢
  have bad:∀S',S5.le S'→([],[],false)=H3 y m→i9 E (fun d' S'=>d'=tkD (H3 y m)∧S'=S0) (.tup [.nilSlc, .nilSlc, .bool false]) S':=fun S' l e=>
   i9.weak (Wk.tup (es:=[iD [],iD [], .bool false]) ⟨c5P,c5P,Wk.refl _,trivial⟩) (fin _ (_,_,_) (b9.le_trans l5 l) e)
  refine c0h (I:=fun n x2 x7 x8 x9 x10 x11 S'=>x2= .ptr k 0∧x7= .int .i64 y.a∧x8= .ptr k5 0∧x9= .bool ok∧∃i:Nat,x11= .int .i64 (i:Int)∧i+n=t.fields.length∧Grw S5 x10 (iC ((t.fields.take i).map (·.2))) 1 S') ?_ (n:=t.fields.length) ⟨rfl,rfl,rfl,rfl,0,rfl,by omega,Grw.nil _ _⟩
  rintro n _ _ _ _ x10 _ S6 ⟨rfl,rfl,rfl,rfl,i,rfl,hi,g⟩
  have g0:=g.le _ _ h0'
  have g5:=g.le _ _ h5
  unfold a7U
  simp only[u5,oD,D5 g5,Nat.zero_add,(b6c _).1,B0,A5]
  rw[B3]
  refine⟨fun hlt=> ?_,fun hge=> ?_⟩
  ·have hlt:i<t.fields.length:=by omega
   obtain⟨f,hf⟩:∃f,f=t.fields[i]:=⟨_,rfl⟩
   have ea:t.fields[i]? =some f:=by rw[List.getElem?_eq_getElem hlt,hf]
   simp only[V2 ea,oD,ofE,lsE,Nat.zero_add,show(O1 f)[1]? =some (.int .i64 f.2) from rfl]
   refine li1 (g.push (news:=iC [f.2]) (c1Q _ _) (by simp;omega) fun t' S' g'=> ?_)
   rw[s8,oD,j8 (by omega) (by omega)]
   refine⟨n - 1,by omega,by trivial,by trivial,by trivial,by trivial,i+1,rfl,by omega, ?_⟩
   rw[List.take_add_one,ea,Option.toList_some,List.map_append,a3y]
   exact g'
  have hi:i=t.fields.length:=by omega
  subst hi
  rw[List.take_length]at g
  simp only[D5 g0,xi0,oD,Y4]
  rw[a7l,B3]
  refine⟨fun e36=>li1 ?_,fun e36=> ?_⟩
  ·refine g.finT (lp:=[]) (lq:=[iD [y.a], .bool ok]) ?_
   refine fin _ (t.fields.map (·.2),[y.a],ok) l5 ?_
   unfold H3
   rw[if_pos h36]
   simp only[ht,if_pos e36]
  have hm36:H3 y m=match (if ok then t.fields[y.b.toNat]? else none) with
   |some f=>if y.op=37 then([y.a],[f.2],true) else([y.a,f.2],[],true)
   |none=>([],[],false):=by
   unfold H3
   rw[if_pos h36]
   simp only[ht,if_neg e36]
  rw[unN,oD]
  cases ok with
  |false=>
   simp only[Bool.not_false,C5,t1,vdF,oD,C3,if_true,cdT]
   exact bad _ g.le (by rw[hm36];rfl)
  |true=>
   simp only[Bool.not_true,C5,t2,P7,oD,D5 g0,xi2,g.len,a3H,C3,Bool.false_eq_true,if_false]
   have hbn:0≤y.b:=hb (by omega)
   rw[B3]
   refine⟨fun hbig=>bad _ g.le ?_,fun hsm=> ?_⟩
   ·rw[hm36,if_pos rfl,List.getElem?_eq_none (by simp at hbig;omega)]
   have hsm:y.b.toNat<t.fields.length:=by simp at hsm;omega
   obtain⟨j,hj⟩:∃j:Nat,j=y.b.toNat:=⟨_,rfl⟩
   have hj':y.b=(j:Int):=by omega
   rw[←hj]at hsm hm36
   obtain⟨f,hf⟩:∃f,f=t.fields[j]:=⟨_,rfl⟩
   have ea:t.fields[j]? =some f:=by rw[List.getElem?_eq_getElem hsm,hf]
   rw[if_pos rfl,ea]at hm36
   simp only at hm36
   obtain⟨p,hp1,hp2,hp3⟩:∃p,p6 1 x10 (.int .i64 (j:Int))=some p∧b8 S6 p=some (.int .i64 f.2)∧p7 p S6 S6:=by
    rcases g with ⟨_,e,_⟩|⟨kk,acs,_,rfl,rfl⟩
    ·have:=congrArg List.length e
     simp at this
     rw[this]at hsm;simp at hsm
    ·refine⟨_,e0Q (by simp;omega), ?_,rfl⟩
     rw[Nat.zero_add,ldR (row:=[.int .i64 f.2]) (b9.set_same _ _ _) (e0B (by rw[List.getElem?_map,ea];rfl))]
     rfl
   rw[a7l,B3]
   refine⟨fun e37=> ?_,fun e37=> ?_⟩
   ·rw[if_pos e37]at hm36
    refine⟨by trivial, ?_, ?_,trivial⟩
    ·refine li1 ⟨trivial, ?_⟩
     simp only[D5 g0,xi2,hj',hp1,hp2,hp3,oD,j5]
     refine⟨⟨⟨by simp,rfl⟩,trivial⟩,⟨⟨by simp,trivial⟩,trivial⟩,li1 ⟨trivial, ?_⟩⟩
     exact fin _ (_,_,_) (b9.le_trans l5 g.le) hm36.symm
    ·simp only[hj',hp1,hp2,oD]
     refine⟨trivial,trivial,li1 ⟨trivial,li1 ⟨trivial, ?_⟩⟩⟩
     exact fin _ (_,_,_) (b9.le_trans l5 g.le) hm36.symm
   ·rw[if_neg e37]at hm36
    simp only[hj',hp1,hp2,oD]
    refine li2 ?_
    exact i9.weak (Wk.tup (es:=[iD [y.a,_],iD [], .bool true]) ⟨Wk.refl _,c5P,Wk.refl _,trivial⟩) (fin _ (_,_,_) (b9.le_trans l5 g.le) hm36.symm)
 ·have e39:∀(p:Int),i6 .eql (.int .u8 y.op) (.int .u8 p)=some (.bool (decide (y.op=p))):=fun p=>by rw[Y4,a7l]
  simp only[e39,oD]
  rw[B3]
  refine⟨fun h39=> ?_,fun h39=> ?_⟩
  ·rw[lm,oD,u5,oD,D5 h0,show(J2 y)[0+1]? =some (.int .i64 y.a) from rfl,oD]
   refine(Z3 hok ha).use ?_
   simp only[P3,c8d,exD,List.getElem?_cons_zero,List.getElem?_cons_succ,oD]
   refine b4j fun k5 a5 n5=> ?_
   rw[u5,oD,D5 (b9.set_same _ _ _),Nat.zero_add,(b6c _).2,oD]
   refine li1 (li1 (fin _ (_,_,_) (b9.le_new n5) ?_))
   unfold H3
   rw[if_neg h36,if_pos h39]
  rw[B3]
  refine⟨fun h40=> ?_,fun h40=> ?_⟩
  ·rw[lm,oD,u5,oD,D5 h0,show(J2 y)[0+1]? =some (.int .i64 y.a) from rfl,oD]
   refine(Z3 hok ha).use ?_
   simp only[P3,c8d,exD,List.getElem?_cons_zero,List.getElem?_cons_succ,oD]
   refine b4j fun k5 a5 n5=> ?_
   refine li1 (i9.weak (Wk.tup (es:=[iD [],iD [y.a], .bool _]) ⟨c5P,Wk.refl _,Wk.refl _,trivial⟩) (fin _ (_,_,_) (b9.le_new n5) ?_))
   unfold H3
   rw[if_neg h36,if_neg h39,if_pos h40]
  rw[B3]
  refine⟨fun h44=> ?_,fun h44=> ?_⟩
  ·rw[lm,oD,u5,oD,D5 h0,show(J2 y)[0+1]? =some (.int .i64 y.a) from rfl,oD]
   refine(Z3 hok ha).use ?_
   simp only[P3,c8d,exD,List.getElem?_cons_zero,List.getElem?_cons_succ,oD]
   refine b4j fun k5 a5 n5=> ?_
   rw[u5,oD,D5 (b9.set_same _ _ _),Nat.zero_add,(b6c _).2,oD]
   refine li2 (i9.weak (Wk.tup (es:=[iD [y.a,_],iD [], .bool _]) ⟨Wk.refl _,c5P,Wk.refl _,trivial⟩) (fin _ (_,_,_) (b9.le_new n5) ?_))
   unfold H3
   rw[if_neg h36,if_neg h39,if_neg h40,if_pos h44]
  rw[B3]
  refine⟨fun h45=> ?_,fun h45=> ?_⟩
  ·rw[lm,oD,u5,oD,D5 h0,show(J2 y)[0+1]? =some (.int .i64 y.a) from rfl,oD]
   refine(Z3 hok ha).use ?_
   simp only[P3,c8d,exD,List.getElem?_cons_zero,List.getElem?_cons_succ,oD]
   refine b4j fun k5 a5 n5=> ?_
   have e:([y.a],[(p9 m y.a [8]).1.elem],(p9 m y.a [8]).2)=H3 y m:=by
    unfold H3
    rw[if_neg h36,if_neg h39,if_neg h40,if_neg h44,if_pos h45]
   refine⟨by trivial, ?_, ?_,trivial⟩
   ·refine li1 ⟨trivial, ?_⟩
    simp only[u5,oD,D5 (b9.set_same _ _ _),Nat.zero_add,(b6c _).2]
    refine⟨?_,li1 ⟨trivial,fin _ (_,_,_) (b9.le_new n5) e⟩⟩
    refine⟨⟨?_, ?_⟩,trivial⟩
    ·simp[j5,D5 (b9.set_same _ _ _),B9]
    ·simp[j5,fwP]
   ·simp only[u5,oD,D5 (b9.set_same _ _ _),Nat.zero_add,(b6c _).2]
    exact⟨trivial,li1 ⟨trivial,li1 ⟨trivial,fin _ (_,_,_) (b9.le_new n5) e⟩⟩⟩
  rw[lm,oD,u5,oD,D5 h0,show(J2 y)[0+1]? =some (.int .i64 y.a) from rfl,oD]
  refine(Z3 hok ha).use ?_
  simp only[P3,exD,List.getElem?_cons_zero,List.getElem?_cons_succ,oD]
  refine b4j fun k5 a5 n5=> ?_
  have n1:k≠k5:=fun e=>by rw[←e,h0]at n5;cases n5
  rw[u5,oD,D5 (by rw[b9.set_ne _ _ _ n1];exact h0),Nat.zero_add,xi0,oD,e39,oD,B3]
  refine⟨fun h41=> ?_,fun h41=> ?_⟩
  ·have e:([y.a,3],[(p9 m y.a [7,8]).1.elem],(p9 m y.a [7,8]).2)=H3 y m:=by
    unfold H3
    rw[if_neg h36,if_neg h39,if_neg h40,if_neg h44,if_neg h45,if_pos h41]
   refine⟨by trivial, ?_, ?_,trivial⟩
   ·refine li2 ⟨trivial, ?_⟩
    simp only[u5,oD,D5 (b9.set_same _ _ _),Nat.zero_add,(b6c _).2]
    refine⟨?_,li1 ⟨trivial,fin _ (_,_,_) (b9.le_new n5) e⟩⟩
    refine⟨⟨?_, ?_⟩,trivial⟩
    ·simp[j5,D5 (b9.set_same _ _ _),B9]
    ·simp[j5,fwP]
   ·simp only[u5,oD,D5 (b9.set_same _ _ _),Nat.zero_add,(b6c _).2]
    exact⟨trivial,li1 ⟨trivial,li2 ⟨trivial,fin _ (_,_,_) (b9.le_new n5) e⟩⟩⟩
  rw[e39,oD,B3]
  refine⟨fun h42=> ?_,fun h42=> ?_⟩
  ·rw[u5,oD,D5 (b9.set_same _ _ _),Nat.zero_add,(b6c _).2,oD]
   refine li3 (i9.weak (Wk.tup (es:=[iD [y.a,3,_],iD [], .bool _]) ⟨Wk.refl _,c5P,Wk.refl _,trivial⟩) (fin _ (_,_,_) (b9.le_new n5) ?_))
   unfold H3
   rw[if_neg h36,if_neg h39,if_neg h40,if_neg h44,if_neg h45,if_neg h41,if_pos h42]
  ·refine li1 (li1 (fin _ (_,_,_) (b9.le_new n5) ?_))
   unfold H3
   rw[if_neg h36,if_neg h39,if_neg h40,if_neg h44,if_neg h45,if_neg h41,if_neg h42]
theorem d0G{y:In}{m:Mo}(hy:y.Ok)(hm:m.Fits)(hb:y.op=37∨y.op=38→0≤y.b):a6Z Tryz.prog E w0 b2D [inD y,Z0 m] (tkD (H3 y m)):=fun S=>by
 refine c5k ?_
 unfold c0G
 rw[inD,J5,oD]
 intro k a n
 rw[Z0,J5,oD]
 intro k2 a2 n2
 obtain⟨ne2,n2'⟩:=b9.fresh n2
 generalize hS3:(S.set k _).set k2 _=S3
 have h2:S3 k2=some ⟨3,[F8 m],a2⟩:=by rw[←hS3];exact b9.set_same _ _ _
 have h0:S3 k=some ⟨4,[J2 y],a⟩:=by rw[←hS3,b9.set_ne _ _ _ (Ne.symm ne2)];exact b9.set_same _ _ _
 have hle:S.le S3:=by rw[←hS3];exact b9.le_set (b9.le_new n) n2'
 obtain⟨xi0,xi1,xi2,xi3⟩:=d5I y
 simp only[u5,oD,D5 h0,Nat.zero_add,xi0,xi1,Y4,a7l]
 have key:=c4j (E:=E) (w0:=w0) hy hm hb hle h0 h2
 by_cases c1:y.op=36
 ·rw[decide_eq_true (Or.inl c1)]at key
  rw[decide_eq_true c1,cdT]
  exact key
 rw[decide_eq_false c1,cdF]
 by_cases c2:y.op=37
 ·rw[decide_eq_true (Or.inr (Or.inl c2))]at key
  rw[decide_eq_true c2,cdT]
  exact key
 rw[decide_eq_false c2,cdF]
 have:decide (y.op=38)=decide (y.op=36∨y.op=37∨y.op=38):=by simp[c1,c2]
 rw[this]
 exact key
end
end
section
def q9(y:In):List Int×List Int:=
 if 1≤y.op∧y.op≤3 then([],[y.op]) else
 if y.op=4∨y.op=5 then([],[4]) else
 if y.op=6 then([],[5]) else
 if y.op=7 then([],[0]) else
 if y.op=8∨y.op=9 then([0],[]) else
 if y.op=10 then([0],[0,0]) else
 if 11≤y.op∧y.op≤20 then([y.a,y.a],[y.a]) else
 if y.op=21∨y.op=22 then([y.a],[y.a]) else
 if 23≤y.op∧y.op≤28 then([y.a,y.a],[4]) else
 if y.op=29 then([y.a],[y.b]) else
 if y.op=30 then([4],[4]) else
 if y.op=31 then([5,5],[5]) else
 if y.op=32 then([5],[3]) else
 if y.op=33 then([5,3],[2]) else
 if y.op=34 then([5,3,3],[5]) else
 if y.op=35 then([2],[5]) else
 if y.op=47∨y.op=48 then([4],[]) else
 if y.op=49 then([y.a],[]) else
 ([],[])
section
variable{S:b9}{k:Nat}{op:Int}{K:D→Prop}
theorem tEq{p:Int}(h:K (.bool (decide (op=p)))):b7 (i6 .eql (.int .u8 op) (.int .u8 p)) K:=by rw[Y4,oD,a7l];exact h
theorem tOr(hl:b8 S (.ptr k 0)=some (.int .u8 op)){p q:Int}(h:K (.bool (decide (op=p∨op=q)))):b7 (i6 .eql (.int .u8 op) (.int .u8 p)) fun v18=>b7 (i4 (i0 v18 false) (some (.ptr k 0))) fun v19=>b7 (i4 (i0 v18 false) (b8 S v19)) fun v20=>b7 (i4 (i0 v18 false) (i6 .eql v20 (.int .u8 q))) fun v21=>b7 (o7 v18 (.bool true) v21) K:=by
 by_cases c:op=p
 ·rw[decide_eq_true (Or.inl c)]at h
  simp only[Y4,oD,a7l,decide_eq_true c,C5,show(true==false)=false from rfl,vdF,C3,if_true]
  exact h
 ·have e:decide (op=p∨op=q)=decide (op=q):=by simp[c]
  rw[e]at h
  simp only[Y4,oD,a7l,decide_eq_false c,C5,show(false==false)=true from rfl,P7,C3,Bool.false_eq_true,if_false,hl]
  exact h
theorem tIn(hl:b8 S (.ptr k 0)=some (.int .u8 op)){p q:Int}(h:K (.bool (decide (p≤op∧op≤q)))):b7 (i6 .geq (.int .u8 op) (.int .u8 p)) fun v18=>b7 (i4 (i0 v18 true) (some (.ptr k 0))) fun v19=>b7 (i4 (i0 v18 true) (b8 S v19)) fun v20=>b7 (i4 (i0 v18 true) (i6 .leq v20 (.int .u8 q))) fun v21=>b7 (o7 v18 v21 (.bool false)) K:=by
 by_cases c:p≤op
 ·have e:decide (p≤op∧op≤q)=decide (op≤q):=by simp[c]
  rw[e]at h
  simp only[a3H,c5w,oD,decide_eq_true (show op≥p from c),C5,show(true==true)=true from rfl,P7,C3,if_true,hl]
  exact h
 ·rw[decide_eq_false (fun e=>c e.1)]at h
  simp only[a3H,oD,decide_eq_false (show ¬op≥p from c),C5,show(false==true)=false from rfl,vdF,C3,Bool.false_eq_true,if_false]
  exact h
end
def plD(r:List Int×List Int):D:= .tup [iD r.1,iD r.2]
section
variable{E:j6}{w0:World}
theorem c8Q{y:In}(hy:y.Ok):a6Z Tryz.prog E w0 b1o [inD y] (plD (q9 y)):=fun S=>by
 refine c3v ?_
 unfold b8B
 rw[inD,J5,oD]
 intro k a n
 have h0:(S.set k ⟨(J2 y).length,[J2 y],a⟩) k=some ⟨4,[J2 y],a⟩:=b9.set_same _ _ _
 have hle:S.le (S.set k ⟨(J2 y).length,[J2 y],a⟩):=b9.le_new n
 generalize S.set k ⟨(J2 y).length,[J2 y],a⟩=S1 at h0 hle ⊢
 have ho:=hy.op
 have l0:b8 S1 (.ptr k 0)=some (.int .u8 y.op):=by rw[D5 h0];rfl
 have l1:b8 S1 (.ptr k 1)=some (.int .i64 y.a):=by rw[D5 h0];rfl
 have l2:b8 S1 (.ptr k 2)=some (.int .i64 y.b):=by rw[D5 h0];rfl
 have fin:∀(p q:List Int),(p,q)=q9 y→i9 E (fun d' S'=>d'=plD (q9 y)∧S'=S) (.tup [iD p,iD q]) S1:=fun p q e=>by
  rw[←e]
  exact i9.less hle i9.pure
 have finL:∀(q:List Int),([],q)=q9 y→i9 E (fun d' S'=>d'=plD (q9 y)∧S'=S) (.tup [.nilSlc,iD q]) S1:=fun q e=>i9.weak (Wk.tup (es:=[iD [],iD q]) ⟨c5P,Wk.refl _,trivial⟩) (fin [] q e)
 have finR:∀(p:List Int),(p,[])=q9 y→i9 E (fun d' S'=>d'=plD (q9 y)∧S'=S) (.tup [iD p, .nilSlc]) S1:=fun p e=>i9.weak (Wk.tup (es:=[iD p,iD []]) ⟨Wk.refl _,c5P,trivial⟩) (fin p [] e)
 have finN:([],[])=q9 y→i9 E (fun d' S'=>d'=plD (q9 y)∧S'=S) (.tup [.nilSlc, .nilSlc]) S1:=fun e=>i9.weak (Wk.tup (es:=[iD [],iD []]) ⟨c5P,c5P,trivial⟩) (fin [] [] e)
 simp only[u5,Nat.zero_add]
 rw[oD,l1,oD]
 rw[oD,l0,oD]
 refine tIn l0 ?_
 rw[B3]
 refine⟨fun h1=> ?_,fun h1=> ?_⟩
 ·rw[oD,l0,oD]
  refine⟨trivial, ?_⟩
  rw[cvI,oD,j8 (by omega) (by omega)]
  exact li1 ⟨trivial,finL _ (by unfold q9;rw[if_pos h1])⟩
 rw[oD,l0,oD]
 refine tOr l0 ?_
 rw[B3]
 refine⟨fun h4=> ?_,fun h4=> ?_⟩
 ·exact li1 (finL _ (by unfold q9;rw[if_neg h1,if_pos h4]))
 rw[oD,l0,oD]
 refine tEq ?_
 rw[B3]
 refine⟨fun h6=> ?_,fun h6=> ?_⟩
 ·exact li1 (finL _ (by unfold q9;rw[if_neg h1,if_neg h4,if_pos h6]))
 rw[oD,l0,oD]
 refine tEq ?_
 rw[B3]
 refine⟨fun h7=> ?_,fun h7=> ?_⟩
 ·exact li1 (finL _ (by unfold q9;rw[if_neg h1,if_neg h4,if_neg h6,if_pos h7]))
 rw[oD,l0,oD]
 refine tOr l0 ?_
 rw[B3]
 refine⟨fun h8=> ?_,fun h8=> ?_⟩
 ·exact li1 (finR _ (by unfold q9;rw[if_neg h1,if_neg h4,if_neg h6,if_neg h7,if_pos h8]))
 rw[oD,l0,oD]
 refine tEq ?_
 rw[B3]
 refine⟨fun h10=> ?_,fun h10=> ?_⟩
 ·exact li1 (li2 (fin _ _ (by unfold q9;rw[if_neg h1,if_neg h4,if_neg h6,if_neg h7,if_neg h8,if_pos h10])))
 rw[oD,l0,oD]
 refine tIn l0 ?_
 rw[B3]
 refine⟨fun h11=> ?_,fun h11=> ?_⟩
 ·exact li2 (li1 (fin _ _ (by unfold q9;rw[if_neg h1,if_neg h4,if_neg h6,if_neg h7,if_neg h8,if_neg h10,if_pos h11])))
 rw[oD,l0,oD]
 refine tOr l0 ?_
 rw[B3]
 refine⟨fun h21=> ?_,fun h21=> ?_⟩
 ·exact li1 (li1 (fin _ _ (by unfold q9;rw[if_neg h1,if_neg h4,if_neg h6,if_neg h7,if_neg h8,if_neg h10,if_neg h11,if_pos h21])))
 rw[oD,l0,oD]
 refine tIn l0 ?_
 rw[B3]
 refine⟨fun h23=> ?_,fun h23=> ?_⟩
 ·exact li2 (li1 (fin _ _ (by unfold q9;rw[if_neg h1,if_neg h4,if_neg h6,if_neg h7,if_neg h8,if_neg h10,if_neg h11,if_neg h21,if_pos h23])))
 rw[oD,l0,oD]
 refine tEq ?_
 rw[B3]
 refine⟨fun h29=> ?_,fun h29=> ?_⟩
 ·have e:([y.a],[y.b])=q9 y:=by unfold q9;rw[if_neg h1,if_neg h4,if_neg h6,if_neg h7,if_neg h8,if_neg h10,if_neg h11,if_neg h21,if_neg h23,if_pos h29]
  refine⟨by trivial,li1 ⟨trivial, ?_⟩, ?_,trivial⟩
  ·simp only[u5,oD,Nat.zero_add,l2,j5]
   exact⟨⟨⟨by simp,rfl⟩,trivial⟩,li1 ⟨trivial,fin _ _ e⟩⟩
  ·simp only[u5,oD,Nat.zero_add,l2]
   exact⟨trivial,li1 ⟨trivial,li1 ⟨trivial,fin _ _ e⟩⟩⟩
 rw[oD,l0,oD]
 refine tEq ?_
 rw[B3]
 refine⟨fun h30=> ?_,fun h30=> ?_⟩
 ·exact li1 (li1 (fin _ _ (by unfold q9;rw[if_neg h1,if_neg h4,if_neg h6,if_neg h7,if_neg h8,if_neg h10,if_neg h11,if_neg h21,if_neg h23,if_neg h29,if_pos h30])))
 rw[oD,l0,oD]
 refine tEq ?_
 rw[B3]
 refine⟨fun h31=> ?_,fun h31=> ?_⟩
 ·exact li2 (li1 (fin _ _ (by unfold q9;rw[if_neg h1,if_neg h4,if_neg h6,if_neg h7,if_neg h8,if_neg h10,if_neg h11,if_neg h21,if_neg h23,if_neg h29,if_neg h30,if_pos h31])))
 rw[oD,l0,oD]
 refine tEq ?_
 rw[B3]
 refine⟨fun h32=> ?_,fun h32=> ?_⟩
 ·exact li1 (li1 (fin _ _ (by unfold q9;rw[if_neg h1,if_neg h4,if_neg h6,if_neg h7,if_neg h8,if_neg h10,if_neg h11,if_neg h21,if_neg h23,if_neg h29,if_neg h30,if_neg h31,if_pos h32])))
 rw[oD,l0,oD]
 refine tEq ?_
 rw[B3]
 refine⟨fun h33=> ?_,fun h33=> ?_⟩
 ·exact li2 (li1 (fin _ _ (by unfold q9;rw[if_neg h1,if_neg h4,if_neg h6,if_neg h7,if_neg h8,if_neg h10,if_neg h11,if_neg h21,if_neg h23,if_neg h29,if_neg h30,if_neg h31,if_neg h32,if_pos h33])))
 rw[oD,l0,oD]
 refine tEq ?_
 rw[B3]
 refine⟨fun h34=> ?_,fun h34=> ?_⟩
 ·exact li3 (li1 (fin _ _ (by unfold q9;rw[if_neg h1,if_neg h4,if_neg h6,if_neg h7,if_neg h8,if_neg h10,if_neg h11,if_neg h21,if_neg h23,if_neg h29,if_neg h30,if_neg h31,if_neg h32,if_neg h33,if_pos h34])))
 rw[oD,l0,oD]
 refine tEq ?_
 rw[B3]
 refine⟨fun h35=> ?_,fun h35=> ?_⟩
 ·exact li1 (li1 (fin _ _ (by unfold q9;rw[if_neg h1,if_neg h4,if_neg h6,if_neg h7,if_neg h8,if_neg h10,if_neg h11,if_neg h21,if_neg h23,if_neg h29,if_neg h30,if_neg h31,if_neg h32,if_neg h33,if_neg h34,if_pos h35])))
 rw[oD,l0,oD]
 refine tOr l0 ?_
 rw[B3]
 refine⟨fun h47=> ?_,fun h47=> ?_⟩
 ·exact li1 (finR _ (by unfold q9;rw[if_neg h1,if_neg h4,if_neg h6,if_neg h7,if_neg h8,if_neg h10,if_neg h11,if_neg h21,if_neg h23,if_neg h29,if_neg h30,if_neg h31,if_neg h32,if_neg h33,if_neg h34,if_neg h35,if_pos h47]))
 rw[oD,l0,oD]
 refine tEq ?_
 rw[B3]
 refine⟨fun h49=> ?_,fun h49=> ?_⟩
 ·exact li1 (finR _ (by unfold q9;rw[if_neg h1,if_neg h4,if_neg h6,if_neg h7,if_neg h8,if_neg h10,if_neg h11,if_neg h21,if_neg h23,if_neg h29,if_neg h30,if_neg h31,if_neg h32,if_neg h33,if_neg h34,if_neg h35,if_neg h47,if_pos h49]))
 exact finN (by unfold q9;rw[if_neg h1,if_neg h4,if_neg h6,if_neg h7,if_neg h8,if_neg h10,if_neg h11,if_neg h21,if_neg h23,if_neg h29,if_neg h30,if_neg h31,if_neg h32,if_neg h33,if_neg h34,if_neg h35,if_neg h47,if_neg h49])
end
end
section
def I7(y:In)(m:Mo):List Int×List Int×Int:=
 if isS y=false then([],[],120)
 else if(y.op=6∧m.texts.length≤y.a)∨(y.op=50∧m.funcs.length≤y.a) then([],[],2)
 else if y.op=50 then match m.funcs[y.a.toNat]? with
  |some r=>(r.params,r.results,0)
  |none=>([],[],2)
 else if 36≤y.op∧y.op≤45 then if(H3 y m).2.2=true then((H3 y m).1,(H3 y m).2.1,0) else([],[],2)
 else((q9 y).1,(q9 y).2,0)
theorem e0H{y:In}(h:isS y=true)(h50:y.op=50):0≤y.a∧y.a≤65535:=by
 have e:lay 50=some [fIx]:=by decide
 unfold isS at h
 rw[h50,e]at h
 simp[Y8,Fld.may,fIx,In.num]at h
 omega
theorem e0u{y:In}(h:isS y=true)(hb:y.op=37∨y.op=38):0≤y.b:=by
 have e1:lay 37=some [fIx,fIx]:=by decide
 have e2:lay 38=some [fIx,fIx]:=by decide
 unfold isS at h
 rcases hb with hb|hb
 ·rw[hb,e1]at h
  simp[Y8,Fld.may,fIx,In.num]at h
  omega
 ·rw[hb,e2]at h
  simp[Y8,Fld.may,fIx,In.num]at h
  omega
def tk3(r:List Int×List Int×Int):D:= .tup [iD r.1,iD r.2.1, .int .i64 r.2.2]
section
variable{E:j6}{w0:World}
theorem b5Q{l:List Int}(hl:l.length<2^40):L1 Tryz.prog E w0 b0t [iD l] (iD l):=fun x S=>by
 refine c8f ?_
 unfold c5b
 refine(Grw.nil S 1).push (c1Q _ _) (by simp;omega) fun t S1 g=> ?_
 have g:Grw S t (iC l) 1 S1:=by simpa using g
 exact g.fin i9.pure
theorem c7h{y:In}{m:Mo}(hy:y.Ok)(hm:m.Fits):a6Z Tryz.prog E w0 a5A [inD y,Z0 m] (tk3 (I7 y m)):=fun S=>by
 refine c4f ?_
 unfold b8r
 rw[inD,J5,oD]
 intro k a n
 rw[Z0,J5,oD]
 intro k2 a2 n2
 obtain⟨ne2,n2'⟩:=b9.fresh n2
 generalize hS3:(S.set k _).set k2 _=S3
 have h2:S3 k2=some ⟨3,[F8 m],a2⟩:=by rw[←hS3];exact b9.set_same _ _ _
 have h0:S3 k=some ⟨4,[J2 y],a⟩:=by rw[←hS3,b9.set_ne _ _ _ (Ne.symm ne2)];exact b9.set_same _ _ _
 have hle:S.le S3:=by rw[←hS3];exact b9.le_set (b9.le_new n) n2'
 clear hS3 n2
 have li:j2 S3 4 (.ptr k 0)=some (inD y):=by rw[laP h0 (by simp[J2])];rfl
 have lm:j2 S3 3 (.ptr k2 0)=some (Z0 m):=by rw[laP h2 (by simp[F8])];rfl
 have l0:b8 S3 (.ptr k 0)=some (.int .u8 y.op):=by rw[D5 h0];rfl
 have l1:b8 S3 (.ptr k 1)=some (.int .i64 y.a):=by rw[D5 h0];rfl
 have m1:b8 S3 (.ptr k2 1)=some (a6A m.texts):=by rw[D5 h2];rfl
 have m2:b8 S3 (.ptr k2 2)=some (b1r m.funcs):=by rw[D5 h2];rfl
 have hok:=hm.ok
 have fin:∀(p q:List Int) (e:Int),(p,q,e)=I7 y m→i9 E (fun d' S'=>d'=tk3 (I7 y m)∧S'=S) (.tup [iD p,iD q, .int .i64 e]) S3:=fun p q e h=>by
  rw[←h]
  exact i9.less hle i9.pure
 have finN:∀e:Int,([],[],e)=I7 y m→i9 E (fun d' S'=>d'=tk3 (I7 y m)∧S'=S) (.tup [.nilSlc, .nilSlc, .int .i64 e]) S3:=fun e h=>
  i9.weak (Wk.tup (es:=[iD [],iD [], .int .i64 e]) ⟨c5P,c5P,Wk.refl _,trivial⟩) (fin [] [] e h)
 rw[li,oD]
 refine(d3U hy).use ?_
 rw[unN,oD]
 cases his:isS y with
 |false=>
  rw[Bool.not_false,cdT]
  exact finN 120 (by unfold I7;rw[if_pos his])
 |true=>
 rw[Bool.not_true,cdF]
 simp only[u5,Nat.zero_add]
 have key:∀ {K:D→Prop},K (.bool (decide ((y.op=6∧m.texts.length≤y.a)∨(y.op=50∧m.funcs.length≤y.a))))→(b7 (some (.ptr k 0)) fun v8=>
 b7 (b8 S3 v8) fun v9=>
 b7 (i6 .eql v9 (.int .u8 6)) fun v10=>
 b7 (i4 (i0 v10 true) (some (.ptr k 1))) fun v11=>
 b7 (i4 (i0 v10 true) (b8 S3 v11)) fun v12=>
 b7 (i4 (i0 v10 true) (some (.ptr k2 1))) fun v13=>
 b7 (i4 (i0 v10 true) (b8 S3 v13)) fun v14=>
 b7 (i4 (i0 v10 true) (l9 v14)) fun v15=>
 b7 (i4 (i0 v10 true) (i6 .geq v12 v15)) fun v16=>
 b7 (o7 v10 v16 (.bool false)) fun v17=>
 b7 (i4 (i0 v17 false) (some (.ptr k 0))) fun v18=>
 b7 (i4 (i0 v17 false) (b8 S3 v18)) fun v19=>
 b7 (i4 (i0 v17 false) (i6 .eql v19 (.int .u8 50))) fun v20=>
 b7 (i4 (i0 v17 false) (some v20)) fun v21=>
 b7 (i4 (i0 v21 true) (some (.ptr k 1))) fun v22=>
 b7 (i4 (i0 v21 true) (b8 S3 v22)) fun v23=>
 b7 (i4 (i0 v21 true) (some (.ptr k2 2))) fun v24=>
 b7 (i4 (i0 v21 true) (b8 S3 v24)) fun v25=>
 b7 (i4 (i0 v21 true) (l9 v25)) fun v26=>
 b7 (i4 (i0 v21 true) (i6 .geq v23 v26)) fun v27=>
 b7 (i4 (i0 v17 false) (o7 v21 v27 (.bool false))) fun v28=>
 b7 (o7 v17 (.bool true) v28) K):=by
  intro K hK
  simp only[oD,l0,Y4,a7l]
  by_cases c6:y.op=6
  ·have c50:¬y.op=50:=by omega
   simp only[decide_eq_true c6,C5,t4,P7,oD,l1,m1,J9,a3H,C3,if_true]
   by_cases d:(m.texts.length:Int)≤y.a
   ·rw[decide_eq_true (Or.inl ⟨c6,d⟩)]at hK
    simp only[decide_eq_true (show y.a≥m.texts.length from d),C5,t1,vdF,oD,wdU,C3,if_true]
    exact hK
   ·rw[decide_eq_false (fun e=>e.elim (fun e=>d e.2) (fun e=>c50 e.1))]at hK
    simp only[decide_eq_false (show ¬y.a≥m.texts.length from d),C5,t2,P7,oD,l0,Y4,a7l,decide_eq_false c50,t3,vdF,wdU,C3,Bool.false_eq_true,if_false]
    exact hK
  ·simp only[decide_eq_false c6,C5,t3,t2,vdF,P7,oD,C3,Bool.false_eq_true,if_false,l0,Y4,a7l]
   by_cases c50:y.op=50
   ·simp only[decide_eq_true c50,C5,t4,P7,oD,l1,m2,I9,a3H,C3,if_true]
    have e:decide ((y.op=6∧m.texts.length≤y.a)∨(y.op=50∧m.funcs.length≤y.a))=decide (y.a≥m.funcs.length):=by
     rw[decide_eq_decide]
     exact⟨fun h=>h.elim (fun h=>(c6 h.1).elim) fun h=>h.2,fun h=> .inr ⟨c50,h⟩⟩
    rw[e]at hK
    exact hK
   ·rw[decide_eq_false (fun e=>e.elim (fun e=>c6 e.1) (fun e=>c50 e.1))]at hK
    simp only[decide_eq_false c50,C5,t3,vdF,oD,C3,Bool.false_eq_true,if_false]
    exact hK
 refine key ?_
 have ns:¬isS y=false:=by rw[his];simp
 rw[B3]
 refine⟨fun hbad=>finN 2 (by unfold I7;rw[if_neg ns,if_pos hbad]),fun hbad=> ?_⟩
 rw[oD,l0,oD]
 refine tEq ?_
 rw[B3]
 refine⟨fun h50=> ?_,fun h50=> ?_⟩
 ·obtain⟨ha1,ha2⟩:=e0H his h50
  obtain⟨i,hi⟩:∃i:Nat,i=y.a.toNat:=⟨_,rfl⟩
  have hi':y.a=(i:Int):=by omega
  have hlt:i<m.funcs.length:=by
   have:¬(m.funcs.length:Int)≤y.a:=fun h=>hbad (.inr ⟨h50,h⟩)
   omega
  obtain⟨r,hr⟩:∃r,r=m.funcs[i]:=⟨_,rfl⟩
  have ea:m.funcs[i]? =some r:=by rw[List.getElem?_eq_getElem hlt,hr]
  obtain⟨p1,p2,_⟩:=hm.params r (by rw[hr];exact List.getElem_mem _)
  simp only[oD,m2,l1,hi',a1k ea,ofE,lsE,Nat.zero_add,show(F9 r)[1]? =some (iD r.params) from rfl]
  refine⟨trivial,trivial,trivial,(b5Q (by omega)).useX ⟨trivial, ?_⟩⟩
  simp only[oD,j5,m2,l1,hi',a1k ea,ofE,lsE,Nat.zero_add,show(F9 r)[2]? =some (iD r.results) from rfl]
  refine⟨⟨⟨by simp,rfl⟩,trivial⟩,⟨⟨by simp,rfl⟩,trivial⟩,⟨⟨by simp,trivial⟩,trivial⟩,(b5Q (by omega)).useX ⟨trivial, ?_⟩⟩
  refine fin _ _ _ ?_
  unfold I7
  rw[if_neg ns,if_neg hbad,if_pos h50, ←hi,ea]
 rw[oD,l0,oD]
 refine tIn l0 ?_
 rw[B3]
 refine⟨fun h36=> ?_,fun h36=> ?_⟩
 ·rw[li,oD,lm,oD]
  refine(d0G hy hm (e0u his)).use ?_
  simp only[tkD,exD,List.getElem?_cons_zero,List.getElem?_cons_succ,oD,unN]
  cases hr:(H3 y m).2.2 with
  |false=>
   rw[Bool.not_false,cdT]
   exact finN 2 (by unfold I7;rw[if_neg ns,if_neg hbad,if_neg h50,if_pos h36,if_neg (by rw[hr];simp)])
  |true=>
   rw[Bool.not_true,cdF]
   exact fin _ _ 0 (by unfold I7;rw[if_neg ns,if_neg hbad,if_neg h50,if_pos h36,if_pos hr])
 ·rw[li,oD]
  refine(c8Q hy).use ?_
  simp only[plD,exD,List.getElem?_cons_zero,List.getElem?_cons_succ,oD]
  exact fin _ _ 0 (by unfold I7;rw[if_neg ns,if_neg hbad,if_neg h50,if_neg h36])
end
end
section
theorem Own.swap{S0 S1 S:b9}{t u:D}{r q:List Int}(h:Own S0 t r S1)(h':Own S1 u q S):∃S2,Own S0 u q S2∧Own S2 t r S:=by
 rcases h with ⟨rfl,rfl,rfl⟩|⟨k,acs,ex,hk,rfl,rfl⟩
 ·exact⟨S,h', .inl ⟨rfl,rfl,rfl⟩⟩
 ·rcases h' with ⟨rfl,rfl,rfl⟩|⟨l,bcs,ex',hl,rfl,rfl⟩
  ·exact⟨S0, .inl ⟨rfl,rfl,rfl⟩, .inr ⟨k,acs,ex,hk,rfl,rfl⟩⟩
  ·obtain⟨hne,hl0⟩:=b9.fresh hl
   refine⟨S0.set l ⟨1,iC q,bcs⟩, .inr ⟨l,bcs,ex',hl0,rfl,rfl⟩, .inr ⟨k,acs,ex, ?_,rfl, ?_⟩⟩
   ·rw[b9.set_ne _ _ _ (Ne.symm hne)];exact hk
   ·exact b9.set_comm _ (Ne.symm hne) _ _
def EfQ(S:b9)(r:List Int×List Int×Bool)(v:D)(S':b9):Prop:=∃c d,v=efD c d r.2.2∧Two S c r.1 d r.2.1 S'
section
variable{E:j6}{w0:World}{S S3:b9}{k2:Nat}{cs:List D}{a2:List AV}
theorem b8g(hle:S.le S3)(hn:S k2=none)(h2:S3 k2=some ⟨3,[cs],a2⟩)(hcs:cs.length=3){r:List Int×List Int×Bool}{c d:D}{S':b9}(g:Two S3 c r.1 d r.2.1 S'):
  j7 S' 3 (.ptr k2 0) (efD c d r.2.2) fun _ S8=>b7 (j2 S8 3 (.ptr k2 0)) fun z=>i9 E (EfQ S r) z S8:=by
 refine stP (ds:=[c,d, .bool r.2.2]) (g.le _ _ h2) (J5 _) ⟨rfl,by decide,by omega⟩ fun a3=> ?_
 have e:o0 cs 0 [c,d, .bool r.2.2]=[c,d, .bool r.2.2]:=by
  rcases cs with _|⟨x,_|⟨y,_|⟨z,_|⟨w,cs⟩⟩⟩⟩<;>simp at hcs
  rfl
 rw[e,laP (b9.set_same _ _ _) (by simp),oD]
 have g':=g.upd (o:=⟨3,[[c,d, .bool r.2.2]],a3⟩) h2
 obtain⟨S'',l,g''⟩:=g'.base (b9.le_set hle hn)
 exact i9.less l (i9.here ⟨c,d,rfl,g''⟩)
theorem a9B(hle:S.le S3)(hn:S k2=none)(h2:S3 k2=some ⟨3,[[.nilSlc, .nilSlc, .bool false]],a2⟩){r:List Int×List Int×Bool}{c d:D}{S':b9}(g:Two S3 c r.1 d r.2.1 S'):
  j7 S' 3 (.ptr k2 0) (efD c d r.2.2) fun _ S8=>True∧b7 (j2 S8 3 (.ptr k2 0)) fun z=>i9 E (EfQ S r) z S8:=by
 have h:=b8g (E:=E) hle hn h2 rfl g
 simp only[true_and]
 exact h
variable(hle:S.le S3)(hn:S k2=none)(h2:S3 k2=some ⟨3,[cs],a2⟩)(hcs:cs.length=3){x:Bool}
include hle hn h2 hcs
theorem c8y{r:List Int×List Int×Bool}(hr:r.2.2=true):q7 S3 1 (some (iC r.1)) r.1.length fun v S4=>o9 Tryz.prog E w0 x r8 [v] S4 fun w S5=>q7 S5 1 (some (iC r.2.1)) r.2.1.length fun v' S6=>o9 Tryz.prog E w0 x m6 [w,v'] S6 fun u S7=>
  j7 S7 3 (.ptr k2 0) u fun _ S8=>b7 (j2 S8 3 (.ptr k2 0)) fun z=>i9 E (EfQ S r) z S8:=by
 refine D9 fun v S4 g1=>(D7 g1.cells).use (D9 fun v' S6 g2=> ?_)
 refine(A2 (a:=v) (b:= .nilSlc) (c:= .bool true) g2.cells).use ?_
 rw[←hr]
 exact b8g hle hn h2 hcs ⟨S4,g1,g2⟩
theorem e2k{r:List Int×List Int×Bool}(hr:r.2.2=true)(h1:r.1=[]):o9 Tryz.prog E w0 x r8 [.nilSlc] S3 fun w S5=>q7 S5 1 (some (iC r.2.1)) r.2.1.length fun v' S6=>o9 Tryz.prog E w0 x m6 [w,v'] S6 fun u S7=>
  j7 S7 3 (.ptr k2 0) u fun _ S8=>b7 (j2 S8 3 (.ptr k2 0)) fun z=>i9 E (EfQ S r) z S8:=by
 refine(D7 clN).use (D9 fun v' S6 g2=> ?_)
 refine(A2 (a:= .nilSlc) (b:= .nilSlc) (c:= .bool true) g2.cells).use ?_
 rw[←hr]
 exact b8g hle hn h2 hcs ⟨S3,by rw[h1];exact Own.nil _,g2⟩
theorem e0h{r:List Int×List Int×Bool}(hr:r.2.2=true)(h1:r.2.1=[]):q7 S3 1 (some (iC r.1)) r.1.length fun v S4=>o9 Tryz.prog E w0 x r8 [v] S4 fun u S7=>
  j7 S7 3 (.ptr k2 0) u fun _ S8=>b7 (j2 S8 3 (.ptr k2 0)) fun z=>i9 E (EfQ S r) z S8:=by
 refine D9 fun v S4 g1=>(D7 g1.cells).use ?_
 rw[←hr]
 exact b8g hle hn h2 hcs ⟨S4,g1,by rw[h1];exact Own.nil _⟩
theorem e2Y{r:List Int×List Int×Bool}(hr:r.2.2=true)(h1:r.1=[])(h3:r.2.1=[]):o9 Tryz.prog E w0 x r8 [.nilSlc] S3 fun u S7=>
  j7 S7 3 (.ptr k2 0) u fun _ S8=>b7 (j2 S8 3 (.ptr k2 0)) fun z=>i9 E (EfQ S r) z S8:=by
 refine(D7 clN).use ?_
 rw[←hr]
 exact b8g hle hn h2 hcs ⟨S3,by rw[h1];exact Own.nil _,by rw[h3];exact Own.nil _⟩
end
theorem orC{op p:Int}{R:Prop}[Decidable R]{C:D→Prop}{T:Prop}(h:C (.bool (decide (op=p∨R))))(hT:C (.bool (decide R))→T):b7 (i6 .eql (.int .u8 op) (.int .u8 p)) fun v=>j1 v (C v) T:=by
 rw[Y4,oD,a7l]
 by_cases c:op=p
 ·rw[decide_eq_true (Or.inl c)]at h
  rw[decide_eq_true c,cdT]
  exact h
 ·have e:decide (op=p∨R)=decide R:=by simp[c]
  rw[e]at h
  rw[decide_eq_false c,cdF]
  exact hT h
section
variable{E:j6}{w0:World}{S S3:b9}{k k2:Nat}{a a2:List AV}{y:In}
variable(hle:S.le S3)(hn:S k2=none)(h0:S3 k=some ⟨4,[J2 y],a⟩)(h2:S3 k2=some ⟨3,[[.nilSlc, .nilSlc, .bool false]],a2⟩)
include hle hn h2
theorem d7n(h:¬(y.op=46∨y.op=51∨y.op=52)→11≤y.op∧y.op≤20):V9 E w0 false (i9 E (EfQ S ((q9 y).1,(q9 y).2,true))) (.ptr k2 0) (.int .i64 y.a) (.bool (decide (y.op=46∨y.op=51∨y.op=52))) S3:=by
 refine b8V ?_
 unfold b4y
 rw[B3]
 refine⟨fun h1=> ?_,fun h1=> ?_⟩
 ·have e:q9 y=([],[]):=by
   unfold q9
   repeat rw[if_neg (by omega)]
   try rw[if_pos (by omega)]
  rw[e]
  exact e2Y hle hn h2 rfl rfl rfl rfl
 ·have h:=h h1
  have e:q9 y=([y.a,y.a],[y.a]):=by
   unfold q9
   repeat rw[if_neg (by omega)]
   try rw[if_pos (by omega)]
  rw[e]
  exact c8y (r:=([y.a,y.a],[y.a],true)) hle hn h2 rfl rfl
theorem d7v(hv:y.op=47∨y.op=48∨y.op=49∨y.op=46∨y.op=51∨y.op=52∨(11≤y.op∧y.op≤20)):a0M E w0 false (i9 E (EfQ S ((q9 y).1,(q9 y).2,true))) (.ptr k2 0) (.int .i64 y.a) (.int .u8 y.op) (.bool (decide (y.op=47∨y.op=48))) S3:=by
 refine b9a ?_
 unfold b4n
 rw[B3]
 refine⟨fun hf=> ?_,fun hf=> ?_⟩
 ·have e:q9 y=([4],[]):=by
   unfold q9
   repeat rw[if_neg (by omega)]
   try rw[if_pos (by omega)]
  rw[e]
  exact e0h (r:=([4],[],true)) hle hn h2 rfl rfl rfl
 refine tEq ?_
 rw[B3]
 refine⟨fun h49=> ?_,fun h49=> ?_⟩
 ·have e:q9 y=([y.a],[]):=by
   unfold q9
   repeat rw[if_neg (by omega)]
   try rw[if_pos (by omega)]
  rw[e]
  exact e0h (r:=([y.a],[],true)) hle hn h2 rfl rfl rfl
 exact orC (C:=fun b=>V9 E w0 false _ _ _ b S3) (d7n hle hn h2 fun h=>by omega) fun h=>orC h fun h=>tEq h
include h0
theorem d8h(hv:(23≤y.op∧y.op≤35)∨y.op=47∨y.op=48∨y.op=49∨y.op=46∨y.op=51∨y.op=52∨(11≤y.op∧y.op≤20)):I6 E w0 false (i9 E (EfQ S ((q9 y).1,(q9 y).2,true))) (.ptr k 0) (.ptr k2 0) (.int .i64 y.a) (.int .u8 y.op) (.bool (decide (y.op=23∨y.op=24∨y.op=25∨y.op=26∨y.op=27∨y.op=28))) S3:=by
 refine b9j ?_
 unfold b4i
 rw[B3]
 refine⟨fun hf=> ?_,fun hf=> ?_⟩
 ·have e:q9 y=([y.a,y.a],[4]):=by
   unfold q9
   repeat rw[if_neg (by omega)]
   try rw[if_pos (by omega)]
  rw[e]
  exact c8y (r:=([y.a,y.a],[4],true)) hle hn h2 rfl rfl
 refine tEq ?_
 rw[B3]
 refine⟨fun h29=> ?_,fun h29=> ?_⟩
 ·have e:q9 y=([y.a],[y.b]):=by
   unfold q9
   repeat rw[if_neg (by omega)]
   try rw[if_pos (by omega)]
  have l2:b8 S3 (.ptr k 2)=some (.int .i64 y.b):=by rw[D5 h0];rfl
  rw[e]
  refine⟨rfl, ?_, ?_, ?_,trivial⟩
  ·refine D9 (l:=[y.a]) fun v S4 g1=>⟨trivial,(D7 g1.cells).useX ⟨trivial, ?_⟩⟩
   have e4:S4 k=S3 k:=by rw[g1.le _ _ h0,h0]
   have l4:b8 S4 (.ptr k 2)=some (.int .i64 y.b):=by rw[D5 (g1.le _ _ h0)];rfl
   simp only[u5,oD,j5,Nat.zero_add,l2,l4]
   refine⟨⟨⟨by simp,rfl⟩,⟨by simp,e4⟩,trivial⟩,D9 (l:=[y.b]) fun v' S6 g2=>⟨trivial,(A2 (a:=v) (b:= .nilSlc) (c:= .bool true) g2.cells).useX ⟨trivial, ?_⟩⟩⟩
   exact a9B hle hn h2 (r:=([y.a],[y.b],true)) ⟨S4,g1,g2⟩
  ·refine D9 (l:=[y.a]) fun v S4 g1=>⟨trivial, ?_⟩
   have e4:S4 k=S3 k:=by rw[g1.le _ _ h0,h0]
   have l4:b8 S4 (.ptr k 2)=some (.int .i64 y.b):=by rw[D5 (g1.le _ _ h0)];rfl
   simp only[u5,oD,j5,Nat.zero_add,l2,l4]
   refine⟨⟨⟨by simp,e4⟩,trivial⟩,D9 (l:=[y.b]) fun v' S6 g2=>⟨trivial,(D7 g1.cells).useX ⟨trivial,(A2 (a:=v) (b:= .nilSlc) (c:= .bool true) g2.cells).useX ⟨trivial, ?_⟩⟩⟩⟩
   exact a9B hle hn h2 (r:=([y.a],[y.b],true)) ⟨S4,g1,g2⟩
  ·simp only[u5,oD,Nat.zero_add,l2]
   refine⟨trivial,D9 (l:=[y.b]) fun v' S4 g1=>⟨trivial,D9 (l:=[y.a]) fun v S6 g2=>⟨trivial,(D7 g2.cells).useX ⟨trivial,(A2 (a:=v) (b:= .nilSlc) (c:= .bool true) g1.cells).useX ⟨trivial, ?_⟩⟩⟩⟩⟩
   obtain⟨S5,g3,g4⟩:=g1.swap g2
   exact a9B hle hn h2 (r:=([y.a],[y.b],true)) ⟨S5,g3,g4⟩
 refine tEq ?_
 rw[B3]
 refine⟨fun h30=> ?_,fun h30=> ?_⟩
 ·have e:q9 y=([4],[4]):=by
   unfold q9
   repeat rw[if_neg (by omega)]
   try rw[if_pos (by omega)]
  rw[e]
  exact c8y (r:=([4],[4],true)) hle hn h2 rfl rfl
 refine tEq ?_
 rw[B3]
 refine⟨fun h31=> ?_,fun h31=> ?_⟩
 ·have e:q9 y=([5,5],[5]):=by
   unfold q9
   repeat rw[if_neg (by omega)]
   try rw[if_pos (by omega)]
  rw[e]
  exact c8y (r:=([5,5],[5],true)) hle hn h2 rfl rfl
 refine tEq ?_
 rw[B3]
 refine⟨fun h32=> ?_,fun h32=> ?_⟩
 ·have e:q9 y=([5],[3]):=by
   unfold q9
   repeat rw[if_neg (by omega)]
   try rw[if_pos (by omega)]
  rw[e]
  exact c8y (r:=([5],[3],true)) hle hn h2 rfl rfl
 refine tEq ?_
 rw[B3]
 refine⟨fun h33=> ?_,fun h33=> ?_⟩
 ·have e:q9 y=([5,3],[2]):=by
   unfold q9
   repeat rw[if_neg (by omega)]
   try rw[if_pos (by omega)]
  rw[e]
  exact c8y (r:=([5,3],[2],true)) hle hn h2 rfl rfl
 refine tEq ?_
 rw[B3]
 refine⟨fun h34=> ?_,fun h34=> ?_⟩
 ·have e:q9 y=([5,3,3],[5]):=by
   unfold q9
   repeat rw[if_neg (by omega)]
   try rw[if_pos (by omega)]
  rw[e]
  exact c8y (r:=([5,3,3],[5],true)) hle hn h2 rfl rfl
 refine tEq ?_
 rw[B3]
 refine⟨fun h35=> ?_,fun h35=> ?_⟩
 ·have e:q9 y=([2],[5]):=by
   unfold q9
   repeat rw[if_neg (by omega)]
   try rw[if_pos (by omega)]
  rw[e]
  exact c8y (r:=([2],[5],true)) hle hn h2 rfl rfl
 exact orC (C:=fun b=>a0M E w0 false _ _ _ _ b S3) (d7v hle hn h2 (by omega)) fun h=>tEq h
theorem d9z(hv:y.op=21∨y.op=22∨(23≤y.op∧y.op≤35)∨y.op=47∨y.op=48∨y.op=49∨y.op=46∨y.op=51∨y.op=52∨(11≤y.op∧y.op≤20)):a1O E w0 false (i9 E (EfQ S ((q9 y).1,(q9 y).2,true))) (.ptr k 0) (.ptr k2 0) (.int .i64 y.a) (.int .u8 y.op) (.bool (decide (y.op=21∨y.op=22))) S3:=by
 refine c0W ?_
 unfold b6q
 rw[B3]
 refine⟨fun hf=> ?_,fun hf=> ?_⟩
 ·have e:q9 y=([y.a],[y.a]):=by
   unfold q9
   repeat rw[if_neg (by omega)]
   try rw[if_pos (by omega)]
  rw[e]
  exact c8y (r:=([y.a],[y.a],true)) hle hn h2 rfl rfl
 exact orC (C:=fun b=>I6 E w0 false _ _ _ _ _ b S3) (d8h hle hn h0 h2 (by omega)) fun h=>orC h fun h=>orC h fun h=>orC h fun h=>orC h fun h=>tEq h
theorem d9l(hv:y.op=8∨y.op=9∨y.op=10∨y.op=21∨y.op=22∨(23≤y.op∧y.op≤35)∨y.op=47∨y.op=48∨y.op=49∨y.op=46∨y.op=51∨y.op=52∨(11≤y.op∧y.op≤20)):a1G E w0 false (i9 E (EfQ S ((q9 y).1,(q9 y).2,true))) (.ptr k 0) (.ptr k2 0) (.int .i64 y.a) (.int .u8 y.op) (.bool (decide (y.op=8∨y.op=9))) S3:=by
 refine c1a ?_
 unfold b6O
 rw[B3]
 refine⟨fun hf=> ?_,fun hf=> ?_⟩
 ·have e:q9 y=([0],[]):=by
   unfold q9
   repeat rw[if_neg (by omega)]
   try rw[if_pos (by omega)]
  rw[e]
  exact e0h (r:=([0],[],true)) hle hn h2 rfl rfl rfl
 refine tEq ?_
 rw[B3]
 refine⟨fun h10=> ?_,fun h10=> ?_⟩
 ·have e:q9 y=([0],[0,0]):=by
   unfold q9
   repeat rw[if_neg (by omega)]
   try rw[if_pos (by omega)]
  rw[e]
  exact c8y (r:=([0],[0,0],true)) hle hn h2 rfl rfl
 exact orC (C:=fun b=>a1O E w0 false _ _ _ _ _ b S3) (d9z hle hn h0 h2 (by omega)) fun h=>tEq h
theorem d8z(hv:y.op=4∨y.op=5∨y.op=7∨y.op=8∨y.op=9∨y.op=10∨y.op=21∨y.op=22∨(23≤y.op∧y.op≤35)∨y.op=47∨y.op=48∨y.op=49∨y.op=46∨y.op=51∨y.op=52∨(11≤y.op∧y.op≤20)):a1y E w0 false (i9 E (EfQ S ((q9 y).1,(q9 y).2,true))) (.ptr k 0) (.ptr k2 0) (.int .i64 y.a) (.int .u8 y.op) (.bool (decide (y.op=4∨y.op=5))) S3:=by
 refine c1C ?_
 unfold b7a
 rw[B3]
 refine⟨fun hf=> ?_,fun hf=> ?_⟩
 ·have e:q9 y=([],[4]):=by
   unfold q9
   repeat rw[if_neg (by omega)]
   try rw[if_pos (by omega)]
  rw[e]
  exact e2k (r:=([],[4],true)) hle hn h2 rfl rfl rfl
 refine tEq ?_
 rw[B3]
 refine⟨fun h7=> ?_,fun h7=> ?_⟩
 ·have e:q9 y=([],[0]):=by
   unfold q9
   repeat rw[if_neg (by omega)]
   try rw[if_pos (by omega)]
  rw[e]
  exact e2k (r:=([],[0],true)) hle hn h2 rfl rfl rfl
 exact orC (C:=fun b=>a1G E w0 false _ _ _ _ _ b S3) (d9l hle hn h0 h2 (by omega)) fun h=>tEq h
theorem d9D(hv:y.op=1∨y.op=2∨y.op=3∨y.op=4∨y.op=5∨y.op=7∨y.op=8∨y.op=9∨y.op=10∨y.op=21∨y.op=22∨(23≤y.op∧y.op≤35)∨y.op=47∨y.op=48∨y.op=49∨y.op=46∨y.op=51∨y.op=52∨(11≤y.op∧y.op≤20)):Z6 E w0 false (i9 E (EfQ S ((q9 y).1,(q9 y).2,true))) (.ptr k 0) (.ptr k2 0) (.int .i64 y.a) (.int .u8 y.op) (.bool (decide (y.op=1∨y.op=2∨y.op=3))) S3:=by
 refine c0q ?_
 unfold b6J
 rw[B3]
 refine⟨fun hf=> ?_,fun hf=> ?_⟩
 ·have e:q9 y=([],[y.op]):=by
   unfold q9
   rw[if_pos (by omega)]
  have l0:b8 S3 (.ptr k 0)=some (.int .u8 y.op):=by rw[D5 h0];rfl
  have w:IntKind.i64.wrap y.op=y.op:=j8 (by omega) (by omega)
  rw[e]
  refine⟨rfl, ?_, ?_,trivial⟩
  ·refine(D7 clN).useX ⟨trivial, ?_⟩
   simp only[u5,oD,j5,Nat.zero_add,l0,cvI,w]
   refine⟨⟨⟨by simp,rfl⟩,trivial⟩,D9 (l:=[y.op]) fun v' S6 g2=>⟨trivial,(A2 (a:= .nilSlc) (b:= .nilSlc) (c:= .bool true) g2.cells).useX ⟨trivial, ?_⟩⟩⟩
   exact a9B hle hn h2 (r:=([],[y.op],true)) ⟨S3,Own.nil _,g2⟩
  ·simp only[u5,oD,Nat.zero_add,l0,cvI,w]
   refine⟨trivial,D9 (l:=[y.op]) fun v' S4 g1=>⟨trivial,(D7 clN).useX ⟨trivial,(A2 (a:= .nilSlc) (b:= .nilSlc) (c:= .bool true) g1.cells).useX ⟨trivial, ?_⟩⟩⟩⟩
   exact a9B hle hn h2 (r:=([],[y.op],true)) ⟨S3,Own.nil _,g1⟩
 exact orC (C:=fun b=>a1y E w0 false _ _ _ _ _ b S3) (d8z hle hn h0 h2 (by omega)) fun h=>tEq h
end
section
variable{E:j6}{w0:World}
theorem d1G{y:In}(hy:y.Ok)(hv:(1≤y.op∧y.op≤35∧y.op≠6)∨(46≤y.op∧y.op≤52∧y.op≠50)){S:b9}:o9 Tryz.prog E w0 false b7f [inD y] S (EfQ S ((q9 y).1,(q9 y).2,true)):=by
 refine c7p ?_
 unfold c4s
 rw[inD,J5,oD]
 intro k a n
 intro k2 a2 n2
 obtain⟨ne2,n2'⟩:=b9.fresh n2
 generalize hS3:(S.set k _).set k2 _=S3
 have h2:S3 k2=some ⟨3,[[.nilSlc, .nilSlc, .bool false]],a2⟩:=by rw[←hS3];exact b9.set_same _ _ _
 have h0:S3 k=some ⟨4,[J2 y],a⟩:=by rw[←hS3,b9.set_ne _ _ _ (Ne.symm ne2)];exact b9.set_same _ _ _
 have hle:S.le S3:=by rw[←hS3];exact b9.le_set (b9.le_new n) n2'
 have l0:b8 S3 (.ptr k 0)=some (.int .u8 y.op):=by rw[D5 h0];rfl
 have l1:b8 S3 (.ptr k 1)=some (.int .i64 y.a):=by rw[D5 h0];rfl
 simp only[u5,Nat.zero_add]
 rw[oD,l1,oD,oD,l0,oD]
 exact orC (C:=fun b=>Z6 E w0 false _ _ _ _ _ b S3) (d9D hle n2' h0 h2 (by omega)) fun h=>orC h fun h=>tEq h
end
end
end Go.Proofs.YtchnpgddpaonhaaGreat.d
end
